/- What the code comes to: each function of the seat, by the engine. Printed by a tool (seat.py). -/
import Derived.Test.YtlfkabehppdohaaGreatProg
import Derived.Test.YtlfkabehppdohaaGreatDvI
import Derived.Test.YtlfkabehppdohaaGreatNat
import Derived.Test.YtlfkabehppdohaaGreatTrA
set_option linter.unusedVariables false
set_option linter.unusedSimpArgs false
set_option maxRecDepth 100000
open Go (IntKind)
namespace Go.Dv
abbrev polS : Pol := ⟨[0, 1, 2, 3, 4, 5, 6, 7, 8, 9, 10, 11, 12, 13, 14, 15, 16, 17, 18, 20, 21, 22, 23, 24, 25, 26, 27, 28, 29, 30, 31, 32, 33, 34, 36, 38, 39, 40, 41, 42, 43, 44, 45, 46, 47, 48, 49, 51, 53, 54, 55, 56, 57, 58, 59, 60, 61, 62, 63, 64, 65, 66, 67, 68, 69, 70, 71, 72, 73, 74, 75, 76, 77, 78, 79, 81, 82, 83, 84, 85, 88, 90, 91, 92, 93, 94, 95, 96, 97, 98, 100, 101, 102, 104, 106, 107, 108, 109, 111, 112, 113, 114, 115, 116, 117, 118, 119, 120, 121, 123, 124, 125, 126, 127, 128, 129, 131, 133, 136, 137, 139, 140, 141, 143, 144, 145, 146, 147, 148, 149, 150, 152, 153, 154, 155, 156, 157, 158, 159, 162, 163, 164, 165, 166, 169, 170, 171, 172, 173, 174, 175, 176, 177, 179, 180, 181, 182, 183, 185, 186, 187, 188, 189, 191, 192, 193, 194, 195, 196, 197, 198, 199, 200, 201, 202, 203, 204, 205, 206, 207, 208, 209, 210, 211, 212, 213, 214, 215, 216, 217, 218, 219, 220, 221, 222, 223, 224, 225, 226, 227, 228, 229, 230, 231, 232, 233, 234, 235] ++ [1000089, 1000110, 1000122], fun f => ((([] : List (Nat × List Nat)).lookup f).getD []), fun f => ((([(108, [122]), (66, [110]), (87, [89])] : List (Nat × List Nat)).lookup f).getD [])⟩
noncomputable abbrev tb0 : Table := ⟨funOf Go.Proofs.Tryz.prog polS, fun f => List.lookup f [(182, cmpPrim)]⟩
noncomputable abbrev tbS : Table := ⟨funOf Go.Proofs.Tryz.prog polS, fun f => List.lookup f [(132, insPrim 3 40), (152, sortPrim sNode cf_slices_SortFunc_Node 153), (167, insPrim 4 32), (178, insPrim 5 48), (182, cmpPrim), (184, cutPrim tb0 184)]⟩
noncomputable abbrev KS : Oracle := calls tbS (ex tbS)
noncomputable def S_152 : Spec := specI 5 sNode [.fn 153 []] slices_SortFunc_Node
noncomputable def S_178 : Spec := insertS 5 48
noncomputable def S_182 : Spec := cmpStrS
noncomputable def S_190 : Spec := cloneS 1 8
abbrev ti_154 : Tm := ⟨[(0, .one (.kd (.val (.list sI))))], []⟩
abbrev to_154 : Tm := ⟨[(0, .one (.kd (.val sI)))], []⟩
def an_154 : List (Nat × Ann) := [(57, .loop ⟨[(3, .one (.kd (.val sI))), (6, .one (.kd (.val (.list sI)))), (7, .one (.kd (.val sI))), (8, .one (.kd (.val sI)))], []⟩ [(.exit 0, ⟨[(3, .one (.kd (.val sI)))], []⟩), (.ret, ⟨[(2, .one (.kd (.val sI)))], []⟩)])]
noncomputable def S_154 : Spec := specO ti_154.gs (kinds to_154.gs) cmp_Or_int
abbrev ti_197 : Tm := ⟨[(0, .one (.kd (.val sI)))], []⟩
abbrev to_197 : Tm := ⟨[(0, .one (.kd (.val .bool)))], []⟩
def an_197 : List (Nat × Ann) := []
noncomputable def S_197 : Spec := specT ti_197.gs (kinds to_197.gs) cmp_isNaN_int
abbrev ti_179 : Tm := ⟨[(0, .one (.kd (.val sI))), (1, .one (.kd (.val sI)))], []⟩
abbrev to_179 : Tm := ⟨[(0, .one (.kd (.val sI)))], []⟩
def an_179 : List (Nat × Ann) := []
noncomputable def S_179 : Spec := specT ti_179.gs (kinds to_179.gs) cmp_Compare_int
abbrev ti_145 : Tm := ⟨[(0, .one (.kd (.val sStamp))), (1, .one (.kd (.val sStamp)))], []⟩
abbrev to_145 : Tm := ⟨[(0, .one (.kd (.val sI)))], []⟩
def an_145 : List (Nat × Ann) := []
noncomputable def S_145 : Spec := specO ti_145.gs (kinds to_145.gs) stamp_Cmp
abbrev ti_155 : Tm := ⟨[(0, .one (.kd (.val .str))), (1, .one (.kd (.val .str)))], []⟩
abbrev to_155 : Tm := ⟨[(0, .one (.kd (.val sI)))], []⟩
def an_155 : List (Nat × Ann) := []
noncomputable def S_155 : Spec := specT ti_155.gs (kinds to_155.gs) strings_Compare
abbrev ti_153 : Tm := ⟨[(0, .one (.kd (.val sNode))), (1, .one (.kd (.val sNode)))], []⟩
abbrev to_153 : Tm := ⟨[(0, .one (.kd (.val sI)))], []⟩
def an_153 : List (Nat × Ann) := []
noncomputable def S_153 : Spec := specO ti_153.gs (kinds to_153.gs) tree_Children_1
abbrev ti_192 : Tm := ⟨[(0, .one (.kd (.val sNode))), (1, .one (.kd (.val sStamp)))], []⟩
abbrev to_192 : Tm := ⟨[(0, .one (.kd (.val sI)))], []⟩
def an_192 : List (Nat × Ann) := []
noncomputable def S_192 : Spec := specO ti_192.gs (kinds to_192.gs) tree_find_1
abbrev ti_191 : Tm := ⟨[(0, .one (.kd (.val (.list sNode)))), (1, .one (.kd (.val sStamp))), (2, .one (.fix (.fn 192 [])))], []⟩
abbrev to_191 : Tm := ⟨[(0, .one (.kd (.val sI))), (1, .one (.kd (.val .bool)))], []⟩
def an_191 : List (Nat × Ann) := [(59, .loop ⟨[(0, .one (.kd (.val (.list sNode)))), (2, .one (.fix (.fn 192 []))), (4, .one (.fix (.ptr 0 0))), (8, .one (.kd (.val sI))), (9, .one (.kd (.val sI))), (10, .one (.kd (.val sI)))], [[.kd (.val sStamp)]]⟩ [(.exit 0, ⟨[(0, .one (.kd (.val (.list sNode)))), (2, .one (.fix (.fn 192 []))), (4, .one (.fix (.ptr 0 0))), (8, .one (.kd (.val sI))), (9, .one (.kd (.val sI)))], [[.kd (.val sStamp)]]⟩)]), (61, .join [(6, sI), (7, .bool)])]
noncomputable def S_191 : Spec := specO ti_191.gs (kinds to_191.gs) slices_BinarySearchFunc_Node_Stamp
abbrev ti_174 : Tm := ⟨[(0, .one (.kd (.val (.list sNode)))), (1, .one (.kd (.val sStamp)))], []⟩
abbrev to_174 : Tm := ⟨[(0, .one (.kd (.val sI))), (1, .one (.kd (.val .bool)))], []⟩
def an_174 : List (Nat × Ann) := []
noncomputable def S_174 : Spec := specO ti_174.gs (kinds to_174.gs) tree_find
abbrev ti_163 : Tm := ⟨[(0, .one (.kd (.val sLook))), (1, .one (.kd (.val sStamp)))], []⟩
abbrev to_163 : Tm := ⟨[(0, .one (.kd (.val sI)))], []⟩
def an_163 : List (Nat × Ann) := []
noncomputable def S_163 : Spec := specO ti_163.gs (kinds to_163.gs) shape_find_1
abbrev ti_162 : Tm := ⟨[(0, .one (.kd (.val (.list sLook)))), (1, .one (.kd (.val sStamp))), (2, .one (.fix (.fn 163 [])))], []⟩
abbrev to_162 : Tm := ⟨[(0, .one (.kd (.val sI))), (1, .one (.kd (.val .bool)))], []⟩
def an_162 : List (Nat × Ann) := [(59, .loop ⟨[(0, .one (.kd (.val (.list sLook)))), (2, .one (.fix (.fn 163 []))), (4, .one (.fix (.ptr 0 0))), (8, .one (.kd (.val sI))), (9, .one (.kd (.val sI))), (10, .one (.kd (.val sI)))], [[.kd (.val sStamp)]]⟩ [(.exit 0, ⟨[(0, .one (.kd (.val (.list sLook)))), (2, .one (.fix (.fn 163 []))), (4, .one (.fix (.ptr 0 0))), (8, .one (.kd (.val sI))), (9, .one (.kd (.val sI)))], [[.kd (.val sStamp)]]⟩)]), (61, .join [(6, sI), (7, .bool)])]
noncomputable def S_162 : Spec := specO ti_162.gs (kinds to_162.gs) slices_BinarySearchFunc_Look_Stamp
abbrev ti_131 : Tm := ⟨[(0, .one (.kd (.val (.list sLook)))), (1, .one (.kd (.val sStamp)))], []⟩
abbrev to_131 : Tm := ⟨[(0, .one (.kd (.val sI))), (1, .one (.kd (.val .bool)))], []⟩
def an_131 : List (Nat × Ann) := []
noncomputable def S_131 : Spec := specO ti_131.gs (kinds to_131.gs) shape_find
abbrev ti_82 : Tm := ⟨[(0, .one (.kd (.val sI)))], []⟩
abbrev to_82 : Tm := ⟨[(0, .one (.kd (.val sI))), (1, .one (.kd (.val sI))), (2, .one (.kd (.val sI))), (3, .one (.kd (.val .bool)))], []⟩
def an_82 : List (Nat × Ann) := [(428, .cut [(.normal, ⟨[(6, .one (.kd (.val sI))), (9, .one (.kd (.val .bool)))], []⟩)]), (1724, .cut [(.normal, ⟨[(6, .one (.kd (.val sI))), (12, .one (.kd (.val .bool)))], []⟩)]), (6902, .cut [(.normal, ⟨[(6, .one (.kd (.val sI))), (12, .one (.kd (.val .bool)))], []⟩)]), (6908, .cut [(.normal, ⟨[(6, .one (.kd (.val sI))), (18, .one (.kd (.val .bool)))], []⟩)]), (27614, .cut [(.normal, ⟨[(6, .one (.kd (.val sI))), (12, .one (.kd (.val .bool)))], []⟩)]), (110462, .cut [(.normal, ⟨[(6, .one (.kd (.val sI))), (12, .one (.kd (.val .bool)))], []⟩)]), (442364, .cut [(.normal, ⟨[(6, .one (.kd (.val sI))), (25, .one (.kd (.val .bool)))], []⟩)]), (1769462, .cut [(.normal, ⟨[(6, .one (.kd (.val sI))), (25, .one (.kd (.val .bool)))], []⟩)])]
noncomputable def S_82 : Spec := specO ti_82.gs (kinds to_82.gs) arrasref8_value
abbrev ti_88 : Tm := ⟨[(0, .one (.kd (.val sI))), (1, .one (.kd (.val sI)))], []⟩
abbrev to_88 : Tm := ⟨[(0, .one (.kd (.val sI)))], []⟩
def an_88 : List (Nat × Ann) := [(59, .join [(25, .bool)])]
noncomputable def S_88 : Spec := specO ti_88.gs (kinds to_88.gs) arrasref8_Check
abbrev ti_63 : Tm := ⟨[(0, .one (.kd (.val sStamp))), (1, .one (.kd (.val sStamp)))], []⟩
abbrev to_63 : Tm := ⟨[(0, .one (.kd (.val sI)))], []⟩
def an_63 : List (Nat × Ann) := [(11, .join [(23, .bool)])]
noncomputable def S_63 : Spec := specT ti_63.gs (kinds to_63.gs) arrasref6_Cmp
abbrev ti_103 : Tm := ⟨[(0, .one (.kd (.val sTree)))], []⟩
abbrev to_103 : Tm := ⟨[(0, .one (.kd (.own false 12 sOp)))], []⟩
def an_103 : List (Nat × Ann) := [(57, .loop ⟨[(1, .one (.fix (.ptr 0 0))), (3, .one (.kd (.own false 12 sOp))), (4, .one (.kd (.val sI)))], [[.kd (.val sTree)]]⟩ [(.exit 0, ⟨[(3, .one (.kd (.own false 12 sOp)))], [[.kd (.val sTree)]]⟩)])]
noncomputable def S_103 : Spec := specK ti_103 to_103 arrasref16_Moves
abbrev ti_57 : Tm := ⟨[(0, .one (.kd (.val (.list sNode)))), (1, .one (.kd (.val sStamp)))], []⟩
abbrev to_57 : Tm := ⟨[(0, .one (.kd (.val sI)))], []⟩
def an_57 : List (Nat × Ann) := [(25, .loop ⟨[(0, .one (.kd (.val (.list sNode)))), (3, .one (.fix (.ptr 0 0))), (5, .one (.kd (.val sI)))], [[.kd (.val sStamp)]]⟩ [(.exit 0, ⟨[], [[.kd (.val sStamp)]]⟩), (.ret, ⟨[(4, .one (.kd (.val sI)))], []⟩)])]
noncomputable def S_57 : Spec := specO ti_57.gs (kinds to_57.gs) arrasref16_Find
abbrev ti_96 : Tm := ⟨[(0, .one (.kd (.val (.list sNode)))), (1, .one (.kd (.val sStamp))), (2, .one (.kd (.val sStamp)))], []⟩
abbrev to_96 : Tm := ⟨[(0, .one (.kd (.val .bool)))], []⟩
def an_96 : List (Nat × Ann) := [(25, .loop ⟨[(0, .one (.kd (.val (.list sNode)))), (4, .one (.fix (.ptr 0 0))), (5, .one (.fix (.ptr 1 0))), (7, .one (.kd (.val sI)))], [[.kd (.val sStamp)], [.kd (.val sStamp)]]⟩ [(.exit 0, ⟨[], [[.kd (.val sStamp)], [.kd (.val sStamp)]]⟩), (.ret, ⟨[(6, .one (.kd (.val .bool)))], []⟩)])]
noncomputable def S_96 : Spec := specO ti_96.gs (kinds to_96.gs) arrasref16_over
abbrev ti_99 : Tm := ⟨[(0, .one (.kd (.view true (.list sNode))))], []⟩
abbrev to_99 : Tm := ⟨[(0, .one (.kd (.own false 5 sNode)))], []⟩
def an_99 : List (Nat × Ann) := [(57, .loop ⟨[(0, .one (.kd (.view true (.list sNode)))), (3, .one (.kd (.own false 5 sNode))), (4, .one (.kd (.val sI)))], []⟩ [(.exit 0, ⟨[(3, .one (.kd (.own false 5 sNode)))], []⟩)])]
noncomputable def S_99 : Spec := specK ti_99 to_99 arrasref0_CopyNodes
abbrev ti_193 : Tm := ⟨[(0, .one (.kd (.val (.list sI))))], []⟩
abbrev to_193 : Tm := ⟨[(0, .one (.kd (.val (.list sI))))], []⟩
def an_193 : List (Nat × Ann) := [(57, .loop ⟨[(0, .one (.kd (.val (.list sI)))), (3, .one (.kd (.own false 1 sI))), (4, .one (.kd (.val sI)))], []⟩ [(.exit 0, ⟨[(3, .one (.kd (.own false 1 sI)))], []⟩)])]
noncomputable def S_193 : Spec := specO ti_193.gs (kinds to_193.gs) arrasref0_CopyNumbers
abbrev ti_175 : Tm := ⟨[(0, .one (.kd (.val sOp)))], []⟩
abbrev to_175 : Tm := ⟨[(0, .one (.kd (.val sOp)))], []⟩
def an_175 : List (Nat × Ann) := []
noncomputable def S_175 : Spec := specO ti_175.gs (kinds to_175.gs) arrasref0_CopyOp
abbrev ti_138 : Tm := ⟨[(0, .one (.kd (.own false 5 sNode))), (1, .one (.kd (.val sOp)))], []⟩
abbrev to_138 : Tm := ⟨[(0, .one (.kd (.own false 5 sNode))), (1, .one (.kd (.val sEntry)))], []⟩
def an_138 : List (Nat × Ann) := [(60, .cut [(.normal, ⟨[(0, .one (.kd (.own false 5 sNode))), (3, .one (.fix (.ptr 0 0))), (5, .one (.fix (.ptr 1 0))), (6, .one (.fix (.ptr 2 0))), (7, .one (.kd (.val sI)))], [[.kd (.val sOp)], [.kd (.val sEntry)], [.kd (.val sEntry)]]⟩)]), (8185, .loop ⟨[(0, .one (.kd (.own false 5 sNode))), (3, .one (.fix (.ptr 0 0))), (5, .one (.fix (.ptr 1 0))), (6, .one (.fix (.ptr 2 0))), (8, .one (.fix (.ptr 3 0))), (10, .one (.kd (.own false 5 sNode))), (11, .one (.kd (.val .bool))), (12, .one (.kd (.val sI)))], [[.kd (.val sOp)], [.kd (.val sEntry)], [.kd (.val sEntry)], [.kd (.val sNode)]]⟩ [(.exit 0, ⟨[(5, .one (.fix (.ptr 1 0))), (6, .one (.fix (.ptr 2 0))), (8, .one (.fix (.ptr 3 0))), (10, .one (.kd (.own false 5 sNode))), (11, .one (.kd (.val .bool)))], [[.kd (.val sOp)], [.kd (.val sEntry)], [.kd (.val sEntry)], [.kd (.val sNode)]]⟩)]), (523919, .join [(79, .bool)])]
noncomputable def S_138 : Spec := specK ti_138 to_138 arrasref16_done
abbrev ti_105 : Tm := ⟨[(0, .one (.kd (.own false 12 sOp)))], []⟩
abbrev to_105 : Tm := ⟨[(0, .agg [.kd (.own false 5 sNode), .kd (.own false 17 sEntry)])], []⟩
def an_105 : List (Nat × Ann) := [(57, .loop ⟨[(0, .one (.kd (.own false 12 sOp))), (2, .one (.fix (.ptr 0 0))), (3, .one (.fix (.ptr 1 0))), (4, .one (.kd (.val sI)))], [[.fix (.nil), .fix (.nil)], [.kd (.own false 5 sNode), .kd (.own false 17 sEntry)]]⟩ [(.exit 0, ⟨[(2, .one (.fix (.ptr 0 0))), (3, .one (.fix (.ptr 1 0)))], [[.fix (.nil), .fix (.nil)], [.kd (.own false 5 sNode), .kd (.own false 17 sEntry)]]⟩)])]
noncomputable def S_105 : Spec := specK ti_105 to_105 arrasref16_Made
abbrev ti_127 : Tm := ⟨[(0, .one (.kd (.val sStamp)))], []⟩
abbrev to_127 : Tm := ⟨[(0, .one (.kd (.val .bool)))], []⟩
def an_127 : List (Nat × Ann) := [(5, .join [(2, .bool)])]
noncomputable def S_127 : Spec := specT ti_127.gs (kinds to_127.gs) stamp_Is
abbrev ti_128 : Tm := ⟨[(0, .one (.kd (.val (.list sI))))], []⟩
abbrev to_128 : Tm := ⟨[(0, .one (.kd (.val .bool)))], []⟩
def an_128 : List (Nat × Ann) := [(2, .lab 0 ⟨[(0, .one (.kd (.val (.list sI)))), (3, .one (.kd (.val sI)))], []⟩ [(.ret, ⟨[(2, .one (.kd (.val .bool)))], []⟩)]), (123, .join [(25, .bool)]), (243, .join [(2, .bool)])]
noncomputable def S_128 : Spec := specO ti_128.gs (kinds to_128.gs) have_Is
abbrev ti_109 : Tm := ⟨[], []⟩
abbrev to_109 : Tm := ⟨[(0, .one (.kd (.val sStamp)))], []⟩
def an_109 : List (Nat × Ann) := []
noncomputable def S_109 : Spec := specT ti_109.gs (kinds to_109.gs) stamp_Root
abbrev ti_156 : Tm := ⟨[(0, .one (.kd (.val .str)))], []⟩
abbrev to_156 : Tm := ⟨[(0, .one (.kd (.val .bool)))], []⟩
def an_156 : List (Nat × Ann) := [(5, .join [(2, .bool)])]
noncomputable def S_156 : Spec := specO ti_156.gs (kinds to_156.gs) key_Is
abbrev ti_170 : Tm := ⟨[], []⟩
abbrev to_170 : Tm := ⟨[(0, .one (.kd (.val sStamp)))], []⟩
def an_170 : List (Nat × Ann) := []
noncomputable def S_170 : Spec := specT ti_170.gs (kinds to_170.gs) stamp_Trash
abbrev ti_158 : Tm := ⟨[(0, .one (.kd (.val sStamp)))], []⟩
abbrev to_158 : Tm := ⟨[(0, .one (.kd (.val .bool)))], []⟩
def an_158 : List (Nat × Ann) := [(5, .join [(2, .bool)])]
noncomputable def S_158 : Spec := specT ti_158.gs (kinds to_158.gs) stamp_Place
abbrev ti_146 : Tm := ⟨[(0, .one (.kd (.val sI)))], []⟩
abbrev to_146 : Tm := ⟨[(0, .one (.kd (.val srule_prop)))], []⟩
def an_146 : List (Nat × Ann) := [(428, .cut [(.normal, ⟨[(2, .one (.fix (.ptr 0 0))), (3, .one (.kd (.val sI))), (7, .one (.kd (.val .bool)))], [[.kd (.val srule_prop)]]⟩)]), (1724, .cut [(.normal, ⟨[(2, .one (.fix (.ptr 0 0))), (3, .one (.kd (.val sI))), (11, .one (.kd (.val .bool)))], [[.kd (.val srule_prop)]]⟩)]), (6902, .cut [(.normal, ⟨[(2, .one (.fix (.ptr 0 0))), (3, .one (.kd (.val sI))), (11, .one (.kd (.val .bool)))], [[.kd (.val srule_prop)]]⟩)]), (6908, .cut [(.normal, ⟨[(2, .one (.fix (.ptr 0 0))), (3, .one (.kd (.val sI))), (18, .one (.kd (.val .bool)))], [[.kd (.val srule_prop)]]⟩)]), (27614, .cut [(.normal, ⟨[(2, .one (.fix (.ptr 0 0))), (3, .one (.kd (.val sI))), (11, .one (.kd (.val .bool)))], [[.kd (.val srule_prop)]]⟩)]), (110462, .cut [(.normal, ⟨[(2, .one (.fix (.ptr 0 0))), (3, .one (.kd (.val sI))), (11, .one (.kd (.val .bool)))], [[.kd (.val srule_prop)]]⟩)])]
noncomputable def S_146 : Spec := specO ti_146.gs (kinds to_146.gs) prop_ruleOf
abbrev ti_183 : Tm := ⟨[(0, .one (.kd (.val sI)))], []⟩
abbrev to_183 : Tm := ⟨[(0, .one (.kd (.val .bool)))], []⟩
def an_183 : List (Nat × Ann) := [(5, .join [(2, .bool)])]
noncomputable def S_183 : Spec := specT ti_183.gs (kinds to_183.gs) prop_Is
abbrev ti_159 : Tm := ⟨[(0, .one (.kd (.val sI))), (1, .one (.kd (.val sI)))], []⟩
abbrev to_159 : Tm := ⟨[(0, .one (.kd (.val .bool)))], []⟩
def an_159 : List (Nat × Ann) := [(5, .join [(4, .bool)])]
noncomputable def S_159 : Spec := specO ti_159.gs (kinds to_159.gs) prop_May
abbrev ti_129 : Tm := ⟨[(0, .one (.kd (.val sOp)))], []⟩
abbrev to_129 : Tm := ⟨[(0, .one (.kd (.val .bool)))], []⟩
def an_129 : List (Nat × Ann) := [(211, .join [(2, .bool)]), (859, .join [(2, .bool)])]
noncomputable def S_129 : Spec := specO ti_129.gs (kinds to_129.gs) op_kind
abbrev ti_85 : Tm := ⟨[(0, .one (.kd (.val sOp)))], []⟩
abbrev to_85 : Tm := ⟨[(0, .one (.kd (.val .bool)))], []⟩
def an_85 : List (Nat × Ann) := [(11, .join [(27, .bool)]), (13, .join [(2, .bool)])]
noncomputable def S_85 : Spec := specO ti_85.gs (kinds to_85.gs) op_May
abbrev ti_139 : Tm := ⟨[(0, .one (.kd (.val sOp)))], []⟩
abbrev to_139 : Tm := ⟨[(0, .one (.kd (.val .bool)))], []⟩
def an_139 : List (Nat × Ann) := [(5, .join [(2, .bool)])]
noncomputable def S_139 : Spec := specO ti_139.gs (kinds to_139.gs) tree_move
abbrev ti_140 : Tm := ⟨[(0, .one (.kd (.val sOp))), (1, .one (.kd (.val sOp)))], []⟩
abbrev to_140 : Tm := ⟨[(0, .one (.kd (.val .bool)))], []⟩
def an_140 : List (Nat × Ann) := []
noncomputable def S_140 : Spec := specO ti_140.gs (kinds to_140.gs) op_Less
abbrev ti_194 : Tm := ⟨[(0, .one (.kd (.val (.list sI)))), (1, .one (.kd (.val (.list sI))))], []⟩
abbrev to_194 : Tm := ⟨[(0, .one (.kd (.val .bool)))], []⟩
def an_194 : List (Nat × Ann) := [(57, .loop ⟨[(0, .one (.kd (.val (.list sI)))), (1, .one (.kd (.val (.list sI)))), (12, .one (.kd (.val sI))), (13, .one (.kd (.val sI)))], []⟩ [(.exit 0, ⟨[], []⟩), (.ret, ⟨[(4, .one (.kd (.val .bool)))], []⟩)])]
noncomputable def S_194 : Spec := specO ti_194.gs (kinds to_194.gs) slices_Equal_int
abbrev ti_176 : Tm := ⟨[(0, .one (.kd (.val sOp))), (1, .one (.kd (.val sOp)))], []⟩
abbrev to_176 : Tm := ⟨[(0, .one (.kd (.val .bool)))], []⟩
def an_176 : List (Nat × Ann) := [(5, .join [(4, .bool)])]
noncomputable def S_176 : Spec := specO ti_176.gs (kinds to_176.gs) op_Same
abbrev ti_141 : Tm := ⟨[(0, .one (.kd (.val sEntry))), (1, .one (.kd (.val sEntry)))], []⟩
abbrev to_141 : Tm := ⟨[(0, .one (.kd (.val .bool)))], []⟩
def an_141 : List (Nat × Ann) := [(5, .join [(4, .bool)])]
noncomputable def S_141 : Spec := specO ti_141.gs (kinds to_141.gs) tree_same
abbrev ti_169 : Tm := ⟨[(0, .one (.kd (.val sOp)))], []⟩
abbrev to_169 : Tm := ⟨[(0, .one (.kd (.val sOp)))], []⟩
def an_169 : List (Nat × Ann) := []
noncomputable def S_169 : Spec := specO ti_169.gs (kinds to_169.gs) op_Own
abbrev ti_177 : Tm := ⟨[(0, .one (.kd (.at_ (.list sNode)))), (1, .one (.kd (.val sStamp))), (2, .one (.kd (.val sStamp)))], []⟩
abbrev to_177 : Tm := ⟨[(0, .one (.kd (.val .bool)))], []⟩
def an_177 : List (Nat × Ann) := [(2, .lab 0 ⟨[(0, .one (.kd (.at_ (.list sNode)))), (4, .one (.fix (.ptr 0 0))), (5, .one (.fix (.ptr 1 0)))], [[.kd (.val sStamp)], [.kd (.val sStamp)]]⟩ [(.ret, ⟨[(6, .one (.kd (.val .bool)))], []⟩)])]
noncomputable def S_177 : Spec := specO ti_177.gs (kinds to_177.gs) tree_work_circle
abbrev ti_142 : Tm := ⟨[(0, .one (.fix (.ptr 0 0))), (1, .one (.kd (.val sOp)))], [[.kd (.own false 5 sNode)]]⟩
abbrev to_142 : Tm := ⟨[(0, .one (.kd (.val sEntry)))], [[.kd (.own false 5 sNode)]]⟩
def an_142 : List (Nat × Ann) := [(60, .cut [(.normal, ⟨[(0, .one (.fix (.ptr 0 0))), (3, .one (.fix (.ptr 1 0))), (4, .one (.fix (.ptr 2 0))), (5, .one (.fix (.ptr 3 0))), (6, .one (.kd (.val sI))), (7, .one (.kd (.val .bool)))], [[.kd (.own false 5 sNode)], [.kd (.val sOp)], [.kd (.val sEntry)], [.kd (.val sEntry)]]⟩)])]
noncomputable def S_142 : Spec := specK ti_142 to_142 tree_work_do
abbrev ti_143 : Tm := ⟨[(0, .one (.kd (.val (.list sNode)))), (1, .one (.kd (.val (.list sNode))))], []⟩
abbrev to_143 : Tm := ⟨[(0, .one (.kd (.val .bool)))], []⟩
def an_143 : List (Nat × Ann) := [(57, .loop ⟨[(0, .one (.kd (.val (.list sNode)))), (1, .one (.kd (.val (.list sNode)))), (12, .one (.kd (.val sI))), (13, .one (.kd (.val sI)))], []⟩ [(.exit 0, ⟨[], []⟩), (.ret, ⟨[(4, .one (.kd (.val .bool)))], []⟩)])]
noncomputable def S_143 : Spec := specO ti_143.gs (kinds to_143.gs) slices_Equal_Node
abbrev ti_106 : Tm := ⟨[(0, .one (.kd (.val sTree)))], []⟩
abbrev to_106 : Tm := ⟨[(0, .one (.kd (.val .bool)))], []⟩
def an_106 : List (Nat × Ann) := [(57, .loop ⟨[(1, .one (.fix (.ptr 0 0))), (3, .one (.fix (.ptr 1 0))), (9, .one (.kd (.val (.list sEntry)))), (10, .one (.kd (.val sI))), (11, .one (.kd (.val sI)))], [[.kd (.val sTree)], [.kd (.own false 5 sNode)]]⟩ [(.exit 0, ⟨[(1, .one (.fix (.ptr 0 0))), (3, .one (.fix (.ptr 1 0)))], [[.kd (.val sTree)], [.kd (.own false 5 sNode)]]⟩), (.ret, ⟨[(2, .one (.kd (.val .bool)))], []⟩)])]
noncomputable def S_106 : Spec := specO ti_106.gs (kinds to_106.gs) tree_May
abbrev ti_144 : Tm := ⟨[(0, .one (.kd (.val (.list sReg))))], []⟩
abbrev to_144 : Tm := ⟨[(0, .one (.kd (.val .bool)))], []⟩
def an_144 : List (Nat × Ann) := [(2, .lab 0 ⟨[(0, .one (.kd (.val (.list sReg)))), (3, .one (.kd (.val sI)))], []⟩ [(.ret, ⟨[(2, .one (.kd (.val .bool)))], []⟩)]), (123, .join [(44, .bool)])]
noncomputable def S_144 : Spec := specO ti_144.gs (kinds to_144.gs) reg_May
abbrev ti_107 : Tm := ⟨[(0, .one (.kd (.val (.list sLook))))], []⟩
abbrev to_107 : Tm := ⟨[(0, .one (.kd (.val .bool)))], []⟩
def an_107 : List (Nat × Ann) := [(2, .lab 0 ⟨[(0, .one (.kd (.val (.list sLook)))), (3, .one (.kd (.val sI)))], []⟩ [(.ret, ⟨[(2, .one (.kd (.val .bool)))], []⟩)]), (123, .join [(49, .bool)])]
noncomputable def S_107 : Spec := specO ti_107.gs (kinds to_107.gs) shape_looks
abbrev ti_65 : Tm := ⟨[(0, .one (.kd (.val sShape)))], []⟩
abbrev to_65 : Tm := ⟨[(0, .one (.kd (.val .bool)))], []⟩
def an_65 : List (Nat × Ann) := [(5, .join [(2, .bool)])]
noncomputable def S_65 : Spec := specO ti_65.gs (kinds to_65.gs) shape_IsShape
abbrev ti_123 : Tm := ⟨[(0, .one (.kd (.val sTree))), (1, .one (.kd (.val sStamp)))], []⟩
abbrev to_123 : Tm := ⟨[(0, .one (.kd (.val (.list sNode))))], []⟩
def an_123 : List (Nat × Ann) := [(25, .loop ⟨[(3, .one (.fix (.ptr 1 0))), (4, .one (.kd (.own false 5 sNode))), (8, .one (.kd (.val (.list sNode)))), (9, .one (.kd (.val sI))), (10, .one (.kd (.val sI)))], [[.kd (.val sTree)], [.kd (.val sStamp)]]⟩ [(.exit 0, ⟨[(4, .one (.kd (.own false 5 sNode)))], [[.kd (.val sTree)], [.kd (.val sStamp)]]⟩)])]
noncomputable def S_123 : Spec := specO ti_123.gs (kinds to_123.gs) tree_Children
abbrev ti_90 : Tm := ⟨[(0, .one (.kd (.val sShape))), (1, .one (.kd (.val sStamp)))], []⟩
abbrev to_90 : Tm := ⟨[(0, .one (.kd (.val (.list sReg))))], []⟩
def an_90 : List (Nat × Ann) := []
noncomputable def S_90 : Spec := specO ti_90.gs (kinds to_90.gs) shape_Regs
abbrev ti_110 : Tm := ⟨[], []⟩
abbrev to_110 : Tm := ⟨[(0, .agg [.kd (.own false 1 sI)])], []⟩
def an_110 : List (Nat × Ann) := [(25, .loop ⟨[(0, .one (.fix (.ptr 0 0))), (2, .one (.kd (.val sI)))], [[.kd (.own false 1 sI)]]⟩ [(.exit 0, ⟨[(0, .one (.fix (.ptr 0 0)))], [[.kd (.own false 1 sI)]]⟩)])]
noncomputable def S_110 : Spec := specK ti_110 to_110 prop_Plain
abbrev ti_151 : Tm := ⟨[(0, .one (.kd (.view true sStyle)))], []⟩
abbrev to_151 : Tm := ⟨[(0, .agg [.kd (.own false 1 sI)])], []⟩
def an_151 : List (Nat × Ann) := [(57, .loop ⟨[(1, .one (.fix (.ptr 0 0))), (2, .one (.fix (.ptr 1 0))), (7, .one (.kd (.val sI))), (8, .one (.kd (.val sI)))], [[.kd (.view true (.list sI))], [.kd (.own false 1 sI)]]⟩ [(.exit 0, ⟨[(2, .one (.fix (.ptr 1 0)))], [[.kd (.view true (.list sI))], [.kd (.own false 1 sI)]]⟩)])]
noncomputable def S_151 : Spec := specK ti_151 to_151 prop_Below
abbrev ti_1000122 : Tm := ⟨[(0, .one (.kd (.val sShape))), (1, .one (.kd (.val sStamp))), (2, .one (.kd (.val sStyle)))], []⟩
abbrev to_1000122 : Tm := ⟨[(0, .one (.kd (.val sStyle)))], []⟩
def an_1000122 : List (Nat × Ann) := [(57, .loop ⟨[(6, .one (.fix (.ptr 3 0))), (7, .one (.fix (.ptr 4 0))), (14, .one (.kd (.val (.list sReg)))), (15, .one (.kd (.val sI))), (16, .one (.kd (.val sI)))], [[.kd (.val sShape)], [.kd (.val sStamp)], [.kd (.val (.list sI))], [.fix (.nil)], [.kd (.own false 1 sI)]]⟩ [(.exit 0, ⟨[(6, .one (.fix (.ptr 3 0))), (7, .one (.fix (.ptr 4 0)))], [[.kd (.val sShape)], [.kd (.val sStamp)], [.kd (.val (.list sI))], [.fix (.nil)], [.kd (.own false 1 sI)]]⟩)])]
noncomputable def S_1000122 : Spec := specO ti_1000122.gs (kinds to_1000122.gs) look_style_v
abbrev ti_108 : Tm := ⟨[(0, .one (.kd (.val sShape))), (1, .one (.kd (.val sStamp))), (2, .one (.kd (.val sStyle))), (3, .one (.kd (.val sI)))], []⟩
abbrev to_108 : Tm := ⟨[(0, .one (.kd (.val sBox)))], []⟩
def an_108 : List (Nat × Ann) := [(121, .loop ⟨[(3, .one (.kd (.val sI))), (4, .one (.fix (.ptr 0 0))), (6, .one (.fix (.ptr 2 0))), (8, .one (.fix (.ptr 3 0))), (9, .one (.fix (.ptr 4 0))), (22, .one (.kd (.val (.list sNode)))), (23, .one (.kd (.val sI))), (24, .one (.kd (.val sI)))], [[.kd (.val sShape)], [.kd (.val sStamp)], [.kd (.val (.list sI))], [.kd (.val sI), .kd (.val sI), .fix (.nil), .fix (.nil)], [.kd (.val sI), .kd (.val sI), .kd (.val (.list sI)), .kd (.own false 4 sBox)]]⟩ [(.exit 0, ⟨[(8, .one (.fix (.ptr 3 0))), (9, .one (.fix (.ptr 4 0)))], [[.kd (.val sShape)], [.kd (.val sStamp)], [.kd (.val (.list sI))], [.kd (.val sI), .kd (.val sI), .fix (.nil), .fix (.nil)], [.kd (.val sI), .kd (.val sI), .kd (.val (.list sI)), .kd (.own false 4 sBox)]]⟩)])]
noncomputable abbrev Sr_108 (F : St ti_108 → Option (St to_108)) : Spec := specO ti_108.gs (kinds to_108.gs) F
noncomputable def S_108 : Spec := specO ti_108.gs (kinds to_108.gs) look_box
abbrev ti_1000110 : Tm := ⟨[], []⟩
abbrev to_1000110 : Tm := ⟨[(0, .one (.kd (.val sStyle)))], []⟩
def an_1000110 : List (Nat × Ann) := [(25, .loop ⟨[(0, .one (.fix (.ptr 0 0))), (2, .one (.kd (.val sI)))], [[.kd (.own false 1 sI)]]⟩ [(.exit 0, ⟨[(0, .one (.fix (.ptr 0 0)))], [[.kd (.own false 1 sI)]]⟩)])]
noncomputable def S_1000110 : Spec := specO ti_1000110.gs (kinds to_1000110.gs) prop_Plain_v
abbrev ti_66 : Tm := ⟨[(0, .one (.kd (.val sShape)))], []⟩
abbrev to_66 : Tm := ⟨[(0, .one (.kd (.val sBox)))], []⟩
def an_66 : List (Nat × Ann) := []
noncomputable def S_66 : Spec := specO ti_66.gs (kinds to_66.gs) look_All
abbrev ti_17 : Tm := ⟨[(0, .one (.kd (.val sShape)))], []⟩
abbrev to_17 : Tm := ⟨[(0, .one (.kd (.val sBox))), (1, .one (.kd (.val sI)))], []⟩
def an_17 : List (Nat × Ann) := []
noncomputable def S_17 : Spec := specO ti_17.gs (kinds to_17.gs) look_Boxes
abbrev ti_18 : Tm := ⟨[(0, .one (.kd (.val sI)))], []⟩
abbrev to_18 : Tm := ⟨[(0, .one (.kd (.val sI)))], []⟩
def an_18 : List (Nat × Ann) := []
noncomputable def S_18 : Spec := specT ti_18.gs (kinds to_18.gs) arraslaw18_num
abbrev ti_147 : Tm := ⟨[(0, .one (.kd (.val sEntry)))], []⟩
abbrev to_147 : Tm := ⟨[(0, .one (.kd (.val sEntry)))], []⟩
def an_147 : List (Nat × Ann) := []
noncomputable def S_147 : Spec := specO ti_147.gs (kinds to_147.gs) arrasref0_CopyEntry
abbrev ti_114 : Tm := ⟨[(0, .one (.kd (.val (.list sEntry))))], []⟩
abbrev to_114 : Tm := ⟨[(0, .one (.kd (.val (.list sEntry))))], []⟩
def an_114 : List (Nat × Ann) := [(57, .loop ⟨[(0, .one (.kd (.val (.list sEntry)))), (3, .one (.kd (.own false 17 sEntry))), (4, .one (.kd (.val sI)))], []⟩ [(.exit 0, ⟨[(3, .one (.kd (.own false 17 sEntry)))], []⟩)])]
noncomputable def S_114 : Spec := specO ti_114.gs (kinds to_114.gs) arrasref0_CopyMoves
abbrev ti_71 : Tm := ⟨[(0, .one (.kd (.val sTree)))], []⟩
abbrev to_71 : Tm := ⟨[(0, .one (.kd (.val sTree)))], []⟩
def an_71 : List (Nat × Ann) := []
noncomputable def S_71 : Spec := specO ti_71.gs (kinds to_71.gs) arrasref0_CopyTree
abbrev ti_148 : Tm := ⟨[(0, .one (.kd (.val (.list sReg))))], []⟩
abbrev to_148 : Tm := ⟨[(0, .one (.kd (.val (.list sReg))))], []⟩
def an_148 : List (Nat × Ann) := [(57, .loop ⟨[(0, .one (.kd (.val (.list sReg)))), (3, .one (.kd (.own false 4 sReg))), (4, .one (.kd (.val sI)))], []⟩ [(.exit 0, ⟨[(3, .one (.kd (.own false 4 sReg)))], []⟩)])]
noncomputable def S_148 : Spec := specO ti_148.gs (kinds to_148.gs) arrasref0_CopyRegs
abbrev ti_115 : Tm := ⟨[(0, .one (.kd (.val sLook)))], []⟩
abbrev to_115 : Tm := ⟨[(0, .one (.kd (.val sLook)))], []⟩
def an_115 : List (Nat × Ann) := []
noncomputable def S_115 : Spec := specO ti_115.gs (kinds to_115.gs) arrasref0_CopyLook
abbrev ti_72 : Tm := ⟨[(0, .one (.kd (.val (.list sLook))))], []⟩
abbrev to_72 : Tm := ⟨[(0, .one (.kd (.val (.list sLook))))], []⟩
def an_72 : List (Nat × Ann) := [(57, .loop ⟨[(0, .one (.kd (.val (.list sLook)))), (3, .one (.kd (.own false 3 sLook))), (4, .one (.kd (.val sI)))], []⟩ [(.exit 0, ⟨[(3, .one (.kd (.own false 3 sLook)))], []⟩)])]
noncomputable def S_72 : Spec := specO ti_72.gs (kinds to_72.gs) arrasref0_CopyLooks
abbrev ti_25 : Tm := ⟨[(0, .one (.kd (.val sShape)))], []⟩
abbrev to_25 : Tm := ⟨[(0, .one (.kd (.val sShape)))], []⟩
def an_25 : List (Nat × Ann) := []
noncomputable def S_25 : Spec := specO ti_25.gs (kinds to_25.gs) arrasref0_CopyShape
abbrev ti_112 : Tm := ⟨[(0, .one (.kd (.val sTree))), (1, .one (.kd (.val sOp)))], []⟩
abbrev to_112 : Tm := ⟨[(0, .one (.kd (.val sTree))), (1, .one (.kd (.val .bool)))], []⟩
def an_112 : List (Nat × Ann) := [(249, .loop ⟨[(2, .one (.fix (.ptr 0 0))), (3, .one (.fix (.ptr 1 0))), (4, .one (.fix (.ptr 2 0))), (6, .one (.kd (.own false 12 sOp))), (7, .one (.kd (.val .bool))), (8, .one (.kd (.own false 12 sOp))), (9, .one (.kd (.val sI)))], [[.kd (.val sTree)], [.kd (.val sOp)], [.kd (.val sTree)]]⟩ [(.exit 0, ⟨[(3, .one (.fix (.ptr 1 0))), (4, .one (.fix (.ptr 2 0))), (6, .one (.kd (.own false 12 sOp))), (7, .one (.kd (.val .bool)))], [[.kd (.val sTree)], [.kd (.val sOp)], [.kd (.val sTree)]]⟩), (.ret, ⟨[(4, .one (.fix (.ptr 2 0))), (5, .one (.kd (.val .bool)))], [[.fix (.undef), .fix (.undef)], [.fix (.undef), .fix (.undef), .fix (.undef), .fix (.undef), .fix (.undef), .fix (.undef), .fix (.undef), .fix (.undef), .fix (.undef), .fix (.undef), .fix (.undef), .fix (.undef)], [.kd (.val sTree)]]⟩)]), (64075, .join [(35, .bool)])]
noncomputable def S_112 : Spec := specO ti_112.gs (kinds to_112.gs) arrasref16_Apply
abbrev ti_113 : Tm := ⟨[(0, .one (.kd (.val (.list sReg)))), (1, .one (.kd (.val sI))), (2, .one (.kd (.val sI))), (3, .one (.kd (.val sStamp)))], []⟩
abbrev to_113 : Tm := ⟨[(0, .one (.kd (.val (.list sReg))))], []⟩
def an_113 : List (Nat × Ann) := [(249, .loop ⟨[(0, .one (.kd (.val (.list sReg)))), (1, .one (.kd (.val sI))), (7, .one (.fix (.ptr 0 0))), (9, .one (.kd (.own false 4 sReg))), (10, .one (.kd (.val .bool))), (11, .one (.fix (.ptr 1 0))), (12, .one (.kd (.val sI)))], [[.kd (.val sStamp)], [.kd (.val sReg)]]⟩ [(.exit 0, ⟨[(9, .one (.kd (.own false 4 sReg))), (10, .one (.kd (.val .bool))), (11, .one (.fix (.ptr 1 0)))], [[.kd (.val sStamp)], [.kd (.val sReg)]]⟩)]), (32035, .join [(59, .bool)]), (256276, .cut [(.normal, ⟨[(0, .one (.kd (.val (.list sReg)))), (1, .one (.kd (.val sI))), (7, .one (.fix (.ptr 0 0))), (9, .one (.kd (.own false 4 sReg))), (10, .one (.kd (.val .bool))), (11, .one (.fix (.ptr 1 0))), (12, .one (.kd (.val sI)))], [[.kd (.val sStamp)], [.kd (.val sReg)]]⟩)])]
noncomputable def S_113 : Spec := specO ti_113.gs (kinds to_113.gs) arrasref14_Set
abbrev ti_69 : Tm := ⟨[(0, .one (.kd (.val sShape))), (1, .one (.kd (.val sOp)))], []⟩
abbrev to_69 : Tm := ⟨[(0, .one (.kd (.val sShape))), (1, .one (.kd (.val .bool)))], []⟩
def an_69 : List (Nat × Ann) := [(505, .loop ⟨[(3, .one (.fix (.ptr 1 0))), (4, .one (.fix (.ptr 2 0))), (6, .one (.fix (.ptr 3 0))), (9, .one (.kd (.val .bool))), (10, .one (.kd (.own false 3 sLook))), (11, .one (.kd (.val sI)))], [[.kd (.val sShape)], [.kd (.val sOp)], [.kd (.val sShape)], [.kd (.val sShape)]]⟩ [(.exit 0, ⟨[(3, .one (.fix (.ptr 1 0))), (4, .one (.fix (.ptr 2 0))), (6, .one (.fix (.ptr 3 0))), (9, .one (.kd (.val .bool))), (10, .one (.kd (.own false 3 sLook)))], [[.kd (.val sShape)], [.kd (.val sOp)], [.kd (.val sShape)], [.kd (.val sShape)]]⟩)]), (129611, .join [(53, .bool)]), (129612, .cut [(.normal, ⟨[(3, .one (.fix (.ptr 1 0))), (4, .one (.fix (.ptr 2 0))), (6, .one (.fix (.ptr 3 0))), (9, .one (.kd (.val .bool))), (10, .one (.kd (.own false 3 sLook))), (11, .one (.kd (.val sI))), (12, .one (.fix (.ptr 4 0))), (13, .one (.kd (.val sI)))], [[.kd (.val sShape)], [.kd (.val sOp)], [.kd (.val sShape)], [.kd (.val sShape)], [.kd (.val sLook)]]⟩)])]
noncomputable def S_69 : Spec := specO ti_69.gs (kinds to_69.gs) arrasref16_Does
abbrev ti_70 : Tm := ⟨[], []⟩
abbrev to_70 : Tm := ⟨[(0, .one (.kd (.val sOp)))], []⟩
def an_70 : List (Nat × Ann) := []
noncomputable def S_70 : Spec := specT ti_70.gs (kinds to_70.gs) arraslaw10_O
abbrev ti_24 : Tm := ⟨[], []⟩
abbrev to_24 : Tm := ⟨[(0, .one (.kd (.val .bool)))], []⟩
def an_24 : List (Nat × Ann) := [(29, .join [(0, .bool)])]
noncomputable def S_24 : Spec := specO ti_24.gs (kinds to_24.gs) arraslaw18_wakes
abbrev ti_149 : Tm := ⟨[(0, .one (.kd (.val sStyle)))], []⟩
abbrev to_149 : Tm := ⟨[(0, .one (.kd (.val .bool)))], []⟩
def an_149 : List (Nat × Ann) := [(2, .lab 0 ⟨[(1, .one (.fix (.ptr 0 0))), (3, .one (.kd (.val sI)))], [[.kd (.val (.list sI))]]⟩ [(.ret, ⟨[(2, .one (.kd (.val .bool)))], []⟩)])]
noncomputable def S_149 : Spec := specO ti_149.gs (kinds to_149.gs) prop_Whole
abbrev ti_116 : Tm := ⟨[(0, .one (.kd (.at_ sBox))), (1, .one (.kd (.val sI))), (2, .one (.kd (.val sI)))], []⟩
abbrev to_116 : Tm := ⟨[(0, .one (.kd (.val sI)))], []⟩
def an_116 : List (Nat × Ann) := [(27, .join [(23, .bool)]), (121, .loop ⟨[(0, .one (.kd (.at_ sBox))), (1, .one (.kd (.val sI))), (2, .one (.kd (.val sI))), (7, .one (.kd (.val sI))), (28, .one (.kd (.val sI))), (29, .one (.kd (.val sI)))], []⟩ [(.exit 0, ⟨[(7, .one (.kd (.val sI)))], []⟩), (.ret, ⟨[(6, .one (.kd (.val sI)))], []⟩)])]
noncomputable abbrev Sr_116 (F : St ti_116 → Option (St to_116)) : Spec := specO ti_116.gs (kinds to_116.gs) F
noncomputable def S_116 : Spec := specO ti_116.gs (kinds to_116.gs) look_count
abbrev ti_74 : Tm := ⟨[(0, .one (.kd (.val sBox)))], []⟩
abbrev to_74 : Tm := ⟨[(0, .one (.kd (.val sI)))], []⟩
def an_74 : List (Nat × Ann) := []
noncomputable def S_74 : Spec := specO ti_74.gs (kinds to_74.gs) look_Many
abbrev ti_27 : Tm := ⟨[(0, .one (.kd (.val sBox)))], []⟩
abbrev to_27 : Tm := ⟨[(0, .one (.kd (.val sI))), (1, .one (.kd (.val sI)))], []⟩
def an_27 : List (Nat × Ann) := []
noncomputable def S_27 : Spec := specO ti_27.gs (kinds to_27.gs) look_Count
abbrev ti_30 : Tm := ⟨[(0, .one (.kd (.val sBox)))], []⟩
abbrev to_30 : Tm := ⟨[(0, .one (.kd (.val sI)))], []⟩
def an_30 : List (Nat × Ann) := []
noncomputable def S_30 : Spec := specO ti_30.gs (kinds to_30.gs) look_Check
abbrev ti_31 : Tm := ⟨[(0, .one (.kd (.val sBox)))], []⟩
abbrev to_31 : Tm := ⟨[(0, .one (.kd (.val sI)))], []⟩
def an_31 : List (Nat × Ann) := [(57, .loop ⟨[(1, .one (.fix (.ptr 0 0))), (3, .one (.kd (.val sI))), (4, .one (.kd (.val sI)))], [[.kd (.val sBox)]]⟩ [(.exit 0, ⟨[(3, .one (.kd (.val sI)))], [[.kd (.val sBox)]]⟩)])]
noncomputable abbrev Sr_31 (F : St ti_31 → Option (St to_31)) : Spec := specO ti_31.gs (kinds to_31.gs) F
noncomputable def S_31 : Spec := specO ti_31.gs (kinds to_31.gs) arrasref18_Count
abbrev ti_33 : Tm := ⟨[(0, .one (.kd (.val sBox)))], []⟩
abbrev to_33 : Tm := ⟨[(0, .one (.kd (.val sI)))], []⟩
def an_33 : List (Nat × Ann) := [(57, .loop ⟨[(1, .one (.fix (.ptr 0 0))), (3, .one (.kd (.val sI))), (4, .one (.kd (.val sI)))], [[.kd (.val sBox)]]⟩ [(.exit 0, ⟨[(3, .one (.kd (.val sI)))], [[.kd (.val sBox)]]⟩)]), (463, .join [(18, .bool)])]
noncomputable abbrev Sr_33 (F : St ti_33 → Option (St to_33)) : Spec := specO ti_33.gs (kinds to_33.gs) F
noncomputable def S_33 : Spec := specO ti_33.gs (kinds to_33.gs) arraslaw0_BoxWeight
abbrev ti_120 : Tm := ⟨[(0, .one (.kd (.val sStyle)))], []⟩
abbrev to_120 : Tm := ⟨[(0, .one (.kd (.val .bool)))], []⟩
def an_120 : List (Nat × Ann) := [(57, .loop ⟨[(1, .one (.fix (.ptr 0 0))), (3, .one (.kd (.val sI)))], [[.kd (.val (.list sI))]]⟩ [(.exit 0, ⟨[], [[.kd (.val (.list sI))]]⟩), (.ret, ⟨[(2, .one (.kd (.val .bool)))], []⟩)])]
noncomputable def S_120 : Spec := specO ti_120.gs (kinds to_120.gs) arrasref8_All
abbrev ti_78 : Tm := ⟨[(0, .one (.kd (.val sBox))), (1, .one (.kd (.val sI)))], []⟩
abbrev to_78 : Tm := ⟨[(0, .one (.kd (.val .bool)))], []⟩
def an_78 : List (Nat × Ann) := [(11, .join [(13, .bool)]), (57, .loop ⟨[(1, .one (.kd (.val sI))), (2, .one (.fix (.ptr 0 0))), (5, .one (.kd (.val sI)))], [[.kd (.val sBox)]]⟩ [(.exit 0, ⟨[], [[.kd (.val sBox)]]⟩), (.ret, ⟨[(4, .one (.kd (.val .bool)))], []⟩)])]
noncomputable abbrev Sr_78 (F : St ti_78 → Option (St to_78)) : Spec := specO ti_78.gs (kinds to_78.gs) F
noncomputable def S_78 : Spec := specO ti_78.gs (kinds to_78.gs) arrasref18_fine
abbrev ti_34 : Tm := ⟨[(0, .one (.kd (.val sBox)))], []⟩
abbrev to_34 : Tm := ⟨[(0, .one (.kd (.val .bool)))], []⟩
def an_34 : List (Nat × Ann) := [(5, .join [(2, .bool)])]
noncomputable def S_34 : Spec := specO ti_34.gs (kinds to_34.gs) arrasref18_Box
abbrev ti_5 : Tm := ⟨[(0, .one (.kd (.val (.list sBox))))], []⟩
abbrev to_5 : Tm := ⟨[(0, .one (.kd (.val .bool)))], []⟩
def an_5 : List (Nat × Ann) := [(25, .loop ⟨[(0, .one (.kd (.val (.list sBox)))), (3, .one (.kd (.val sI)))], []⟩ [(.exit 0, ⟨[], []⟩), (.ret, ⟨[(2, .one (.kd (.val .bool)))], []⟩)]), (207, .join [(14, .bool)]), (13469, .join [(69, .bool)]), (107751, .join [(53, .bool)])]
noncomputable def S_5 : Spec := specO ti_5.gs (kinds to_5.gs) arraslaw18_LookChecks
theorem k_178 : SpecOk KS 178 S_178 := insertS_ok rfl
theorem k0_182 : SpecOk (calls tb0 (ex tb0)) 182 S_182 := cmpStrS_ok rfl
theorem k_190 : SpecOk KS 190 S_190 := cloneS_ok (zero := [.int .i64 0]) (by kernel_rfl) rfl rfl
theorem e0_154 (x : St ti_154) : (symF tb0 (spOf []) 154 (anOf an_154) 1000 ti_154 to_154 x).sem = cmp_Or_int x := by kernel_rfl
theorem k0_154 : SpecOk (calls tb0 (ex tb0)) 154 S_154 := plugO (f := 154) (an := anOf an_154) (fuel := 1000) (ti := ti_154) (to := to_154) (F := cmp_Or_int) (specsOk_nil) ⟨rfl, by kernel_rfl, by kernel_rfl, rfl, by kernel_rfl, by kernel_rfl⟩ (by kernel_rfl) rfl e0_154
theorem e_154 (x : St ti_154) : (symF tbS (spOf []) 154 (anOf an_154) 1000 ti_154 to_154 x).sem = cmp_Or_int x := by kernel_rfl
theorem k_154 : SpecOk KS 154 S_154 := plugO (f := 154) (an := anOf an_154) (fuel := 1000) (ti := ti_154) (to := to_154) (F := cmp_Or_int) (specsOk_nil) ⟨rfl, by kernel_rfl, by kernel_rfl, rfl, by kernel_rfl, by kernel_rfl⟩ (by kernel_rfl) rfl e_154
theorem se0_197 (x : St ti_197) : (symF tb0 (spOf []) 197 (anOf an_197) 1000 ti_197 to_197 x).sure = true := by kernel_rfl
theorem e0_197 (x : St ti_197) (d : St to_197) : (symF tb0 (spOf []) 197 (anOf an_197) 1000 ti_197 to_197 x).pick d = cmp_isNaN_int x := by kernel_rfl
theorem k0_197 : SpecOk (calls tb0 (ex tb0)) 197 S_197 := plugT (f := 197) (an := anOf an_197) (fuel := 1000) (ti := ti_197) (to := to_197) (F := cmp_isNaN_int) (specsOk_nil) ⟨rfl, by kernel_rfl, by kernel_rfl, rfl, by kernel_rfl, by kernel_rfl⟩ (by kernel_rfl) rfl se0_197 e0_197
theorem se_197 (x : St ti_197) : (symF tbS (spOf []) 197 (anOf an_197) 1000 ti_197 to_197 x).sure = true := by kernel_rfl
theorem e_197 (x : St ti_197) (d : St to_197) : (symF tbS (spOf []) 197 (anOf an_197) 1000 ti_197 to_197 x).pick d = cmp_isNaN_int x := by kernel_rfl
theorem k_197 : SpecOk KS 197 S_197 := plugT (f := 197) (an := anOf an_197) (fuel := 1000) (ti := ti_197) (to := to_197) (F := cmp_isNaN_int) (specsOk_nil) ⟨rfl, by kernel_rfl, by kernel_rfl, rfl, by kernel_rfl, by kernel_rfl⟩ (by kernel_rfl) rfl se_197 e_197
theorem se0_179 (x : St ti_179) : (symF tb0 (spOf [(197, S_197)]) 179 (anOf an_179) 1000 ti_179 to_179 x).sure = true := by kernel_rfl
theorem e0_179 (x : St ti_179) (d : St to_179) : (symF tb0 (spOf [(197, S_197)]) 179 (anOf an_179) 1000 ti_179 to_179 x).pick d = cmp_Compare_int x := by kernel_rfl
theorem k0_179 : SpecOk (calls tb0 (ex tb0)) 179 S_179 := plugT (f := 179) (an := anOf an_179) (fuel := 1000) (ti := ti_179) (to := to_179) (F := cmp_Compare_int) (specsOk_cons k0_197 (specsOk_nil)) ⟨rfl, by kernel_rfl, by kernel_rfl, rfl, by kernel_rfl, by kernel_rfl⟩ (by kernel_rfl) rfl se0_179 e0_179
theorem se_179 (x : St ti_179) : (symF tbS (spOf [(197, S_197)]) 179 (anOf an_179) 1000 ti_179 to_179 x).sure = true := by kernel_rfl
theorem e_179 (x : St ti_179) (d : St to_179) : (symF tbS (spOf [(197, S_197)]) 179 (anOf an_179) 1000 ti_179 to_179 x).pick d = cmp_Compare_int x := by kernel_rfl
theorem k_179 : SpecOk KS 179 S_179 := plugT (f := 179) (an := anOf an_179) (fuel := 1000) (ti := ti_179) (to := to_179) (F := cmp_Compare_int) (specsOk_cons k_197 (specsOk_nil)) ⟨rfl, by kernel_rfl, by kernel_rfl, rfl, by kernel_rfl, by kernel_rfl⟩ (by kernel_rfl) rfl se_179 e_179
theorem e0_145 (x : St ti_145) : (symF tb0 (spOf [(154, S_154), (179, S_179)]) 145 (anOf an_145) 1000 ti_145 to_145 x).sem = stamp_Cmp x := by kernel_rfl
theorem k0_145 : SpecOk (calls tb0 (ex tb0)) 145 S_145 := plugO (f := 145) (an := anOf an_145) (fuel := 1000) (ti := ti_145) (to := to_145) (F := stamp_Cmp) (specsOk_cons k0_154 (specsOk_cons k0_179 (specsOk_nil))) ⟨rfl, by kernel_rfl, by kernel_rfl, rfl, by kernel_rfl, by kernel_rfl⟩ (by kernel_rfl) rfl e0_145
theorem e_145 (x : St ti_145) : (symF tbS (spOf [(154, S_154), (179, S_179)]) 145 (anOf an_145) 1000 ti_145 to_145 x).sem = stamp_Cmp x := by kernel_rfl
theorem k_145 : SpecOk KS 145 S_145 := plugO (f := 145) (an := anOf an_145) (fuel := 1000) (ti := ti_145) (to := to_145) (F := stamp_Cmp) (specsOk_cons k_154 (specsOk_cons k_179 (specsOk_nil))) ⟨rfl, by kernel_rfl, by kernel_rfl, rfl, by kernel_rfl, by kernel_rfl⟩ (by kernel_rfl) rfl e_145
theorem se0_155 (x : St ti_155) : (symF tb0 (spOf [(182, S_182)]) 155 (anOf an_155) 1000 ti_155 to_155 x).sure = true := by kernel_rfl
theorem e0_155 (x : St ti_155) (d : St to_155) : (symF tb0 (spOf [(182, S_182)]) 155 (anOf an_155) 1000 ti_155 to_155 x).pick d = strings_Compare x := by kernel_rfl
theorem k0_155 : SpecOk (calls tb0 (ex tb0)) 155 S_155 := plugT (f := 155) (an := anOf an_155) (fuel := 1000) (ti := ti_155) (to := to_155) (F := strings_Compare) (specsOk_cons k0_182 (specsOk_nil)) ⟨rfl, by kernel_rfl, by kernel_rfl, rfl, by kernel_rfl, by kernel_rfl⟩ (by kernel_rfl) rfl se0_155 e0_155
theorem e0_153 (x : St ti_153) : (symF tb0 (spOf [(145, S_145), (154, S_154), (155, S_155)]) 153 (anOf an_153) 1000 ti_153 to_153 x).sem = tree_Children_1 x := by kernel_rfl
theorem k0_153 : SpecOk (calls tb0 (ex tb0)) 153 S_153 := plugO (f := 153) (an := anOf an_153) (fuel := 1000) (ti := ti_153) (to := to_153) (F := tree_Children_1) (specsOk_cons k0_145 (specsOk_cons k0_154 (specsOk_cons k0_155 (specsOk_nil)))) ⟨rfl, by kernel_rfl, by kernel_rfl, rfl, by kernel_rfl, by kernel_rfl⟩ (by kernel_rfl) rfl e0_153
theorem k_152 : SpecOk KS 152 S_152 := sortS_ok rfl swo_slices_SortFunc_Node rfl
theorem e_192 (x : St ti_192) : (symF tbS (spOf [(145, S_145)]) 192 (anOf an_192) 1000 ti_192 to_192 x).sem = tree_find_1 x := by kernel_rfl
theorem k_192 : SpecOk KS 192 S_192 := plugO (f := 192) (an := anOf an_192) (fuel := 1000) (ti := ti_192) (to := to_192) (F := tree_find_1) (specsOk_cons k_145 (specsOk_nil)) ⟨rfl, by kernel_rfl, by kernel_rfl, rfl, by kernel_rfl, by kernel_rfl⟩ (by kernel_rfl) rfl e_192
theorem e_191 (x : St ti_191) : (symF tbS (spOf [(192, S_192)]) 191 (anOf an_191) 1000 ti_191 to_191 x).sem = slices_BinarySearchFunc_Node_Stamp x := by kernel_rfl
theorem k_191 : SpecOk KS 191 S_191 := plugO (f := 191) (an := anOf an_191) (fuel := 1000) (ti := ti_191) (to := to_191) (F := slices_BinarySearchFunc_Node_Stamp) (specsOk_cons k_192 (specsOk_nil)) ⟨rfl, by kernel_rfl, by kernel_rfl, rfl, by kernel_rfl, by kernel_rfl⟩ (by kernel_rfl) rfl e_191
theorem e_174 (x : St ti_174) : (symF tbS (spOf [(191, S_191)]) 174 (anOf an_174) 1000 ti_174 to_174 x).sem = tree_find x := by kernel_rfl
theorem k_174 : SpecOk KS 174 S_174 := plugO (f := 174) (an := anOf an_174) (fuel := 1000) (ti := ti_174) (to := to_174) (F := tree_find) (specsOk_cons k_191 (specsOk_nil)) ⟨rfl, by kernel_rfl, by kernel_rfl, rfl, by kernel_rfl, by kernel_rfl⟩ (by kernel_rfl) rfl e_174
theorem e_163 (x : St ti_163) : (symF tbS (spOf [(145, S_145)]) 163 (anOf an_163) 1000 ti_163 to_163 x).sem = shape_find_1 x := by kernel_rfl
theorem k_163 : SpecOk KS 163 S_163 := plugO (f := 163) (an := anOf an_163) (fuel := 1000) (ti := ti_163) (to := to_163) (F := shape_find_1) (specsOk_cons k_145 (specsOk_nil)) ⟨rfl, by kernel_rfl, by kernel_rfl, rfl, by kernel_rfl, by kernel_rfl⟩ (by kernel_rfl) rfl e_163
theorem e_162 (x : St ti_162) : (symF tbS (spOf [(163, S_163)]) 162 (anOf an_162) 1000 ti_162 to_162 x).sem = slices_BinarySearchFunc_Look_Stamp x := by kernel_rfl
theorem k_162 : SpecOk KS 162 S_162 := plugO (f := 162) (an := anOf an_162) (fuel := 1000) (ti := ti_162) (to := to_162) (F := slices_BinarySearchFunc_Look_Stamp) (specsOk_cons k_163 (specsOk_nil)) ⟨rfl, by kernel_rfl, by kernel_rfl, rfl, by kernel_rfl, by kernel_rfl⟩ (by kernel_rfl) rfl e_162
theorem e_131 (x : St ti_131) : (symF tbS (spOf [(162, S_162)]) 131 (anOf an_131) 1000 ti_131 to_131 x).sem = shape_find x := by kernel_rfl
theorem k_131 : SpecOk KS 131 S_131 := plugO (f := 131) (an := anOf an_131) (fuel := 1000) (ti := ti_131) (to := to_131) (F := shape_find) (specsOk_cons k_162 (specsOk_nil)) ⟨rfl, by kernel_rfl, by kernel_rfl, rfl, by kernel_rfl, by kernel_rfl⟩ (by kernel_rfl) rfl e_131
theorem e_82 (x : St ti_82) : (symF tbS (spOf []) 82 (anOf an_82) 1000 ti_82 to_82 x).sem = arrasref8_value x := by kernel_rfl
theorem k_82 : SpecOk KS 82 S_82 := plugO (f := 82) (an := anOf an_82) (fuel := 1000) (ti := ti_82) (to := to_82) (F := arrasref8_value) (specsOk_nil) ⟨rfl, by kernel_rfl, by kernel_rfl, rfl, by kernel_rfl, by kernel_rfl⟩ (by kernel_rfl) rfl e_82
theorem e_88 (x : St ti_88) : (symF tbS (spOf [(82, S_82)]) 88 (anOf an_88) 1000 ti_88 to_88 x).sem = arrasref8_Check x := by kernel_rfl
theorem k_88 : SpecOk KS 88 S_88 := plugO (f := 88) (an := anOf an_88) (fuel := 1000) (ti := ti_88) (to := to_88) (F := arrasref8_Check) (specsOk_cons k_82 (specsOk_nil)) ⟨rfl, by kernel_rfl, by kernel_rfl, rfl, by kernel_rfl, by kernel_rfl⟩ (by kernel_rfl) rfl e_88
theorem se_63 (x : St ti_63) : (symF tbS (spOf []) 63 (anOf an_63) 1000 ti_63 to_63 x).sure = true := by kernel_rfl
theorem e_63 (x : St ti_63) (d : St to_63) : (symF tbS (spOf []) 63 (anOf an_63) 1000 ti_63 to_63 x).pick d = arrasref6_Cmp x := by kernel_rfl
theorem k_63 : SpecOk KS 63 S_63 := plugT (f := 63) (an := anOf an_63) (fuel := 1000) (ti := ti_63) (to := to_63) (F := arrasref6_Cmp) (specsOk_nil) ⟨rfl, by kernel_rfl, by kernel_rfl, rfl, by kernel_rfl, by kernel_rfl⟩ (by kernel_rfl) rfl se_63 e_63
theorem e_103 (x : St ti_103) : (symF tbS (spOf []) 103 (anOf an_103) 1000 ti_103 to_103 x).sem = arrasref16_Moves x := by kernel_rfl
theorem k_103 : SpecOk KS 103 S_103 := plugK (f := 103) (an := an_103) (fuel := 1000) (ti := ti_103) (to := to_103) (F := arrasref16_Moves) (specsOk_nil) ⟨by kernel_rfl, by kernel_rfl, by kernel_rfl, by kernel_rfl⟩ ⟨by kernel_rfl, by kernel_rfl, rfl, by kernel_rfl⟩ (by kernel_rfl) (by kernel_rfl) rfl e_103
theorem e_57 (x : St ti_57) : (symF tbS (spOf []) 57 (anOf an_57) 1000 ti_57 to_57 x).sem = arrasref16_Find x := by kernel_rfl
theorem k_57 : SpecOk KS 57 S_57 := plugO (f := 57) (an := anOf an_57) (fuel := 1000) (ti := ti_57) (to := to_57) (F := arrasref16_Find) (specsOk_nil) ⟨rfl, by kernel_rfl, by kernel_rfl, rfl, by kernel_rfl, by kernel_rfl⟩ (by kernel_rfl) rfl e_57
theorem e_96 (x : St ti_96) : (symF tbS (spOf [(57, S_57)]) 96 (anOf an_96) 1000 ti_96 to_96 x).sem = arrasref16_over x := by kernel_rfl
theorem k_96 : SpecOk KS 96 S_96 := plugO (f := 96) (an := anOf an_96) (fuel := 1000) (ti := ti_96) (to := to_96) (F := arrasref16_over) (specsOk_cons k_57 (specsOk_nil)) ⟨rfl, by kernel_rfl, by kernel_rfl, rfl, by kernel_rfl, by kernel_rfl⟩ (by kernel_rfl) rfl e_96
theorem e_99 (x : St ti_99) : (symF tbS (spOf []) 99 (anOf an_99) 1000 ti_99 to_99 x).sem = arrasref0_CopyNodes x := by kernel_rfl
theorem k_99 : SpecOk KS 99 S_99 := plugK (f := 99) (an := an_99) (fuel := 1000) (ti := ti_99) (to := to_99) (F := arrasref0_CopyNodes) (specsOk_nil) ⟨by kernel_rfl, by kernel_rfl, by kernel_rfl, by kernel_rfl⟩ ⟨by kernel_rfl, by kernel_rfl, rfl, by kernel_rfl⟩ (by kernel_rfl) (by kernel_rfl) rfl e_99
theorem e_193 (x : St ti_193) : (symF tbS (spOf []) 193 (anOf an_193) 1000 ti_193 to_193 x).sem = arrasref0_CopyNumbers x := by kernel_rfl
theorem k_193 : SpecOk KS 193 S_193 := plugO (f := 193) (an := anOf an_193) (fuel := 1000) (ti := ti_193) (to := to_193) (F := arrasref0_CopyNumbers) (specsOk_nil) ⟨rfl, by kernel_rfl, by kernel_rfl, rfl, by kernel_rfl, by kernel_rfl⟩ (by kernel_rfl) rfl e_193
theorem e_175 (x : St ti_175) : (symF tbS (spOf [(193, S_193)]) 175 (anOf an_175) 1000 ti_175 to_175 x).sem = arrasref0_CopyOp x := by kernel_rfl
theorem k_175 : SpecOk KS 175 S_175 := plugO (f := 175) (an := anOf an_175) (fuel := 1000) (ti := ti_175) (to := to_175) (F := arrasref0_CopyOp) (specsOk_cons k_193 (specsOk_nil)) ⟨rfl, by kernel_rfl, by kernel_rfl, rfl, by kernel_rfl, by kernel_rfl⟩ (by kernel_rfl) rfl e_175
theorem e_138 (x : St ti_138) : (symF tbS (spOf [(57, S_57), (63, S_63), (96, S_96), (99, S_99), (175, S_175)]) 138 (anOf an_138) 1000 ti_138 to_138 x).sem = arrasref16_done x := by kernel_rfl
theorem k_138 : SpecOk KS 138 S_138 := plugK (f := 138) (an := an_138) (fuel := 1000) (ti := ti_138) (to := to_138) (F := arrasref16_done) (specsOk_cons k_57 (specsOk_cons k_63 (specsOk_cons k_96 (specsOk_cons k_99 (specsOk_cons k_175 (specsOk_nil)))))) ⟨by kernel_rfl, by kernel_rfl, by kernel_rfl, by kernel_rfl⟩ ⟨by kernel_rfl, by kernel_rfl, rfl, by kernel_rfl⟩ (by kernel_rfl) (by kernel_rfl) rfl e_138
theorem e_105 (x : St ti_105) : (symF tbS (spOf [(138, S_138)]) 105 (anOf an_105) 1000 ti_105 to_105 x).sem = arrasref16_Made x := by kernel_rfl
theorem k_105 : SpecOk KS 105 S_105 := plugK (f := 105) (an := an_105) (fuel := 1000) (ti := ti_105) (to := to_105) (F := arrasref16_Made) (specsOk_cons k_138 (specsOk_nil)) ⟨by kernel_rfl, by kernel_rfl, by kernel_rfl, by kernel_rfl⟩ ⟨by kernel_rfl, by kernel_rfl, rfl, by kernel_rfl⟩ (by kernel_rfl) (by kernel_rfl) rfl e_105
theorem se_127 (x : St ti_127) : (symF tbS (spOf []) 127 (anOf an_127) 1000 ti_127 to_127 x).sure = true := by kernel_rfl
theorem e_127 (x : St ti_127) (d : St to_127) : (symF tbS (spOf []) 127 (anOf an_127) 1000 ti_127 to_127 x).pick d = stamp_Is x := by kernel_rfl
theorem k_127 : SpecOk KS 127 S_127 := plugT (f := 127) (an := anOf an_127) (fuel := 1000) (ti := ti_127) (to := to_127) (F := stamp_Is) (specsOk_nil) ⟨rfl, by kernel_rfl, by kernel_rfl, rfl, by kernel_rfl, by kernel_rfl⟩ (by kernel_rfl) rfl se_127 e_127
theorem e_128 (x : St ti_128) : (symF tbS (spOf []) 128 (anOf an_128) 1000 ti_128 to_128 x).sem = have_Is x := by kernel_rfl
theorem k_128 : SpecOk KS 128 S_128 := plugO (f := 128) (an := anOf an_128) (fuel := 1000) (ti := ti_128) (to := to_128) (F := have_Is) (specsOk_nil) ⟨rfl, by kernel_rfl, by kernel_rfl, rfl, by kernel_rfl, by kernel_rfl⟩ (by kernel_rfl) rfl e_128
theorem se_109 (x : St ti_109) : (symF tbS (spOf []) 109 (anOf an_109) 1000 ti_109 to_109 x).sure = true := by kernel_rfl
theorem e_109 (x : St ti_109) (d : St to_109) : (symF tbS (spOf []) 109 (anOf an_109) 1000 ti_109 to_109 x).pick d = stamp_Root x := by kernel_rfl
theorem k_109 : SpecOk KS 109 S_109 := plugT (f := 109) (an := anOf an_109) (fuel := 1000) (ti := ti_109) (to := to_109) (F := stamp_Root) (specsOk_nil) ⟨rfl, by kernel_rfl, by kernel_rfl, rfl, by kernel_rfl, by kernel_rfl⟩ (by kernel_rfl) rfl se_109 e_109
theorem e_156 (x : St ti_156) : (symF tbS (spOf []) 156 (anOf an_156) 1000 ti_156 to_156 x).sem = key_Is x := by kernel_rfl
theorem k_156 : SpecOk KS 156 S_156 := plugO (f := 156) (an := anOf an_156) (fuel := 1000) (ti := ti_156) (to := to_156) (F := key_Is) (specsOk_nil) ⟨rfl, by kernel_rfl, by kernel_rfl, rfl, by kernel_rfl, by kernel_rfl⟩ (by kernel_rfl) rfl e_156
theorem se_170 (x : St ti_170) : (symF tbS (spOf []) 170 (anOf an_170) 1000 ti_170 to_170 x).sure = true := by kernel_rfl
theorem e_170 (x : St ti_170) (d : St to_170) : (symF tbS (spOf []) 170 (anOf an_170) 1000 ti_170 to_170 x).pick d = stamp_Trash x := by kernel_rfl
theorem k_170 : SpecOk KS 170 S_170 := plugT (f := 170) (an := anOf an_170) (fuel := 1000) (ti := ti_170) (to := to_170) (F := stamp_Trash) (specsOk_nil) ⟨rfl, by kernel_rfl, by kernel_rfl, rfl, by kernel_rfl, by kernel_rfl⟩ (by kernel_rfl) rfl se_170 e_170
theorem se_158 (x : St ti_158) : (symF tbS (spOf [(109, S_109), (127, S_127), (170, S_170)]) 158 (anOf an_158) 1000 ti_158 to_158 x).sure = true := by kernel_rfl
theorem e_158 (x : St ti_158) (d : St to_158) : (symF tbS (spOf [(109, S_109), (127, S_127), (170, S_170)]) 158 (anOf an_158) 1000 ti_158 to_158 x).pick d = stamp_Place x := by kernel_rfl
theorem k_158 : SpecOk KS 158 S_158 := plugT (f := 158) (an := anOf an_158) (fuel := 1000) (ti := ti_158) (to := to_158) (F := stamp_Place) (specsOk_cons k_109 (specsOk_cons k_127 (specsOk_cons k_170 (specsOk_nil)))) ⟨rfl, by kernel_rfl, by kernel_rfl, rfl, by kernel_rfl, by kernel_rfl⟩ (by kernel_rfl) rfl se_158 e_158
theorem e_146 (x : St ti_146) : (symF tbS (spOf []) 146 (anOf an_146) 1000 ti_146 to_146 x).sem = prop_ruleOf x := by kernel_rfl
theorem k_146 : SpecOk KS 146 S_146 := plugO (f := 146) (an := anOf an_146) (fuel := 1000) (ti := ti_146) (to := to_146) (F := prop_ruleOf) (specsOk_nil) ⟨rfl, by kernel_rfl, by kernel_rfl, rfl, by kernel_rfl, by kernel_rfl⟩ (by kernel_rfl) rfl e_146
theorem se_183 (x : St ti_183) : (symF tbS (spOf []) 183 (anOf an_183) 1000 ti_183 to_183 x).sure = true := by kernel_rfl
theorem e_183 (x : St ti_183) (d : St to_183) : (symF tbS (spOf []) 183 (anOf an_183) 1000 ti_183 to_183 x).pick d = prop_Is x := by kernel_rfl
theorem k_183 : SpecOk KS 183 S_183 := plugT (f := 183) (an := anOf an_183) (fuel := 1000) (ti := ti_183) (to := to_183) (F := prop_Is) (specsOk_nil) ⟨rfl, by kernel_rfl, by kernel_rfl, rfl, by kernel_rfl, by kernel_rfl⟩ (by kernel_rfl) rfl se_183 e_183
theorem e_159 (x : St ti_159) : (symF tbS (spOf [(146, S_146), (183, S_183)]) 159 (anOf an_159) 1000 ti_159 to_159 x).sem = prop_May x := by kernel_rfl
theorem k_159 : SpecOk KS 159 S_159 := plugO (f := 159) (an := anOf an_159) (fuel := 1000) (ti := ti_159) (to := to_159) (F := prop_May) (specsOk_cons k_146 (specsOk_cons k_183 (specsOk_nil))) ⟨rfl, by kernel_rfl, by kernel_rfl, rfl, by kernel_rfl, by kernel_rfl⟩ (by kernel_rfl) rfl e_159
theorem e_129 (x : St ti_129) : (symF tbS (spOf [(109, S_109), (156, S_156), (158, S_158), (159, S_159)]) 129 (anOf an_129) 1000 ti_129 to_129 x).sem = op_kind x := by kernel_rfl
theorem k_129 : SpecOk KS 129 S_129 := plugO (f := 129) (an := anOf an_129) (fuel := 1000) (ti := ti_129) (to := to_129) (F := op_kind) (specsOk_cons k_109 (specsOk_cons k_156 (specsOk_cons k_158 (specsOk_cons k_159 (specsOk_nil))))) ⟨rfl, by kernel_rfl, by kernel_rfl, rfl, by kernel_rfl, by kernel_rfl⟩ (by kernel_rfl) rfl e_129
theorem e_85 (x : St ti_85) : (symF tbS (spOf [(127, S_127), (128, S_128), (129, S_129)]) 85 (anOf an_85) 1000 ti_85 to_85 x).sem = op_May x := by kernel_rfl
theorem k_85 : SpecOk KS 85 S_85 := plugO (f := 85) (an := anOf an_85) (fuel := 1000) (ti := ti_85) (to := to_85) (F := op_May) (specsOk_cons k_127 (specsOk_cons k_128 (specsOk_cons k_129 (specsOk_nil)))) ⟨rfl, by kernel_rfl, by kernel_rfl, rfl, by kernel_rfl, by kernel_rfl⟩ (by kernel_rfl) rfl e_85
theorem e_139 (x : St ti_139) : (symF tbS (spOf [(85, S_85)]) 139 (anOf an_139) 1000 ti_139 to_139 x).sem = tree_move x := by kernel_rfl
theorem k_139 : SpecOk KS 139 S_139 := plugO (f := 139) (an := anOf an_139) (fuel := 1000) (ti := ti_139) (to := to_139) (F := tree_move) (specsOk_cons k_85 (specsOk_nil)) ⟨rfl, by kernel_rfl, by kernel_rfl, rfl, by kernel_rfl, by kernel_rfl⟩ (by kernel_rfl) rfl e_139
theorem e_140 (x : St ti_140) : (symF tbS (spOf [(145, S_145)]) 140 (anOf an_140) 1000 ti_140 to_140 x).sem = op_Less x := by kernel_rfl
theorem k_140 : SpecOk KS 140 S_140 := plugO (f := 140) (an := anOf an_140) (fuel := 1000) (ti := ti_140) (to := to_140) (F := op_Less) (specsOk_cons k_145 (specsOk_nil)) ⟨rfl, by kernel_rfl, by kernel_rfl, rfl, by kernel_rfl, by kernel_rfl⟩ (by kernel_rfl) rfl e_140
theorem e_194 (x : St ti_194) : (symF tbS (spOf []) 194 (anOf an_194) 1000 ti_194 to_194 x).sem = slices_Equal_int x := by kernel_rfl
theorem k_194 : SpecOk KS 194 S_194 := plugO (f := 194) (an := anOf an_194) (fuel := 1000) (ti := ti_194) (to := to_194) (F := slices_Equal_int) (specsOk_nil) ⟨rfl, by kernel_rfl, by kernel_rfl, rfl, by kernel_rfl, by kernel_rfl⟩ (by kernel_rfl) rfl e_194
theorem e_176 (x : St ti_176) : (symF tbS (spOf [(194, S_194)]) 176 (anOf an_176) 1000 ti_176 to_176 x).sem = op_Same x := by kernel_rfl
theorem k_176 : SpecOk KS 176 S_176 := plugO (f := 176) (an := anOf an_176) (fuel := 1000) (ti := ti_176) (to := to_176) (F := op_Same) (specsOk_cons k_194 (specsOk_nil)) ⟨rfl, by kernel_rfl, by kernel_rfl, rfl, by kernel_rfl, by kernel_rfl⟩ (by kernel_rfl) rfl e_176
theorem e_141 (x : St ti_141) : (symF tbS (spOf [(176, S_176)]) 141 (anOf an_141) 1000 ti_141 to_141 x).sem = tree_same x := by kernel_rfl
theorem k_141 : SpecOk KS 141 S_141 := plugO (f := 141) (an := anOf an_141) (fuel := 1000) (ti := ti_141) (to := to_141) (F := tree_same) (specsOk_cons k_176 (specsOk_nil)) ⟨rfl, by kernel_rfl, by kernel_rfl, rfl, by kernel_rfl, by kernel_rfl⟩ (by kernel_rfl) rfl e_141
theorem e_169 (x : St ti_169) : (symF tbS (spOf [(190, S_190)]) 169 (anOf an_169) 1000 ti_169 to_169 x).sem = op_Own x := by kernel_rfl
theorem k_169 : SpecOk KS 169 S_169 := plugO (f := 169) (an := anOf an_169) (fuel := 1000) (ti := ti_169) (to := to_169) (F := op_Own) (specsOk_cons k_190 (specsOk_nil)) ⟨rfl, by kernel_rfl, by kernel_rfl, rfl, by kernel_rfl, by kernel_rfl⟩ (by kernel_rfl) rfl e_169
theorem e_177 (x : St ti_177) : (symF tbS (spOf [(174, S_174)]) 177 (anOf an_177) 1000 ti_177 to_177 x).sem = tree_work_circle x := by kernel_rfl
theorem k_177 : SpecOk KS 177 S_177 := plugO (f := 177) (an := anOf an_177) (fuel := 1000) (ti := ti_177) (to := to_177) (F := tree_work_circle) (specsOk_cons k_174 (specsOk_nil)) ⟨rfl, by kernel_rfl, by kernel_rfl, rfl, by kernel_rfl, by kernel_rfl⟩ (by kernel_rfl) rfl e_177
theorem e_142 (x : St ti_142) : (symF tbS (spOf [(169, S_169), (174, S_174), (177, S_177), (178, S_178)]) 142 (anOf an_142) 1000 ti_142 to_142 x).sem = tree_work_do x := by kernel_rfl
theorem k_142 : SpecOk KS 142 S_142 := plugK (f := 142) (an := an_142) (fuel := 1000) (ti := ti_142) (to := to_142) (F := tree_work_do) (specsOk_cons k_169 (specsOk_cons k_174 (specsOk_cons k_177 (specsOk_cons k_178 (specsOk_nil))))) ⟨by kernel_rfl, by kernel_rfl, by kernel_rfl, by kernel_rfl⟩ ⟨by kernel_rfl, by kernel_rfl, rfl, by kernel_rfl⟩ (by kernel_rfl) (by kernel_rfl) rfl e_142
theorem e_143 (x : St ti_143) : (symF tbS (spOf []) 143 (anOf an_143) 1000 ti_143 to_143 x).sem = slices_Equal_Node x := by kernel_rfl
theorem k_143 : SpecOk KS 143 S_143 := plugO (f := 143) (an := anOf an_143) (fuel := 1000) (ti := ti_143) (to := to_143) (F := slices_Equal_Node) (specsOk_nil) ⟨rfl, by kernel_rfl, by kernel_rfl, rfl, by kernel_rfl, by kernel_rfl⟩ (by kernel_rfl) rfl e_143
theorem e_106 (x : St ti_106) : (symF tbS (spOf [(139, S_139), (140, S_140), (141, S_141), (142, S_142), (143, S_143)]) 106 (anOf an_106) 1000 ti_106 to_106 x).sem = tree_May x := by kernel_rfl
theorem k_106 : SpecOk KS 106 S_106 := plugO (f := 106) (an := anOf an_106) (fuel := 1000) (ti := ti_106) (to := to_106) (F := tree_May) (specsOk_cons k_139 (specsOk_cons k_140 (specsOk_cons k_141 (specsOk_cons k_142 (specsOk_cons k_143 (specsOk_nil)))))) ⟨rfl, by kernel_rfl, by kernel_rfl, rfl, by kernel_rfl, by kernel_rfl⟩ (by kernel_rfl) rfl e_106
theorem e_144 (x : St ti_144) : (symF tbS (spOf [(127, S_127), (159, S_159)]) 144 (anOf an_144) 1000 ti_144 to_144 x).sem = reg_May x := by kernel_rfl
theorem k_144 : SpecOk KS 144 S_144 := plugO (f := 144) (an := anOf an_144) (fuel := 1000) (ti := ti_144) (to := to_144) (F := reg_May) (specsOk_cons k_127 (specsOk_cons k_159 (specsOk_nil))) ⟨rfl, by kernel_rfl, by kernel_rfl, rfl, by kernel_rfl, by kernel_rfl⟩ (by kernel_rfl) rfl e_144
theorem e_107 (x : St ti_107) : (symF tbS (spOf [(127, S_127), (144, S_144), (145, S_145)]) 107 (anOf an_107) 1000 ti_107 to_107 x).sem = shape_looks x := by kernel_rfl
theorem k_107 : SpecOk KS 107 S_107 := plugO (f := 107) (an := anOf an_107) (fuel := 1000) (ti := ti_107) (to := to_107) (F := shape_looks) (specsOk_cons k_127 (specsOk_cons k_144 (specsOk_cons k_145 (specsOk_nil)))) ⟨rfl, by kernel_rfl, by kernel_rfl, rfl, by kernel_rfl, by kernel_rfl⟩ (by kernel_rfl) rfl e_107
theorem e_65 (x : St ti_65) : (symF tbS (spOf [(106, S_106), (107, S_107)]) 65 (anOf an_65) 1000 ti_65 to_65 x).sem = shape_IsShape x := by kernel_rfl
theorem k_65 : SpecOk KS 65 S_65 := plugO (f := 65) (an := anOf an_65) (fuel := 1000) (ti := ti_65) (to := to_65) (F := shape_IsShape) (specsOk_cons k_106 (specsOk_cons k_107 (specsOk_nil))) ⟨rfl, by kernel_rfl, by kernel_rfl, rfl, by kernel_rfl, by kernel_rfl⟩ (by kernel_rfl) rfl e_65
theorem e_123 (x : St ti_123) : (symF tbS (spOf [(152, S_152)]) 123 (anOf an_123) 1000 ti_123 to_123 x).sem = tree_Children x := by kernel_rfl
theorem k_123 : SpecOk KS 123 S_123 := plugO (f := 123) (an := anOf an_123) (fuel := 1000) (ti := ti_123) (to := to_123) (F := tree_Children) (specsOk_cons k_152 (specsOk_nil)) ⟨rfl, by kernel_rfl, by kernel_rfl, rfl, by kernel_rfl, by kernel_rfl⟩ (by kernel_rfl) rfl e_123
theorem e_90 (x : St ti_90) : (symF tbS (spOf [(131, S_131)]) 90 (anOf an_90) 1000 ti_90 to_90 x).sem = shape_Regs x := by kernel_rfl
theorem k_90 : SpecOk KS 90 S_90 := plugO (f := 90) (an := anOf an_90) (fuel := 1000) (ti := ti_90) (to := to_90) (F := shape_Regs) (specsOk_cons k_131 (specsOk_nil)) ⟨rfl, by kernel_rfl, by kernel_rfl, rfl, by kernel_rfl, by kernel_rfl⟩ (by kernel_rfl) rfl e_90
theorem e_110 (x : St ti_110) : (symF tbS (spOf [(146, S_146)]) 110 (anOf an_110) 1000 ti_110 to_110 x).sem = prop_Plain x := by kernel_rfl
theorem k_110 : SpecOk KS 110 S_110 := plugK (f := 110) (an := an_110) (fuel := 1000) (ti := ti_110) (to := to_110) (F := prop_Plain) (specsOk_cons k_146 (specsOk_nil)) ⟨by kernel_rfl, by kernel_rfl, by kernel_rfl, by kernel_rfl⟩ ⟨by kernel_rfl, by kernel_rfl, rfl, by kernel_rfl⟩ (by kernel_rfl) (by kernel_rfl) rfl e_110
theorem e_151 (x : St ti_151) : (symF tbS (spOf [(110, S_110), (146, S_146)]) 151 (anOf an_151) 1000 ti_151 to_151 x).sem = prop_Below x := by kernel_rfl
theorem k_151 : SpecOk KS 151 S_151 := plugK (f := 151) (an := an_151) (fuel := 1000) (ti := ti_151) (to := to_151) (F := prop_Below) (specsOk_cons k_110 (specsOk_cons k_146 (specsOk_nil))) ⟨by kernel_rfl, by kernel_rfl, by kernel_rfl, by kernel_rfl⟩ ⟨by kernel_rfl, by kernel_rfl, rfl, by kernel_rfl⟩ (by kernel_rfl) (by kernel_rfl) rfl e_151
theorem e_1000122 (x : St ti_1000122) : (symF tbS (spOf [(90, S_90), (151, S_151)]) 1000122 (anOf an_1000122) 1000 ti_1000122 to_1000122 x).sem = look_style_v x := by kernel_rfl
theorem k_1000122 : SpecOk KS 1000122 S_1000122 := plugO (f := 1000122) (an := anOf an_1000122) (fuel := 1000) (ti := ti_1000122) (to := to_1000122) (F := look_style_v) (specsOk_cons k_90 (specsOk_cons k_151 (specsOk_nil))) ⟨rfl, by kernel_rfl, by kernel_rfl, rfl, by kernel_rfl, by kernel_rfl⟩ (by kernel_rfl) rfl e_1000122
theorem e_108 (F : St ti_108 → Option (St to_108)) (x : St ti_108) : (symF tbS (spOf [(108, Sr_108 F), (123, S_123), (1000122, S_1000122)]) 108 (anOf an_108) 1000 ti_108 to_108 x).sem = look_box_b F x := by kernel_rfl
theorem k_108 : SpecOk KS 108 S_108 := fixSO fun F hF => plugO (f := 108) (an := anOf an_108) (fuel := 1000) (ti := ti_108) (to := to_108) (F := look_box_b F) (specsOk_cons hF (specsOk_cons k_123 (specsOk_cons k_1000122 (specsOk_nil)))) ⟨rfl, by kernel_rfl, by kernel_rfl, rfl, by kernel_rfl, by kernel_rfl⟩ (by kernel_rfl) rfl (e_108 F)
theorem e_1000110 (x : St ti_1000110) : (symF tbS (spOf [(146, S_146)]) 1000110 (anOf an_1000110) 1000 ti_1000110 to_1000110 x).sem = prop_Plain_v x := by kernel_rfl
theorem k_1000110 : SpecOk KS 1000110 S_1000110 := plugO (f := 1000110) (an := anOf an_1000110) (fuel := 1000) (ti := ti_1000110) (to := to_1000110) (F := prop_Plain_v) (specsOk_cons k_146 (specsOk_nil)) ⟨rfl, by kernel_rfl, by kernel_rfl, rfl, by kernel_rfl, by kernel_rfl⟩ (by kernel_rfl) rfl e_1000110
theorem e_66 (x : St ti_66) : (symF tbS (spOf [(108, S_108), (109, S_109), (1000110, S_1000110)]) 66 (anOf an_66) 1000 ti_66 to_66 x).sem = look_All x := by kernel_rfl
theorem k_66 : SpecOk KS 66 S_66 := plugO (f := 66) (an := anOf an_66) (fuel := 1000) (ti := ti_66) (to := to_66) (F := look_All) (specsOk_cons k_108 (specsOk_cons k_109 (specsOk_cons k_1000110 (specsOk_nil)))) ⟨rfl, by kernel_rfl, by kernel_rfl, rfl, by kernel_rfl, by kernel_rfl⟩ (by kernel_rfl) rfl e_66
theorem e_17 (x : St ti_17) : (symF tbS (spOf [(65, S_65), (66, S_66)]) 17 (anOf an_17) 1000 ti_17 to_17 x).sem = look_Boxes x := by kernel_rfl
theorem k_17 : SpecOk KS 17 S_17 := plugO (f := 17) (an := anOf an_17) (fuel := 1000) (ti := ti_17) (to := to_17) (F := look_Boxes) (specsOk_cons k_65 (specsOk_cons k_66 (specsOk_nil))) ⟨rfl, by kernel_rfl, by kernel_rfl, rfl, by kernel_rfl, by kernel_rfl⟩ (by kernel_rfl) rfl e_17
theorem se_18 (x : St ti_18) : (symF tbS (spOf []) 18 (anOf an_18) 1000 ti_18 to_18 x).sure = true := by kernel_rfl
theorem e_18 (x : St ti_18) (d : St to_18) : (symF tbS (spOf []) 18 (anOf an_18) 1000 ti_18 to_18 x).pick d = arraslaw18_num x := by kernel_rfl
theorem k_18 : SpecOk KS 18 S_18 := plugT (f := 18) (an := anOf an_18) (fuel := 1000) (ti := ti_18) (to := to_18) (F := arraslaw18_num) (specsOk_nil) ⟨rfl, by kernel_rfl, by kernel_rfl, rfl, by kernel_rfl, by kernel_rfl⟩ (by kernel_rfl) rfl se_18 e_18
theorem e_147 (x : St ti_147) : (symF tbS (spOf [(175, S_175)]) 147 (anOf an_147) 1000 ti_147 to_147 x).sem = arrasref0_CopyEntry x := by kernel_rfl
theorem k_147 : SpecOk KS 147 S_147 := plugO (f := 147) (an := anOf an_147) (fuel := 1000) (ti := ti_147) (to := to_147) (F := arrasref0_CopyEntry) (specsOk_cons k_175 (specsOk_nil)) ⟨rfl, by kernel_rfl, by kernel_rfl, rfl, by kernel_rfl, by kernel_rfl⟩ (by kernel_rfl) rfl e_147
theorem e_114 (x : St ti_114) : (symF tbS (spOf [(147, S_147)]) 114 (anOf an_114) 1000 ti_114 to_114 x).sem = arrasref0_CopyMoves x := by kernel_rfl
theorem k_114 : SpecOk KS 114 S_114 := plugO (f := 114) (an := anOf an_114) (fuel := 1000) (ti := ti_114) (to := to_114) (F := arrasref0_CopyMoves) (specsOk_cons k_147 (specsOk_nil)) ⟨rfl, by kernel_rfl, by kernel_rfl, rfl, by kernel_rfl, by kernel_rfl⟩ (by kernel_rfl) rfl e_114
theorem e_71 (x : St ti_71) : (symF tbS (spOf [(99, S_99), (114, S_114)]) 71 (anOf an_71) 1000 ti_71 to_71 x).sem = arrasref0_CopyTree x := by kernel_rfl
theorem k_71 : SpecOk KS 71 S_71 := plugO (f := 71) (an := anOf an_71) (fuel := 1000) (ti := ti_71) (to := to_71) (F := arrasref0_CopyTree) (specsOk_cons k_99 (specsOk_cons k_114 (specsOk_nil))) ⟨rfl, by kernel_rfl, by kernel_rfl, rfl, by kernel_rfl, by kernel_rfl⟩ (by kernel_rfl) rfl e_71
theorem e_148 (x : St ti_148) : (symF tbS (spOf []) 148 (anOf an_148) 1000 ti_148 to_148 x).sem = arrasref0_CopyRegs x := by kernel_rfl
theorem k_148 : SpecOk KS 148 S_148 := plugO (f := 148) (an := anOf an_148) (fuel := 1000) (ti := ti_148) (to := to_148) (F := arrasref0_CopyRegs) (specsOk_nil) ⟨rfl, by kernel_rfl, by kernel_rfl, rfl, by kernel_rfl, by kernel_rfl⟩ (by kernel_rfl) rfl e_148
theorem e_115 (x : St ti_115) : (symF tbS (spOf [(148, S_148)]) 115 (anOf an_115) 1000 ti_115 to_115 x).sem = arrasref0_CopyLook x := by kernel_rfl
theorem k_115 : SpecOk KS 115 S_115 := plugO (f := 115) (an := anOf an_115) (fuel := 1000) (ti := ti_115) (to := to_115) (F := arrasref0_CopyLook) (specsOk_cons k_148 (specsOk_nil)) ⟨rfl, by kernel_rfl, by kernel_rfl, rfl, by kernel_rfl, by kernel_rfl⟩ (by kernel_rfl) rfl e_115
theorem e_72 (x : St ti_72) : (symF tbS (spOf [(115, S_115)]) 72 (anOf an_72) 1000 ti_72 to_72 x).sem = arrasref0_CopyLooks x := by kernel_rfl
theorem k_72 : SpecOk KS 72 S_72 := plugO (f := 72) (an := anOf an_72) (fuel := 1000) (ti := ti_72) (to := to_72) (F := arrasref0_CopyLooks) (specsOk_cons k_115 (specsOk_nil)) ⟨rfl, by kernel_rfl, by kernel_rfl, rfl, by kernel_rfl, by kernel_rfl⟩ (by kernel_rfl) rfl e_72
theorem e_25 (x : St ti_25) : (symF tbS (spOf [(71, S_71), (72, S_72)]) 25 (anOf an_25) 1000 ti_25 to_25 x).sem = arrasref0_CopyShape x := by kernel_rfl
theorem k_25 : SpecOk KS 25 S_25 := plugO (f := 25) (an := anOf an_25) (fuel := 1000) (ti := ti_25) (to := to_25) (F := arrasref0_CopyShape) (specsOk_cons k_71 (specsOk_cons k_72 (specsOk_nil))) ⟨rfl, by kernel_rfl, by kernel_rfl, rfl, by kernel_rfl, by kernel_rfl⟩ (by kernel_rfl) rfl e_25
theorem e_112 (x : St ti_112) : (symF tbS (spOf [(63, S_63), (103, S_103), (105, S_105)]) 112 (anOf an_112) 1000 ti_112 to_112 x).sem = arrasref16_Apply x := by kernel_rfl
theorem k_112 : SpecOk KS 112 S_112 := plugO (f := 112) (an := anOf an_112) (fuel := 1000) (ti := ti_112) (to := to_112) (F := arrasref16_Apply) (specsOk_cons k_63 (specsOk_cons k_103 (specsOk_cons k_105 (specsOk_nil)))) ⟨rfl, by kernel_rfl, by kernel_rfl, rfl, by kernel_rfl, by kernel_rfl⟩ (by kernel_rfl) rfl e_112
theorem e_113 (x : St ti_113) : (symF tbS (spOf [(63, S_63)]) 113 (anOf an_113) 1000 ti_113 to_113 x).sem = arrasref14_Set x := by kernel_rfl
theorem k_113 : SpecOk KS 113 S_113 := plugO (f := 113) (an := anOf an_113) (fuel := 1000) (ti := ti_113) (to := to_113) (F := arrasref14_Set) (specsOk_cons k_63 (specsOk_nil)) ⟨rfl, by kernel_rfl, by kernel_rfl, rfl, by kernel_rfl, by kernel_rfl⟩ (by kernel_rfl) rfl e_113
theorem e_69 (x : St ti_69) : (symF tbS (spOf [(25, S_25), (63, S_63), (71, S_71), (112, S_112), (113, S_113)]) 69 (anOf an_69) 1000 ti_69 to_69 x).sem = arrasref16_Does x := by kernel_rfl
theorem k_69 : SpecOk KS 69 S_69 := plugO (f := 69) (an := anOf an_69) (fuel := 1000) (ti := ti_69) (to := to_69) (F := arrasref16_Does) (specsOk_cons k_25 (specsOk_cons k_63 (specsOk_cons k_71 (specsOk_cons k_112 (specsOk_cons k_113 (specsOk_nil)))))) ⟨rfl, by kernel_rfl, by kernel_rfl, rfl, by kernel_rfl, by kernel_rfl⟩ (by kernel_rfl) rfl e_69
theorem se_70 (x : St ti_70) : (symF tbS (spOf []) 70 (anOf an_70) 1000 ti_70 to_70 x).sure = true := by kernel_rfl
theorem e_70 (x : St ti_70) (d : St to_70) : (symF tbS (spOf []) 70 (anOf an_70) 1000 ti_70 to_70 x).pick d = arraslaw10_O x := by kernel_rfl
theorem k_70 : SpecOk KS 70 S_70 := plugT (f := 70) (an := anOf an_70) (fuel := 1000) (ti := ti_70) (to := to_70) (F := arraslaw10_O) (specsOk_nil) ⟨rfl, by kernel_rfl, by kernel_rfl, rfl, by kernel_rfl, by kernel_rfl⟩ (by kernel_rfl) rfl se_70 e_70
theorem e_24 (x : St ti_24) : (symF tbS (spOf [(17, S_17), (18, S_18), (69, S_69), (70, S_70)]) 24 (anOf an_24) 1000 ti_24 to_24 x).sem = arraslaw18_wakes x := by kernel_rfl
theorem k_24 : SpecOk KS 24 S_24 := plugO (f := 24) (an := anOf an_24) (fuel := 1000) (ti := ti_24) (to := to_24) (F := arraslaw18_wakes) (specsOk_cons k_17 (specsOk_cons k_18 (specsOk_cons k_69 (specsOk_cons k_70 (specsOk_nil))))) ⟨rfl, by kernel_rfl, by kernel_rfl, rfl, by kernel_rfl, by kernel_rfl⟩ (by kernel_rfl) rfl e_24
theorem e_149 (x : St ti_149) : (symF tbS (spOf [(159, S_159)]) 149 (anOf an_149) 1000 ti_149 to_149 x).sem = prop_Whole x := by kernel_rfl
theorem k_149 : SpecOk KS 149 S_149 := plugO (f := 149) (an := anOf an_149) (fuel := 1000) (ti := ti_149) (to := to_149) (F := prop_Whole) (specsOk_cons k_159 (specsOk_nil)) ⟨rfl, by kernel_rfl, by kernel_rfl, rfl, by kernel_rfl, by kernel_rfl⟩ (by kernel_rfl) rfl e_149
theorem e_116 (F : St ti_116 → Option (St to_116)) (x : St ti_116) : (symF tbS (spOf [(116, Sr_116 F), (149, S_149)]) 116 (anOf an_116) 1000 ti_116 to_116 x).sem = look_count_b F x := by kernel_rfl
theorem k_116 : SpecOk KS 116 S_116 := fixSO fun F hF => plugO (f := 116) (an := anOf an_116) (fuel := 1000) (ti := ti_116) (to := to_116) (F := look_count_b F) (specsOk_cons hF (specsOk_cons k_149 (specsOk_nil))) ⟨rfl, by kernel_rfl, by kernel_rfl, rfl, by kernel_rfl, by kernel_rfl⟩ (by kernel_rfl) rfl (e_116 F)
theorem e_74 (x : St ti_74) : (symF tbS (spOf [(116, S_116)]) 74 (anOf an_74) 1000 ti_74 to_74 x).sem = look_Many x := by kernel_rfl
theorem k_74 : SpecOk KS 74 S_74 := plugO (f := 74) (an := anOf an_74) (fuel := 1000) (ti := ti_74) (to := to_74) (F := look_Many) (specsOk_cons k_116 (specsOk_nil)) ⟨rfl, by kernel_rfl, by kernel_rfl, rfl, by kernel_rfl, by kernel_rfl⟩ (by kernel_rfl) rfl e_74
theorem e_27 (x : St ti_27) : (symF tbS (spOf [(74, S_74)]) 27 (anOf an_27) 1000 ti_27 to_27 x).sem = look_Count x := by kernel_rfl
theorem k_27 : SpecOk KS 27 S_27 := plugO (f := 27) (an := anOf an_27) (fuel := 1000) (ti := ti_27) (to := to_27) (F := look_Count) (specsOk_cons k_74 (specsOk_nil)) ⟨rfl, by kernel_rfl, by kernel_rfl, rfl, by kernel_rfl, by kernel_rfl⟩ (by kernel_rfl) rfl e_27
theorem e_30 (x : St ti_30) : (symF tbS (spOf [(74, S_74)]) 30 (anOf an_30) 1000 ti_30 to_30 x).sem = look_Check x := by kernel_rfl
theorem k_30 : SpecOk KS 30 S_30 := plugO (f := 30) (an := anOf an_30) (fuel := 1000) (ti := ti_30) (to := to_30) (F := look_Check) (specsOk_cons k_74 (specsOk_nil)) ⟨rfl, by kernel_rfl, by kernel_rfl, rfl, by kernel_rfl, by kernel_rfl⟩ (by kernel_rfl) rfl e_30
theorem e_31 (F : St ti_31 → Option (St to_31)) (x : St ti_31) : (symF tbS (spOf [(31, Sr_31 F)]) 31 (anOf an_31) 1000 ti_31 to_31 x).sem = arrasref18_Count_b F x := by kernel_rfl
theorem k_31 : SpecOk KS 31 S_31 := fixSO fun F hF => plugO (f := 31) (an := anOf an_31) (fuel := 1000) (ti := ti_31) (to := to_31) (F := arrasref18_Count_b F) (specsOk_cons hF (specsOk_nil)) ⟨rfl, by kernel_rfl, by kernel_rfl, rfl, by kernel_rfl, by kernel_rfl⟩ (by kernel_rfl) rfl (e_31 F)
theorem e_33 (F : St ti_33 → Option (St to_33)) (x : St ti_33) : (symF tbS (spOf [(33, Sr_33 F)]) 33 (anOf an_33) 1000 ti_33 to_33 x).sem = arraslaw0_BoxWeight_b F x := by kernel_rfl
theorem k_33 : SpecOk KS 33 S_33 := fixSO fun F hF => plugO (f := 33) (an := anOf an_33) (fuel := 1000) (ti := ti_33) (to := to_33) (F := arraslaw0_BoxWeight_b F) (specsOk_cons hF (specsOk_nil)) ⟨rfl, by kernel_rfl, by kernel_rfl, rfl, by kernel_rfl, by kernel_rfl⟩ (by kernel_rfl) rfl (e_33 F)
theorem e_120 (x : St ti_120) : (symF tbS (spOf [(88, S_88)]) 120 (anOf an_120) 1000 ti_120 to_120 x).sem = arrasref8_All x := by kernel_rfl
theorem k_120 : SpecOk KS 120 S_120 := plugO (f := 120) (an := anOf an_120) (fuel := 1000) (ti := ti_120) (to := to_120) (F := arrasref8_All) (specsOk_cons k_88 (specsOk_nil)) ⟨rfl, by kernel_rfl, by kernel_rfl, rfl, by kernel_rfl, by kernel_rfl⟩ (by kernel_rfl) rfl e_120
theorem e_78 (F : St ti_78 → Option (St to_78)) (x : St ti_78) : (symF tbS (spOf [(78, Sr_78 F), (120, S_120)]) 78 (anOf an_78) 1000 ti_78 to_78 x).sem = arrasref18_fine_b F x := by kernel_rfl
theorem k_78 : SpecOk KS 78 S_78 := fixSO fun F hF => plugO (f := 78) (an := anOf an_78) (fuel := 1000) (ti := ti_78) (to := to_78) (F := arrasref18_fine_b F) (specsOk_cons hF (specsOk_cons k_120 (specsOk_nil))) ⟨rfl, by kernel_rfl, by kernel_rfl, rfl, by kernel_rfl, by kernel_rfl⟩ (by kernel_rfl) rfl (e_78 F)
theorem e_34 (x : St ti_34) : (symF tbS (spOf [(31, S_31), (78, S_78)]) 34 (anOf an_34) 1000 ti_34 to_34 x).sem = arrasref18_Box x := by kernel_rfl
theorem k_34 : SpecOk KS 34 S_34 := plugO (f := 34) (an := anOf an_34) (fuel := 1000) (ti := ti_34) (to := to_34) (F := arrasref18_Box) (specsOk_cons k_31 (specsOk_cons k_78 (specsOk_nil))) ⟨rfl, by kernel_rfl, by kernel_rfl, rfl, by kernel_rfl, by kernel_rfl⟩ (by kernel_rfl) rfl e_34
theorem e_5 (x : St ti_5) : (symF tbS (spOf [(18, S_18), (24, S_24), (27, S_27), (30, S_30), (31, S_31), (33, S_33), (34, S_34)]) 5 (anOf an_5) 1000 ti_5 to_5 x).sem = arraslaw18_LookChecks x := by kernel_rfl
theorem k_5 : SpecOk KS 5 S_5 := plugO (f := 5) (an := anOf an_5) (fuel := 1000) (ti := ti_5) (to := to_5) (F := arraslaw18_LookChecks) (specsOk_cons k_18 (specsOk_cons k_24 (specsOk_cons k_27 (specsOk_cons k_30 (specsOk_cons k_31 (specsOk_cons k_33 (specsOk_cons k_34 (specsOk_nil)))))))) ⟨rfl, by kernel_rfl, by kernel_rfl, rfl, by kernel_rfl, by kernel_rfl⟩ (by kernel_rfl) rfl e_5
end Go.Dv
