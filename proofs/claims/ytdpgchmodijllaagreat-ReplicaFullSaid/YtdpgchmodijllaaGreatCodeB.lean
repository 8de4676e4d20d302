/- What the code comes to: each function of the seat, by the engine. Printed by a tool (seat.py). -/
import Derived.Test.YtdpgchmodijllaaGreatProg
import Derived.Test.YtdpgchmodijllaaGreatDvI
import Derived.Test.YtdpgchmodijllaaGreatCode
set_option linter.unusedVariables false
set_option linter.unusedSimpArgs false
set_option maxRecDepth 100000
open Go (IntKind)
namespace Go.Dv.B
abbrev polS : Pol := ⟨[0, 1, 2, 3, 4, 5, 6, 7, 8, 9, 10, 11, 12, 13, 14, 15, 16, 17, 18, 19, 20, 22, 23, 24, 28, 29, 31, 32, 33, 34, 35, 36, 37, 38, 39, 40, 41, 42, 43, 44, 47, 50, 51, 56, 57, 58, 60, 61, 62, 63, 64, 65, 66, 67, 68, 69, 70, 73, 74, 76, 77, 78, 79, 80, 81, 82, 83, 84, 85, 90, 91, 92, 93, 94, 95, 96, 97, 98, 99, 105, 106, 107, 108, 109, 110, 111, 112, 114, 115, 116, 117, 118, 119, 121, 122, 123, 124, 129, 130, 131, 132, 133, 134, 135, 136, 137, 138, 140, 141, 142, 143, 146, 148, 151, 152, 153, 154, 155, 156, 157, 158, 159, 160, 161, 162, 163, 164, 166, 167, 170, 171, 172, 173, 174, 175, 176, 177, 178, 179, 180, 181, 182, 184, 185, 186, 188, 189, 191, 195, 196, 198, 200, 201, 202, 203, 204, 205, 206, 207, 208, 209, 210, 211, 212, 213, 214, 215, 217, 221, 222, 223, 224, 226, 229, 230, 231, 232, 233, 235, 236, 237, 238, 239, 240, 241, 242, 243, 244, 245, 246, 247, 248, 249, 252, 253, 254, 255, 256, 257, 258, 259, 260, 261, 262, 263, 264, 265, 266, 267, 268, 269, 270, 271, 272, 273, 274, 275, 276, 277, 278, 279, 280, 281, 282, 283, 284, 285, 286, 287, 288, 289, 290, 291, 292, 293, 294, 295, 296, 297, 298, 299, 300, 301, 302, 303, 304, 305, 306, 307, 308, 309, 310, 311, 312, 313, 314, 315, 316, 317, 318, 319, 320, 321, 322, 323, 324, 325, 326, 327, 328, 329, 330, 331, 332, 333, 334, 335], fun f => ((([(6, [3000002]), (89, [78])] : List (Nat × List Nat)).lookup f).getD []), fun f => ((([] : List (Nat × List Nat)).lookup f).getD [])⟩
noncomputable abbrev tbS : Table := ⟨funOf Go.Proofs.Tryz.prog polS, prS⟩
noncomputable def S_86 : Spec := cloneS 1 8
noncomputable def S_128 : Spec := cloneS 4 32
noncomputable def S_169 : Spec := cloneS 17 168
noncomputable def S_199 : Spec := insertS 3 40
noncomputable def S_234 : Spec := insertS 4 32
noncomputable def S_250 : Spec := deleteS 5 48
noncomputable def S_251 : Spec := insertS 5 48
abbrev ti_40 : Tm := ⟨[(0, .one (.kd (.val (.list sI))))], []⟩
abbrev to_40 : Tm := ⟨[(0, .one (.kd (.val .bool)))], []⟩
def an_40 : List (Nat × Ann) := [(2, .lab 0 ⟨[(0, .one (.kd (.val (.list sI)))), (3, .one (.kd (.val sI)))], []⟩ [(.ret, ⟨[(2, .one (.kd (.val .bool)))], []⟩)]), (123, .join [(25, .bool)]), (243, .join [(2, .bool)])]
noncomputable def S_40 : Spec := specO ti_40.gs (kinds to_40.gs) have_Is
abbrev ti_21 : Tm := ⟨[(0, .one (.kd (.val sI))), (1, .one (.kd (.val sI)))], []⟩
abbrev to_21 : Tm := ⟨[(0, .agg [.kd (.val sI), .kd (.val sI), .kd (.own false 1 sI), .kd (.own false 12 sOp), .kd (.own false 12 sOp), .kd (.own false 5 sNode), .kd (.own false 17 sEntry), .kd (.own false 3 sLook), .kd (.val (.pair sI sStamp))])], []⟩
def an_21 : List (Nat × Ann) := []
noncomputable def S_21 : Spec := specK ti_21 to_21 replica_empty
abbrev ti_116 : Tm := ⟨[(0, .one (.kd (.val sStamp)))], []⟩
abbrev to_116 : Tm := ⟨[(0, .one (.kd (.val .bool)))], []⟩
def an_116 : List (Nat × Ann) := [(5, .join [(2, .bool)])]
noncomputable def S_116 : Spec := specT ti_116.gs (kinds to_116.gs) stamp_Is
abbrev ti_138 : Tm := ⟨[], []⟩
abbrev to_138 : Tm := ⟨[(0, .one (.kd (.val sStamp)))], []⟩
def an_138 : List (Nat × Ann) := []
noncomputable def S_138 : Spec := specT ti_138.gs (kinds to_138.gs) stamp_Root
abbrev ti_131 : Tm := ⟨[], []⟩
abbrev to_131 : Tm := ⟨[(0, .one (.kd (.val sStamp)))], []⟩
def an_131 : List (Nat × Ann) := []
noncomputable def S_131 : Spec := specT ti_131.gs (kinds to_131.gs) stamp_Trash
abbrev ti_160 : Tm := ⟨[(0, .one (.kd (.val sStamp)))], []⟩
abbrev to_160 : Tm := ⟨[(0, .one (.kd (.val .bool)))], []⟩
def an_160 : List (Nat × Ann) := [(5, .join [(2, .bool)])]
noncomputable def S_160 : Spec := specT ti_160.gs (kinds to_160.gs) stamp_Place
abbrev ti_161 : Tm := ⟨[(0, .one (.kd (.val .str)))], []⟩
abbrev to_161 : Tm := ⟨[(0, .one (.kd (.val .bool)))], []⟩
def an_161 : List (Nat × Ann) := [(5, .join [(2, .bool)])]
noncomputable def S_161 : Spec := specO ti_161.gs (kinds to_161.gs) key_Is
abbrev ti_171 : Tm := ⟨[(0, .one (.kd (.val sI)))], []⟩
abbrev to_171 : Tm := ⟨[(0, .one (.kd (.val .bool)))], []⟩
def an_171 : List (Nat × Ann) := [(5, .join [(2, .bool)])]
noncomputable def S_171 : Spec := specT ti_171.gs (kinds to_171.gs) prop_Is
abbrev ti_184 : Tm := ⟨[(0, .one (.kd (.val sI)))], []⟩
abbrev to_184 : Tm := ⟨[(0, .one (.kd (.val srule_prop)))], []⟩
def an_184 : List (Nat × Ann) := [(428, .cut [(.normal, ⟨[(2, .one (.fix (.ptr 0 0))), (3, .one (.kd (.val sI))), (7, .one (.kd (.val .bool)))], [[.kd (.val srule_prop)]]⟩)]), (1724, .cut [(.normal, ⟨[(2, .one (.fix (.ptr 0 0))), (3, .one (.kd (.val sI))), (11, .one (.kd (.val .bool)))], [[.kd (.val srule_prop)]]⟩)]), (6902, .cut [(.normal, ⟨[(2, .one (.fix (.ptr 0 0))), (3, .one (.kd (.val sI))), (11, .one (.kd (.val .bool)))], [[.kd (.val srule_prop)]]⟩)]), (6908, .cut [(.normal, ⟨[(2, .one (.fix (.ptr 0 0))), (3, .one (.kd (.val sI))), (18, .one (.kd (.val .bool)))], [[.kd (.val srule_prop)]]⟩)]), (27614, .cut [(.normal, ⟨[(2, .one (.fix (.ptr 0 0))), (3, .one (.kd (.val sI))), (11, .one (.kd (.val .bool)))], [[.kd (.val srule_prop)]]⟩)]), (110462, .cut [(.normal, ⟨[(2, .one (.fix (.ptr 0 0))), (3, .one (.kd (.val sI))), (11, .one (.kd (.val .bool)))], [[.kd (.val srule_prop)]]⟩)])]
noncomputable def S_184 : Spec := specO ti_184.gs (kinds to_184.gs) prop_ruleOf
abbrev ti_162 : Tm := ⟨[(0, .one (.kd (.val sI))), (1, .one (.kd (.val sI)))], []⟩
abbrev to_162 : Tm := ⟨[(0, .one (.kd (.val .bool)))], []⟩
def an_162 : List (Nat × Ann) := [(5, .join [(4, .bool)])]
noncomputable def S_162 : Spec := specO ti_162.gs (kinds to_162.gs) prop_May
abbrev ti_117 : Tm := ⟨[(0, .one (.kd (.val sOp)))], []⟩
abbrev to_117 : Tm := ⟨[(0, .one (.kd (.val .bool)))], []⟩
def an_117 : List (Nat × Ann) := [(211, .join [(2, .bool)]), (859, .join [(2, .bool)])]
noncomputable def S_117 : Spec := specO ti_117.gs (kinds to_117.gs) op_kind
abbrev ti_73 : Tm := ⟨[(0, .one (.kd (.val sOp)))], []⟩
abbrev to_73 : Tm := ⟨[(0, .one (.kd (.val .bool)))], []⟩
def an_73 : List (Nat × Ann) := [(11, .join [(27, .bool)]), (13, .join [(2, .bool)])]
noncomputable def S_73 : Spec := specO ti_73.gs (kinds to_73.gs) op_May
abbrev ti_118 : Tm := ⟨[(0, .one (.kd (.val (.list sI)))), (1, .one (.kd (.val (.list sI))))], []⟩
abbrev to_118 : Tm := ⟨[(0, .one (.kd (.val .bool)))], []⟩
def an_118 : List (Nat × Ann) := [(25, .loop ⟨[(0, .one (.kd (.val (.list sI)))), (1, .one (.kd (.val (.list sI)))), (7, .one (.kd (.val sI))), (8, .one (.kd (.val sI)))], []⟩ [(.exit 0, ⟨[], []⟩), (.ret, ⟨[(4, .one (.kd (.val .bool)))], []⟩)])]
noncomputable def S_118 : Spec := specO ti_118.gs (kinds to_118.gs) have_Over
abbrev ti_74 : Tm := ⟨[(0, .one (.kd (.val (.list sI)))), (1, .one (.kd (.val sOp)))], []⟩
abbrev to_74 : Tm := ⟨[(0, .one (.kd (.val .bool)))], []⟩
def an_74 : List (Nat × Ann) := [(5, .join [(4, .bool)])]
noncomputable def S_74 : Spec := specO ti_74.gs (kinds to_74.gs) hold_IsReady
abbrev ti_119 : Tm := ⟨[(0, .one (.kd (.val sOp)))], []⟩
abbrev to_119 : Tm := ⟨[(0, .one (.kd (.val sOp)))], []⟩
def an_119 : List (Nat × Ann) := []
noncomputable def S_119 : Spec := specO ti_119.gs (kinds to_119.gs) op_Own
abbrev ti_164 : Tm := ⟨[(0, .one (.kd (.val sEntry))), (1, .one (.kd (.at_ sOp)))], []⟩
abbrev to_164 : Tm := ⟨[(0, .one (.kd (.val .bool)))], []⟩
def an_164 : List (Nat × Ann) := []
noncomputable def S_164 : Spec := specT ti_164.gs (kinds to_164.gs) replica_put_1
abbrev ti_196 : Tm := ⟨[(0, .one (.kd (.val (.list sEntry)))), (1, .one (.kd (.clo 164 sOp)))], []⟩
abbrev to_196 : Tm := ⟨[(0, .one (.kd (.val sI)))], []⟩
def an_196 : List (Nat × Ann) := [(25, .loop ⟨[(0, .one (.kd (.val (.list sEntry)))), (1, .one (.kd (.clo 164 sOp))), (7, .one (.kd (.val sI))), (8, .one (.kd (.val sI)))], []⟩ [(.exit 0, ⟨[], []⟩), (.ret, ⟨[(4, .one (.kd (.val sI)))], []⟩)])]
noncomputable def S_196 : Spec := specO ti_196.gs (kinds to_196.gs) slices_IndexFunc_Entry
abbrev ti_163 : Tm := ⟨[(0, .one (.kd (.val (.list sEntry)))), (1, .one (.kd (.clo 164 sOp)))], []⟩
abbrev to_163 : Tm := ⟨[(0, .one (.kd (.val .bool)))], []⟩
def an_163 : List (Nat × Ann) := []
noncomputable def S_163 : Spec := specO ti_163.gs (kinds to_163.gs) slices_ContainsFunc_Entry
abbrev ti_166 : Tm := ⟨[(0, .one (.kd (.val (.list sI))))], []⟩
abbrev to_166 : Tm := ⟨[(0, .one (.kd (.val sI)))], []⟩
def an_166 : List (Nat × Ann) := [(57, .loop ⟨[(3, .one (.kd (.val sI))), (6, .one (.kd (.val (.list sI)))), (7, .one (.kd (.val sI))), (8, .one (.kd (.val sI)))], []⟩ [(.exit 0, ⟨[(3, .one (.kd (.val sI)))], []⟩), (.ret, ⟨[(2, .one (.kd (.val sI)))], []⟩)])]
noncomputable def S_166 : Spec := specO ti_166.gs (kinds to_166.gs) cmp_Or_int
abbrev ti_201 : Tm := ⟨[(0, .one (.kd (.val sI)))], []⟩
abbrev to_201 : Tm := ⟨[(0, .one (.kd (.val .bool)))], []⟩
def an_201 : List (Nat × Ann) := []
noncomputable def S_201 : Spec := specT ti_201.gs (kinds to_201.gs) cmp_isNaN_int
abbrev ti_167 : Tm := ⟨[(0, .one (.kd (.val sI))), (1, .one (.kd (.val sI)))], []⟩
abbrev to_167 : Tm := ⟨[(0, .one (.kd (.val sI)))], []⟩
def an_167 : List (Nat × Ann) := []
noncomputable def S_167 : Spec := specT ti_167.gs (kinds to_167.gs) cmp_Compare_int
abbrev ti_123 : Tm := ⟨[(0, .one (.kd (.val sStamp))), (1, .one (.kd (.val sStamp)))], []⟩
abbrev to_123 : Tm := ⟨[(0, .one (.kd (.val sI)))], []⟩
def an_123 : List (Nat × Ann) := []
noncomputable def S_123 : Spec := specO ti_123.gs (kinds to_123.gs) stamp_Cmp
abbrev ti_82 : Tm := ⟨[(0, .one (.kd (.val sOp))), (1, .one (.kd (.val sOp)))], []⟩
abbrev to_82 : Tm := ⟨[(0, .one (.kd (.val .bool)))], []⟩
def an_82 : List (Nat × Ann) := []
noncomputable def S_82 : Spec := specO ti_82.gs (kinds to_82.gs) op_Less
abbrev ti_203 : Tm := ⟨[(0, .one (.kd (.val sNode))), (1, .one (.kd (.val sStamp)))], []⟩
abbrev to_203 : Tm := ⟨[(0, .one (.kd (.val sI)))], []⟩
def an_203 : List (Nat × Ann) := []
noncomputable def S_203 : Spec := specO ti_203.gs (kinds to_203.gs) tree_find_1
abbrev ti_202 : Tm := ⟨[(0, .one (.kd (.val (.list sNode)))), (1, .one (.kd (.val sStamp))), (2, .one (.fix (.fn 203 [])))], []⟩
abbrev to_202 : Tm := ⟨[(0, .one (.kd (.val sI))), (1, .one (.kd (.val .bool)))], []⟩
def an_202 : List (Nat × Ann) := [(59, .loop ⟨[(0, .one (.kd (.val (.list sNode)))), (2, .one (.fix (.fn 203 []))), (4, .one (.fix (.ptr 0 0))), (8, .one (.kd (.val sI))), (9, .one (.kd (.val sI))), (10, .one (.kd (.val sI)))], [[.kd (.val sStamp)]]⟩ [(.exit 0, ⟨[(0, .one (.kd (.val (.list sNode)))), (2, .one (.fix (.fn 203 []))), (4, .one (.fix (.ptr 0 0))), (8, .one (.kd (.val sI))), (9, .one (.kd (.val sI)))], [[.kd (.val sStamp)]]⟩)]), (61, .join [(6, sI), (7, .bool)])]
noncomputable def S_202 : Spec := specO ti_202.gs (kinds to_202.gs) slices_BinarySearchFunc_Node_Stamp
abbrev ti_170 : Tm := ⟨[(0, .one (.kd (.val (.list sNode)))), (1, .one (.kd (.val sStamp)))], []⟩
abbrev to_170 : Tm := ⟨[(0, .one (.kd (.val sI))), (1, .one (.kd (.val .bool)))], []⟩
def an_170 : List (Nat × Ann) := []
noncomputable def S_170 : Spec := specO ti_170.gs (kinds to_170.gs) tree_find
abbrev ti_227 : Tm := ⟨[(0, .one (.fix (.ptr 0 0))), (1, .one (.kd (.val sEntry)))], [[.kd (.own false 5 sNode)]]⟩
abbrev to_227 : Tm := ⟨[], [[.kd (.own false 5 sNode)]]⟩
def an_227 : List (Nat × Ann) := []
noncomputable def S_227 : Spec := specK ti_227 to_227 tree_work_undo
abbrev ti_208 : Tm := ⟨[(0, .one (.kd (.at_ (.list sNode)))), (1, .one (.kd (.val sStamp))), (2, .one (.kd (.val sStamp)))], []⟩
abbrev to_208 : Tm := ⟨[(0, .one (.kd (.val .bool)))], []⟩
def an_208 : List (Nat × Ann) := [(2, .lab 0 ⟨[(0, .one (.kd (.at_ (.list sNode)))), (4, .one (.fix (.ptr 0 0))), (5, .one (.fix (.ptr 1 0)))], [[.kd (.val sStamp)], [.kd (.val sStamp)]]⟩ [(.ret, ⟨[(6, .one (.kd (.val .bool)))], []⟩)])]
noncomputable def S_208 : Spec := specO ti_208.gs (kinds to_208.gs) tree_work_circle
abbrev ti_228 : Tm := ⟨[(0, .one (.fix (.ptr 0 0))), (1, .one (.kd (.val sOp)))], [[.kd (.own false 5 sNode)]]⟩
abbrev to_228 : Tm := ⟨[(0, .one (.kd (.val sEntry)))], [[.kd (.own false 5 sNode)]]⟩
def an_228 : List (Nat × Ann) := [(60, .cut [(.normal, ⟨[(0, .one (.fix (.ptr 0 0))), (3, .one (.fix (.ptr 1 0))), (4, .one (.fix (.ptr 2 0))), (5, .one (.fix (.ptr 3 0))), (6, .one (.kd (.val sI))), (7, .one (.kd (.val .bool)))], [[.kd (.own false 5 sNode)], [.kd (.val sOp)], [.kd (.val sEntry)], [.kd (.val sEntry)]]⟩)])]
noncomputable def S_228 : Spec := specK ti_228 to_228 tree_work_do
abbrev ti_197 : Tm := ⟨[(0, .agg [.kd (.own false 5 sNode), .kd (.own false 17 sEntry)]), (1, .one (.kd (.val sOp)))], []⟩
abbrev to_197 : Tm := ⟨[(0, .agg [.kd (.own false 5 sNode), .kd (.own false 17 sEntry)]), (1, .one (.kd (.val sI)))], []⟩
def an_197 : List (Nat × Ann) := [(2, .lab 0 ⟨[(2, .one (.fix (.ptr 0 0))), (3, .one (.fix (.ptr 1 0))), (4, .one (.fix (.ptr 2 0))), (6, .one (.fix (.ptr 3 0))), (7, .one (.kd (.val sI)))], [[.fix (.undef), .kd (.own false 17 sEntry)], [.kd (.val sOp)], [.kd (.val sTree)], [.kd (.own false 5 sNode)]]⟩ [(.ret, ⟨[(4, .one (.fix (.ptr 2 0))), (5, .one (.kd (.val sI)))], [[.fix (.undef), .fix (.undef)], [.fix (.undef), .fix (.undef), .fix (.undef), .fix (.undef), .fix (.undef), .fix (.undef), .fix (.undef), .fix (.undef), .fix (.undef), .fix (.undef), .fix (.undef), .fix (.undef)], [.kd (.own false 5 sNode), .kd (.own false 17 sEntry)], [.fix (.undef)]]⟩)]), (59, .join [(32, .bool)]), (251, .join [(60, .bool)]), (2041, .loop ⟨[(4, .one (.fix (.ptr 2 0))), (6, .one (.fix (.ptr 3 0))), (10, .one (.kd (.own false 17 sEntry))), (85, .one (.kd (.view false (.list sEntry)))), (86, .one (.kd (.val sI))), (87, .one (.kd (.val sI)))], [[.fix (.undef), .kd (.view false (.list sEntry))], [.kd (.val sOp)], [.kd (.val sTree)], [.kd (.own false 5 sNode)]]⟩ [(.exit 2, ⟨[(4, .one (.fix (.ptr 2 0))), (6, .one (.fix (.ptr 3 0))), (10, .one (.kd (.own false 17 sEntry)))], [[.fix (.undef), .kd (.view false (.list sEntry))], [.kd (.val sOp)], [.kd (.val sTree)], [.kd (.own false 5 sNode)]]⟩)]), (4049, .loop ⟨[(4, .one (.fix (.ptr 2 0))), (6, .one (.fix (.ptr 3 0))), (8, .one (.kd (.view false (.list sEntry)))), (62, .one (.kd (.val sI))), (63, .one (.kd (.val sI)))], [[.fix (.undef), .kd (.view false (.list sEntry))], [.kd (.val sOp)], [.kd (.val sTree)], [.kd (.own false 5 sNode)]]⟩ [(.exit 0, ⟨[(4, .one (.fix (.ptr 2 0)))], [[.fix (.undef), .kd (.view false (.list sEntry))], [.kd (.val sOp)], [.kd (.val sTree)], [.kd (.own false 5 sNode)]]⟩)])]
noncomputable def S_197 : Spec := specK ti_197 to_197 tree_Put
abbrev ti_230 : Tm := ⟨[(0, .one (.kd (.val sLook))), (1, .one (.kd (.val sStamp)))], []⟩
abbrev to_230 : Tm := ⟨[(0, .one (.kd (.val sI)))], []⟩
def an_230 : List (Nat × Ann) := []
noncomputable def S_230 : Spec := specO ti_230.gs (kinds to_230.gs) shape_find_1
abbrev ti_229 : Tm := ⟨[(0, .one (.kd (.val (.list sLook)))), (1, .one (.kd (.val sStamp))), (2, .one (.fix (.fn 230 [])))], []⟩
abbrev to_229 : Tm := ⟨[(0, .one (.kd (.val sI))), (1, .one (.kd (.val .bool)))], []⟩
def an_229 : List (Nat × Ann) := [(59, .loop ⟨[(0, .one (.kd (.val (.list sLook)))), (2, .one (.fix (.fn 230 []))), (4, .one (.fix (.ptr 0 0))), (8, .one (.kd (.val sI))), (9, .one (.kd (.val sI))), (10, .one (.kd (.val sI)))], [[.kd (.val sStamp)]]⟩ [(.exit 0, ⟨[(0, .one (.kd (.val (.list sLook)))), (2, .one (.fix (.fn 230 []))), (4, .one (.fix (.ptr 0 0))), (8, .one (.kd (.val sI))), (9, .one (.kd (.val sI)))], [[.kd (.val sStamp)]]⟩)]), (61, .join [(6, sI), (7, .bool)])]
noncomputable def S_229 : Spec := specO ti_229.gs (kinds to_229.gs) slices_BinarySearchFunc_Look_Stamp
abbrev ti_198 : Tm := ⟨[(0, .one (.kd (.val (.list sLook)))), (1, .one (.kd (.val sStamp)))], []⟩
abbrev to_198 : Tm := ⟨[(0, .one (.kd (.val sI))), (1, .one (.kd (.val .bool)))], []⟩
def an_198 : List (Nat × Ann) := []
noncomputable def S_198 : Spec := specO ti_198.gs (kinds to_198.gs) shape_find
abbrev ti_254 : Tm := ⟨[(0, .one (.kd (.val sReg))), (1, .one (.kd (.val sI)))], []⟩
abbrev to_254 : Tm := ⟨[(0, .one (.kd (.val sI)))], []⟩
def an_254 : List (Nat × Ann) := []
noncomputable def S_254 : Spec := specT ti_254.gs (kinds to_254.gs) reg_find_1
abbrev ti_253 : Tm := ⟨[(0, .one (.kd (.val (.list sReg)))), (1, .one (.kd (.val sI))), (2, .one (.fix (.fn 254 [])))], []⟩
abbrev to_253 : Tm := ⟨[(0, .one (.kd (.val sI))), (1, .one (.kd (.val .bool)))], []⟩
def an_253 : List (Nat × Ann) := [(59, .loop ⟨[(0, .one (.kd (.val (.list sReg)))), (1, .one (.kd (.val sI))), (2, .one (.fix (.fn 254 []))), (8, .one (.kd (.val sI))), (9, .one (.kd (.val sI))), (10, .one (.kd (.val sI)))], []⟩ [(.exit 0, ⟨[(0, .one (.kd (.val (.list sReg)))), (1, .one (.kd (.val sI))), (2, .one (.fix (.fn 254 []))), (8, .one (.kd (.val sI))), (9, .one (.kd (.val sI)))], []⟩)]), (61, .join [(6, sI), (7, .bool)])]
noncomputable def S_253 : Spec := specO ti_253.gs (kinds to_253.gs) slices_BinarySearchFunc_Reg_int
abbrev ti_233 : Tm := ⟨[(0, .one (.kd (.val (.list sReg)))), (1, .one (.kd (.val sI)))], []⟩
abbrev to_233 : Tm := ⟨[(0, .one (.kd (.val sI))), (1, .one (.kd (.val .bool)))], []⟩
def an_233 : List (Nat × Ann) := []
noncomputable def S_233 : Spec := specO ti_233.gs (kinds to_233.gs) reg_find
abbrev ti_200 : Tm := ⟨[(0, .one (.kd (.val (.list sReg)))), (1, .one (.kd (.val sReg)))], []⟩
abbrev to_200 : Tm := ⟨[(0, .one (.kd (.val (.list sReg))))], []⟩
def an_200 : List (Nat × Ann) := []
noncomputable def S_200 : Spec := specO ti_200.gs (kinds to_200.gs) reg_Put
abbrev ti_165 : Tm := ⟨[(0, .agg [.kd (.own false 5 sNode), .kd (.own false 17 sEntry), .kd (.own false 3 sLook)]), (1, .one (.kd (.val sOp)))], []⟩
abbrev to_165 : Tm := ⟨[(0, .agg [.kd (.own false 5 sNode), .kd (.own false 17 sEntry), .kd (.own false 3 sLook)]), (1, .one (.kd (.val sI)))], []⟩
def an_165 : List (Nat × Ann) := [(60, .cut [(.normal, ⟨[(2, .one (.fix (.ptr 0 0))), (3, .one (.fix (.ptr 1 0))), (4, .one (.fix (.ptr 2 0))), (8, .one (.kd (.val sI)))], [[.kd (.own false 5 sNode), .kd (.own false 17 sEntry), .kd (.own false 3 sLook)], [.kd (.val sOp)], [.kd (.val sShape)]]⟩)])]
noncomputable def S_165 : Spec := specK ti_165 to_165 shape_Put
abbrev ti_120 : Tm := ⟨[(0, .agg [.kd (.own false 5 sNode), .kd (.own false 17 sEntry), .kd (.own false 3 sLook)]), (1, .one (.kd (.val sOp)))], []⟩
abbrev to_120 : Tm := ⟨[(0, .agg [.kd (.own false 5 sNode), .kd (.own false 17 sEntry), .kd (.own false 3 sLook)])], []⟩
def an_120 : List (Nat × Ann) := [(11, .join [(14, .bool)])]
noncomputable def S_120 : Spec := specK ti_120 to_120 replica_put
abbrev ti_75 : Tm := ⟨[(0, .one (.fix (.ptr 0 0))), (1, .one (.kd (.val sOp)))], [[.kd (.val sI), .kd (.val sI), .kd (.own false 1 sI), .kd (.own false 12 sOp), .kd (.own false 12 sOp), .kd (.own false 5 sNode), .kd (.own false 17 sEntry), .kd (.own false 3 sLook), .kd (.val (.pair sI sStamp))]]⟩
abbrev to_75 : Tm := ⟨[], [[.kd (.val sI), .kd (.val sI), .kd (.own false 1 sI), .kd (.own false 12 sOp), .kd (.own false 12 sOp), .kd (.own false 5 sNode), .kd (.own false 17 sEntry), .kd (.own false 3 sLook), .kd (.val (.pair sI sStamp))]]⟩
def an_75 : List (Nat × Ann) := []
noncomputable def S_75 : Spec := specK ti_75 to_75 replica_apply
abbrev ti_41 : Tm := ⟨[(0, .one (.kd (.val sI))), (1, .one (.kd (.val sI))), (2, .one (.kd (.val (.list sOp))))], []⟩
abbrev to_41 : Tm := ⟨[(0, .one (.kd (.val sState))), (1, .one (.kd (.val .bool)))], []⟩
def an_41 : List (Nat × Ann) := [(2, .lab 0 ⟨[(1, .one (.kd (.val sI))), (2, .one (.kd (.val (.list sOp)))), (6, .one (.fix (.ptr 0 0))), (8, .one (.fix (.ptr 1 0))), (9, .one (.kd (.val sI)))], [[.kd (.val sI), .kd (.val sI), .kd (.own false 1 sI), .kd (.own false 12 sOp), .kd (.own false 12 sOp), .kd (.own false 5 sNode), .kd (.own false 17 sEntry), .kd (.own false 3 sLook), .kd (.val (.pair sI sStamp))], [.kd (.val sOp)]]⟩ [(.ret, ⟨[(6, .one (.fix (.ptr 0 0))), (7, .one (.kd (.val .bool)))], [[.kd (.val sI), .kd (.val sI), .kd (.own false 1 sI), .kd (.own false 12 sOp), .kd (.own false 12 sOp), .kd (.own false 5 sNode), .kd (.own false 17 sEntry), .kd (.own false 3 sLook), .kd (.val (.pair sI sStamp))], [.fix (.undef), .fix (.undef), .fix (.undef), .fix (.undef), .fix (.undef), .fix (.undef), .fix (.undef), .fix (.undef), .fix (.undef), .fix (.undef), .fix (.undef), .fix (.undef)]]⟩)]), (249, .join [(38, .bool)])]
noncomputable def S_41 : Spec := specO ti_41.gs (kinds to_41.gs) replica_built
abbrev ti_42 : Tm := ⟨[(0, .one (.kd (.val (.list sI)))), (1, .one (.kd (.val (.list sI))))], []⟩
abbrev to_42 : Tm := ⟨[(0, .one (.kd (.val .bool)))], []⟩
def an_42 : List (Nat × Ann) := [(57, .loop ⟨[(0, .one (.kd (.val (.list sI)))), (1, .one (.kd (.val (.list sI)))), (12, .one (.kd (.val sI))), (13, .one (.kd (.val sI)))], []⟩ [(.exit 0, ⟨[], []⟩), (.ret, ⟨[(4, .one (.kd (.val .bool)))], []⟩)])]
noncomputable def S_42 : Spec := specO ti_42.gs (kinds to_42.gs) slices_Equal_int
abbrev ti_76 : Tm := ⟨[(0, .one (.kd (.val (.list sNode)))), (1, .one (.kd (.val (.list sNode))))], []⟩
abbrev to_76 : Tm := ⟨[(0, .one (.kd (.val .bool)))], []⟩
def an_76 : List (Nat × Ann) := [(57, .loop ⟨[(0, .one (.kd (.val (.list sNode)))), (1, .one (.kd (.val (.list sNode)))), (12, .one (.kd (.val sI))), (13, .one (.kd (.val sI)))], []⟩ [(.exit 0, ⟨[], []⟩), (.ret, ⟨[(4, .one (.kd (.val .bool)))], []⟩)])]
noncomputable def S_76 : Spec := specO ti_76.gs (kinds to_76.gs) slices_Equal_Node
abbrev ti_121 : Tm := ⟨[(0, .one (.kd (.val sOp))), (1, .one (.kd (.val sOp)))], []⟩
abbrev to_121 : Tm := ⟨[(0, .one (.kd (.val .bool)))], []⟩
def an_121 : List (Nat × Ann) := [(5, .join [(4, .bool)])]
noncomputable def S_121 : Spec := specO ti_121.gs (kinds to_121.gs) op_Same
abbrev ti_78 : Tm := ⟨[(0, .one (.kd (.val sEntry))), (1, .one (.kd (.val sEntry)))], []⟩
abbrev to_78 : Tm := ⟨[(0, .one (.kd (.val .bool)))], []⟩
def an_78 : List (Nat × Ann) := [(5, .join [(4, .bool)])]
noncomputable def S_78 : Spec := specO ti_78.gs (kinds to_78.gs) replica_sameEntry
abbrev ti_77 : Tm := ⟨[(0, .one (.kd (.val (.list sEntry)))), (1, .one (.kd (.val (.list sEntry)))), (2, .one (.fix (.fn 78 [])))], []⟩
abbrev to_77 : Tm := ⟨[(0, .one (.kd (.val .bool)))], []⟩
def an_77 : List (Nat × Ann) := [(57, .loop ⟨[(1, .one (.kd (.val (.list sEntry)))), (2, .one (.fix (.fn 78 []))), (15, .one (.kd (.val (.list sEntry)))), (16, .one (.kd (.val sI))), (17, .one (.kd (.val sI)))], []⟩ [(.exit 0, ⟨[], []⟩), (.ret, ⟨[(6, .one (.kd (.val .bool)))], []⟩)])]
noncomputable def S_77 : Spec := specO ti_77.gs (kinds to_77.gs) slices_EqualFunc_Entry_Entry_Entry
abbrev ti_122 : Tm := ⟨[(0, .one (.kd (.val (.list sReg)))), (1, .one (.kd (.val (.list sReg))))], []⟩
abbrev to_122 : Tm := ⟨[(0, .one (.kd (.val .bool)))], []⟩
def an_122 : List (Nat × Ann) := [(57, .loop ⟨[(0, .one (.kd (.val (.list sReg)))), (1, .one (.kd (.val (.list sReg)))), (12, .one (.kd (.val sI))), (13, .one (.kd (.val sI)))], []⟩ [(.exit 0, ⟨[], []⟩), (.ret, ⟨[(4, .one (.kd (.val .bool)))], []⟩)])]
noncomputable def S_122 : Spec := specO ti_122.gs (kinds to_122.gs) slices_Equal_Reg
abbrev ti_80 : Tm := ⟨[(0, .one (.kd (.val sLook))), (1, .one (.kd (.val sLook)))], []⟩
abbrev to_80 : Tm := ⟨[(0, .one (.kd (.val .bool)))], []⟩
def an_80 : List (Nat × Ann) := [(5, .join [(4, .bool)])]
noncomputable def S_80 : Spec := specO ti_80.gs (kinds to_80.gs) replica_sameLook
abbrev ti_79 : Tm := ⟨[(0, .one (.kd (.val (.list sLook)))), (1, .one (.kd (.val (.list sLook)))), (2, .one (.fix (.fn 80 [])))], []⟩
abbrev to_79 : Tm := ⟨[(0, .one (.kd (.val .bool)))], []⟩
def an_79 : List (Nat × Ann) := [(57, .loop ⟨[(1, .one (.kd (.val (.list sLook)))), (2, .one (.fix (.fn 80 []))), (15, .one (.kd (.val (.list sLook)))), (16, .one (.kd (.val sI))), (17, .one (.kd (.val sI)))], []⟩ [(.exit 0, ⟨[], []⟩), (.ret, ⟨[(6, .one (.kd (.val .bool)))], []⟩)])]
noncomputable def S_79 : Spec := specO ti_79.gs (kinds to_79.gs) slices_EqualFunc_Look_Look_Look
abbrev ti_43 : Tm := ⟨[(0, .one (.kd (.val sShape))), (1, .one (.kd (.val sShape)))], []⟩
abbrev to_43 : Tm := ⟨[(0, .one (.kd (.val .bool)))], []⟩
def an_43 : List (Nat × Ann) := [(5, .join [(4, .bool)])]
noncomputable def S_43 : Spec := specO ti_43.gs (kinds to_43.gs) replica_sameShape
abbrev ti_81 : Tm := ⟨[(0, .one (.kd (.val (.list sI)))), (1, .one (.kd (.val sOp)))], []⟩
abbrev to_81 : Tm := ⟨[(0, .one (.kd (.val .bool)))], []⟩
def an_81 : List (Nat × Ann) := [(5, .join [(4, .bool)])]
noncomputable def S_81 : Spec := specO ti_81.gs (kinds to_81.gs) hold_fits
abbrev ti_85 : Tm := ⟨[(0, .one (.kd (.val sOp))), (1, .one (.kd (.val sOp)))], []⟩
abbrev to_85 : Tm := ⟨[(0, .one (.kd (.val .bool)))], []⟩
def an_85 : List (Nat × Ann) := [(5, .join [(4, .bool)])]
noncomputable def S_85 : Spec := specT ti_85.gs (kinds to_85.gs) hold_twin
abbrev ti_84 : Tm := ⟨[(0, .one (.kd (.val sOp))), (1, .one (.kd (.at_ sOp)))], []⟩
abbrev to_84 : Tm := ⟨[(0, .one (.kd (.val .bool)))], []⟩
def an_84 : List (Nat × Ann) := []
noncomputable def S_84 : Spec := specT ti_84.gs (kinds to_84.gs) hold_May_1
abbrev ti_124 : Tm := ⟨[(0, .one (.kd (.val (.list sOp)))), (1, .one (.kd (.clo 84 sOp)))], []⟩
abbrev to_124 : Tm := ⟨[(0, .one (.kd (.val sI)))], []⟩
def an_124 : List (Nat × Ann) := [(25, .loop ⟨[(0, .one (.kd (.val (.list sOp)))), (1, .one (.kd (.clo 84 sOp))), (7, .one (.kd (.val sI))), (8, .one (.kd (.val sI)))], []⟩ [(.exit 0, ⟨[], []⟩), (.ret, ⟨[(4, .one (.kd (.val sI)))], []⟩)])]
noncomputable def S_124 : Spec := specO ti_124.gs (kinds to_124.gs) slices_IndexFunc_Op
abbrev ti_83 : Tm := ⟨[(0, .one (.kd (.val (.list sOp)))), (1, .one (.kd (.clo 84 sOp)))], []⟩
abbrev to_83 : Tm := ⟨[(0, .one (.kd (.val .bool)))], []⟩
def an_83 : List (Nat × Ann) := []
noncomputable def S_83 : Spec := specO ti_83.gs (kinds to_83.gs) slices_ContainsFunc_Op
abbrev ti_44 : Tm := ⟨[(0, .one (.kd (.val (.list sI)))), (1, .one (.kd (.val (.list sOp))))], []⟩
abbrev to_44 : Tm := ⟨[(0, .one (.kd (.val .bool)))], []⟩
def an_44 : List (Nat × Ann) := [(2, .lab 0 ⟨[(0, .one (.kd (.val (.list sI)))), (1, .one (.kd (.val (.list sOp)))), (5, .one (.kd (.val sI))), (6, .one (.fix (.ptr 0 0)))], [[.kd (.val sOp)]]⟩ [(.goto 1, ⟨[], [[.kd (.val sOp)]]⟩), (.ret, ⟨[(4, .one (.kd (.val .bool)))], []⟩)]), (251, .join [(50, .bool)])]
noncomputable def S_44 : Spec := specO ti_44.gs (kinds to_44.gs) hold_May
abbrev ti_22 : Tm := ⟨[(0, .one (.kd (.val sState)))], []⟩
abbrev to_22 : Tm := ⟨[(0, .one (.kd (.val .bool)))], []⟩
def an_22 : List (Nat × Ann) := [(27, .join [(54, .bool)]), (61, .join [(2, .bool)])]
noncomputable def S_22 : Spec := specO ti_22.gs (kinds to_22.gs) replica_May
theorem k_86 : SpecOk (calls tbS (ex tbS)) 86 S_86 := cloneS_ok (zero := [.int .i64 0]) (by kernel_rfl) rfl rfl
theorem k_128 : SpecOk (calls tbS (ex tbS)) 128 S_128 := cloneS_ok (zero := [.int .i64 0, .int .i64 0, .int .i64 0, .int .i64 0]) (by kernel_rfl) rfl rfl
theorem k_169 : SpecOk (calls tbS (ex tbS)) 169 S_169 := cloneS_ok (zero := [.int .i64 0, .int .i64 0, .int .i64 0, .nils, .int .i64 0, .int .i64 0, .int .i64 0, .int .i64 0, .int .i64 0, .str ⟨#[]⟩, .int .i64 0, .int .i64 0, .bool false, .int .i64 0, .int .i64 0, .str ⟨#[]⟩, .bool false]) (by kernel_rfl) rfl rfl
theorem k_199 : SpecOk (calls tbS (ex tbS)) 199 S_199 := insertS_ok rfl
theorem k_234 : SpecOk (calls tbS (ex tbS)) 234 S_234 := insertS_ok rfl
theorem k_250 : SpecOk (calls tbS (ex tbS)) 250 S_250 := deleteS_ok (tb0 := tb0) (zero := [.int .i64 0, .int .i64 0, .int .i64 0, .int .i64 0, .str ⟨#[]⟩]) rfl (by kernel_rfl) rfl (by decide)
theorem k_251 : SpecOk (calls tbS (ex tbS)) 251 S_251 := insertS_ok rfl
theorem e_40 (x : St ti_40) : (symF tbS (spOf []) 40 (anOf an_40) 1000 ti_40 to_40 x).sem = have_Is x := by kernel_rfl
theorem k_40 : SpecOk (calls tbS (ex tbS)) 40 S_40 := plugO (f := 40) (an := anOf an_40) (fuel := 1000) (ti := ti_40) (to := to_40) (F := have_Is) (specsOk_nil) ⟨rfl, by kernel_rfl, by kernel_rfl, rfl, by kernel_rfl, by kernel_rfl⟩ (by kernel_rfl) rfl e_40
theorem e_21 (x : St ti_21) : (symF tbS (spOf []) 21 (anOf an_21) 1000 ti_21 to_21 x).sem = replica_empty x := by kernel_rfl
theorem k_21 : SpecOk (calls tbS (ex tbS)) 21 S_21 := plugK (f := 21) (an := an_21) (fuel := 1000) (ti := ti_21) (to := to_21) (F := replica_empty) (specsOk_nil) ⟨by kernel_rfl, by kernel_rfl, by kernel_rfl, by kernel_rfl⟩ ⟨by kernel_rfl, by kernel_rfl, rfl, by kernel_rfl⟩ (by kernel_rfl) (by kernel_rfl) rfl e_21
theorem se_116 (x : St ti_116) : (symF tbS (spOf []) 116 (anOf an_116) 1000 ti_116 to_116 x).sure = true := by kernel_rfl
theorem e_116 (x : St ti_116) (d : St to_116) : (symF tbS (spOf []) 116 (anOf an_116) 1000 ti_116 to_116 x).pick d = stamp_Is x := by kernel_rfl
theorem k_116 : SpecOk (calls tbS (ex tbS)) 116 S_116 := plugT (f := 116) (an := anOf an_116) (fuel := 1000) (ti := ti_116) (to := to_116) (F := stamp_Is) (specsOk_nil) ⟨rfl, by kernel_rfl, by kernel_rfl, rfl, by kernel_rfl, by kernel_rfl⟩ (by kernel_rfl) rfl se_116 e_116
theorem se_138 (x : St ti_138) : (symF tbS (spOf []) 138 (anOf an_138) 1000 ti_138 to_138 x).sure = true := by kernel_rfl
theorem e_138 (x : St ti_138) (d : St to_138) : (symF tbS (spOf []) 138 (anOf an_138) 1000 ti_138 to_138 x).pick d = stamp_Root x := by kernel_rfl
theorem k_138 : SpecOk (calls tbS (ex tbS)) 138 S_138 := plugT (f := 138) (an := anOf an_138) (fuel := 1000) (ti := ti_138) (to := to_138) (F := stamp_Root) (specsOk_nil) ⟨rfl, by kernel_rfl, by kernel_rfl, rfl, by kernel_rfl, by kernel_rfl⟩ (by kernel_rfl) rfl se_138 e_138
theorem se_131 (x : St ti_131) : (symF tbS (spOf []) 131 (anOf an_131) 1000 ti_131 to_131 x).sure = true := by kernel_rfl
theorem e_131 (x : St ti_131) (d : St to_131) : (symF tbS (spOf []) 131 (anOf an_131) 1000 ti_131 to_131 x).pick d = stamp_Trash x := by kernel_rfl
theorem k_131 : SpecOk (calls tbS (ex tbS)) 131 S_131 := plugT (f := 131) (an := anOf an_131) (fuel := 1000) (ti := ti_131) (to := to_131) (F := stamp_Trash) (specsOk_nil) ⟨rfl, by kernel_rfl, by kernel_rfl, rfl, by kernel_rfl, by kernel_rfl⟩ (by kernel_rfl) rfl se_131 e_131
theorem se_160 (x : St ti_160) : (symF tbS (spOf [(116, S_116), (131, S_131), (138, S_138)]) 160 (anOf an_160) 1000 ti_160 to_160 x).sure = true := by kernel_rfl
theorem e_160 (x : St ti_160) (d : St to_160) : (symF tbS (spOf [(116, S_116), (131, S_131), (138, S_138)]) 160 (anOf an_160) 1000 ti_160 to_160 x).pick d = stamp_Place x := by kernel_rfl
theorem k_160 : SpecOk (calls tbS (ex tbS)) 160 S_160 := plugT (f := 160) (an := anOf an_160) (fuel := 1000) (ti := ti_160) (to := to_160) (F := stamp_Place) (specsOk_cons k_116 (specsOk_cons k_131 (specsOk_cons k_138 (specsOk_nil)))) ⟨rfl, by kernel_rfl, by kernel_rfl, rfl, by kernel_rfl, by kernel_rfl⟩ (by kernel_rfl) rfl se_160 e_160
theorem e_161 (x : St ti_161) : (symF tbS (spOf []) 161 (anOf an_161) 1000 ti_161 to_161 x).sem = key_Is x := by kernel_rfl
theorem k_161 : SpecOk (calls tbS (ex tbS)) 161 S_161 := plugO (f := 161) (an := anOf an_161) (fuel := 1000) (ti := ti_161) (to := to_161) (F := key_Is) (specsOk_nil) ⟨rfl, by kernel_rfl, by kernel_rfl, rfl, by kernel_rfl, by kernel_rfl⟩ (by kernel_rfl) rfl e_161
theorem se_171 (x : St ti_171) : (symF tbS (spOf []) 171 (anOf an_171) 1000 ti_171 to_171 x).sure = true := by kernel_rfl
theorem e_171 (x : St ti_171) (d : St to_171) : (symF tbS (spOf []) 171 (anOf an_171) 1000 ti_171 to_171 x).pick d = prop_Is x := by kernel_rfl
theorem k_171 : SpecOk (calls tbS (ex tbS)) 171 S_171 := plugT (f := 171) (an := anOf an_171) (fuel := 1000) (ti := ti_171) (to := to_171) (F := prop_Is) (specsOk_nil) ⟨rfl, by kernel_rfl, by kernel_rfl, rfl, by kernel_rfl, by kernel_rfl⟩ (by kernel_rfl) rfl se_171 e_171
theorem e_184 (x : St ti_184) : (symF tbS (spOf []) 184 (anOf an_184) 1000 ti_184 to_184 x).sem = prop_ruleOf x := by kernel_rfl
theorem k_184 : SpecOk (calls tbS (ex tbS)) 184 S_184 := plugO (f := 184) (an := anOf an_184) (fuel := 1000) (ti := ti_184) (to := to_184) (F := prop_ruleOf) (specsOk_nil) ⟨rfl, by kernel_rfl, by kernel_rfl, rfl, by kernel_rfl, by kernel_rfl⟩ (by kernel_rfl) rfl e_184
theorem e_162 (x : St ti_162) : (symF tbS (spOf [(171, S_171), (184, S_184)]) 162 (anOf an_162) 1000 ti_162 to_162 x).sem = prop_May x := by kernel_rfl
theorem k_162 : SpecOk (calls tbS (ex tbS)) 162 S_162 := plugO (f := 162) (an := anOf an_162) (fuel := 1000) (ti := ti_162) (to := to_162) (F := prop_May) (specsOk_cons k_171 (specsOk_cons k_184 (specsOk_nil))) ⟨rfl, by kernel_rfl, by kernel_rfl, rfl, by kernel_rfl, by kernel_rfl⟩ (by kernel_rfl) rfl e_162
theorem e_117 (x : St ti_117) : (symF tbS (spOf [(138, S_138), (160, S_160), (161, S_161), (162, S_162)]) 117 (anOf an_117) 1000 ti_117 to_117 x).sem = op_kind x := by kernel_rfl
theorem k_117 : SpecOk (calls tbS (ex tbS)) 117 S_117 := plugO (f := 117) (an := anOf an_117) (fuel := 1000) (ti := ti_117) (to := to_117) (F := op_kind) (specsOk_cons k_138 (specsOk_cons k_160 (specsOk_cons k_161 (specsOk_cons k_162 (specsOk_nil))))) ⟨rfl, by kernel_rfl, by kernel_rfl, rfl, by kernel_rfl, by kernel_rfl⟩ (by kernel_rfl) rfl e_117
theorem e_73 (x : St ti_73) : (symF tbS (spOf [(40, S_40), (116, S_116), (117, S_117)]) 73 (anOf an_73) 1000 ti_73 to_73 x).sem = op_May x := by kernel_rfl
theorem k_73 : SpecOk (calls tbS (ex tbS)) 73 S_73 := plugO (f := 73) (an := anOf an_73) (fuel := 1000) (ti := ti_73) (to := to_73) (F := op_May) (specsOk_cons k_40 (specsOk_cons k_116 (specsOk_cons k_117 (specsOk_nil)))) ⟨rfl, by kernel_rfl, by kernel_rfl, rfl, by kernel_rfl, by kernel_rfl⟩ (by kernel_rfl) rfl e_73
theorem e_118 (x : St ti_118) : (symF tbS (spOf []) 118 (anOf an_118) 1000 ti_118 to_118 x).sem = have_Over x := by kernel_rfl
theorem k_118 : SpecOk (calls tbS (ex tbS)) 118 S_118 := plugO (f := 118) (an := anOf an_118) (fuel := 1000) (ti := ti_118) (to := to_118) (F := have_Over) (specsOk_nil) ⟨rfl, by kernel_rfl, by kernel_rfl, rfl, by kernel_rfl, by kernel_rfl⟩ (by kernel_rfl) rfl e_118
theorem e_74 (x : St ti_74) : (symF tbS (spOf [(118, S_118)]) 74 (anOf an_74) 1000 ti_74 to_74 x).sem = hold_IsReady x := by kernel_rfl
theorem k_74 : SpecOk (calls tbS (ex tbS)) 74 S_74 := plugO (f := 74) (an := anOf an_74) (fuel := 1000) (ti := ti_74) (to := to_74) (F := hold_IsReady) (specsOk_cons k_118 (specsOk_nil)) ⟨rfl, by kernel_rfl, by kernel_rfl, rfl, by kernel_rfl, by kernel_rfl⟩ (by kernel_rfl) rfl e_74
theorem e_119 (x : St ti_119) : (symF tbS (spOf [(86, S_86)]) 119 (anOf an_119) 1000 ti_119 to_119 x).sem = op_Own x := by kernel_rfl
theorem k_119 : SpecOk (calls tbS (ex tbS)) 119 S_119 := plugO (f := 119) (an := anOf an_119) (fuel := 1000) (ti := ti_119) (to := to_119) (F := op_Own) (specsOk_cons k_86 (specsOk_nil)) ⟨rfl, by kernel_rfl, by kernel_rfl, rfl, by kernel_rfl, by kernel_rfl⟩ (by kernel_rfl) rfl e_119
theorem se_164 (x : St ti_164) : (symF tbS (spOf []) 164 (anOf an_164) 1000 ti_164 to_164 x).sure = true := by kernel_rfl
theorem e_164 (x : St ti_164) (d : St to_164) : (symF tbS (spOf []) 164 (anOf an_164) 1000 ti_164 to_164 x).pick d = replica_put_1 x := by kernel_rfl
theorem k_164 : SpecOk (calls tbS (ex tbS)) 164 S_164 := plugT (f := 164) (an := anOf an_164) (fuel := 1000) (ti := ti_164) (to := to_164) (F := replica_put_1) (specsOk_nil) ⟨rfl, by kernel_rfl, by kernel_rfl, rfl, by kernel_rfl, by kernel_rfl⟩ (by kernel_rfl) rfl se_164 e_164
theorem e_196 (x : St ti_196) : (symF tbS (spOf [(164, S_164)]) 196 (anOf an_196) 1000 ti_196 to_196 x).sem = slices_IndexFunc_Entry x := by kernel_rfl
theorem k_196 : SpecOk (calls tbS (ex tbS)) 196 S_196 := plugO (f := 196) (an := anOf an_196) (fuel := 1000) (ti := ti_196) (to := to_196) (F := slices_IndexFunc_Entry) (specsOk_cons k_164 (specsOk_nil)) ⟨rfl, by kernel_rfl, by kernel_rfl, rfl, by kernel_rfl, by kernel_rfl⟩ (by kernel_rfl) rfl e_196
theorem e_163 (x : St ti_163) : (symF tbS (spOf [(196, S_196)]) 163 (anOf an_163) 1000 ti_163 to_163 x).sem = slices_ContainsFunc_Entry x := by kernel_rfl
theorem k_163 : SpecOk (calls tbS (ex tbS)) 163 S_163 := plugO (f := 163) (an := anOf an_163) (fuel := 1000) (ti := ti_163) (to := to_163) (F := slices_ContainsFunc_Entry) (specsOk_cons k_196 (specsOk_nil)) ⟨rfl, by kernel_rfl, by kernel_rfl, rfl, by kernel_rfl, by kernel_rfl⟩ (by kernel_rfl) rfl e_163
theorem e_166 (x : St ti_166) : (symF tbS (spOf []) 166 (anOf an_166) 1000 ti_166 to_166 x).sem = cmp_Or_int x := by kernel_rfl
theorem k_166 : SpecOk (calls tbS (ex tbS)) 166 S_166 := plugO (f := 166) (an := anOf an_166) (fuel := 1000) (ti := ti_166) (to := to_166) (F := cmp_Or_int) (specsOk_nil) ⟨rfl, by kernel_rfl, by kernel_rfl, rfl, by kernel_rfl, by kernel_rfl⟩ (by kernel_rfl) rfl e_166
theorem se_201 (x : St ti_201) : (symF tbS (spOf []) 201 (anOf an_201) 1000 ti_201 to_201 x).sure = true := by kernel_rfl
theorem e_201 (x : St ti_201) (d : St to_201) : (symF tbS (spOf []) 201 (anOf an_201) 1000 ti_201 to_201 x).pick d = cmp_isNaN_int x := by kernel_rfl
theorem k_201 : SpecOk (calls tbS (ex tbS)) 201 S_201 := plugT (f := 201) (an := anOf an_201) (fuel := 1000) (ti := ti_201) (to := to_201) (F := cmp_isNaN_int) (specsOk_nil) ⟨rfl, by kernel_rfl, by kernel_rfl, rfl, by kernel_rfl, by kernel_rfl⟩ (by kernel_rfl) rfl se_201 e_201
theorem se_167 (x : St ti_167) : (symF tbS (spOf [(201, S_201)]) 167 (anOf an_167) 1000 ti_167 to_167 x).sure = true := by kernel_rfl
theorem e_167 (x : St ti_167) (d : St to_167) : (symF tbS (spOf [(201, S_201)]) 167 (anOf an_167) 1000 ti_167 to_167 x).pick d = cmp_Compare_int x := by kernel_rfl
theorem k_167 : SpecOk (calls tbS (ex tbS)) 167 S_167 := plugT (f := 167) (an := anOf an_167) (fuel := 1000) (ti := ti_167) (to := to_167) (F := cmp_Compare_int) (specsOk_cons k_201 (specsOk_nil)) ⟨rfl, by kernel_rfl, by kernel_rfl, rfl, by kernel_rfl, by kernel_rfl⟩ (by kernel_rfl) rfl se_167 e_167
theorem e_123 (x : St ti_123) : (symF tbS (spOf [(166, S_166), (167, S_167)]) 123 (anOf an_123) 1000 ti_123 to_123 x).sem = stamp_Cmp x := by kernel_rfl
theorem k_123 : SpecOk (calls tbS (ex tbS)) 123 S_123 := plugO (f := 123) (an := anOf an_123) (fuel := 1000) (ti := ti_123) (to := to_123) (F := stamp_Cmp) (specsOk_cons k_166 (specsOk_cons k_167 (specsOk_nil))) ⟨rfl, by kernel_rfl, by kernel_rfl, rfl, by kernel_rfl, by kernel_rfl⟩ (by kernel_rfl) rfl e_123
theorem e_82 (x : St ti_82) : (symF tbS (spOf [(123, S_123)]) 82 (anOf an_82) 1000 ti_82 to_82 x).sem = op_Less x := by kernel_rfl
theorem k_82 : SpecOk (calls tbS (ex tbS)) 82 S_82 := plugO (f := 82) (an := anOf an_82) (fuel := 1000) (ti := ti_82) (to := to_82) (F := op_Less) (specsOk_cons k_123 (specsOk_nil)) ⟨rfl, by kernel_rfl, by kernel_rfl, rfl, by kernel_rfl, by kernel_rfl⟩ (by kernel_rfl) rfl e_82
theorem e_203 (x : St ti_203) : (symF tbS (spOf [(123, S_123)]) 203 (anOf an_203) 1000 ti_203 to_203 x).sem = tree_find_1 x := by kernel_rfl
theorem k_203 : SpecOk (calls tbS (ex tbS)) 203 S_203 := plugO (f := 203) (an := anOf an_203) (fuel := 1000) (ti := ti_203) (to := to_203) (F := tree_find_1) (specsOk_cons k_123 (specsOk_nil)) ⟨rfl, by kernel_rfl, by kernel_rfl, rfl, by kernel_rfl, by kernel_rfl⟩ (by kernel_rfl) rfl e_203
theorem e_202 (x : St ti_202) : (symF tbS (spOf [(203, S_203)]) 202 (anOf an_202) 1000 ti_202 to_202 x).sem = slices_BinarySearchFunc_Node_Stamp x := by kernel_rfl
theorem k_202 : SpecOk (calls tbS (ex tbS)) 202 S_202 := plugO (f := 202) (an := anOf an_202) (fuel := 1000) (ti := ti_202) (to := to_202) (F := slices_BinarySearchFunc_Node_Stamp) (specsOk_cons k_203 (specsOk_nil)) ⟨rfl, by kernel_rfl, by kernel_rfl, rfl, by kernel_rfl, by kernel_rfl⟩ (by kernel_rfl) rfl e_202
theorem e_170 (x : St ti_170) : (symF tbS (spOf [(202, S_202)]) 170 (anOf an_170) 1000 ti_170 to_170 x).sem = tree_find x := by kernel_rfl
theorem k_170 : SpecOk (calls tbS (ex tbS)) 170 S_170 := plugO (f := 170) (an := anOf an_170) (fuel := 1000) (ti := ti_170) (to := to_170) (F := tree_find) (specsOk_cons k_202 (specsOk_nil)) ⟨rfl, by kernel_rfl, by kernel_rfl, rfl, by kernel_rfl, by kernel_rfl⟩ (by kernel_rfl) rfl e_170
theorem e_227 (x : St ti_227) : (symF tbS (spOf [(170, S_170), (250, S_250)]) 227 (anOf an_227) 1000 ti_227 to_227 x).sem = tree_work_undo x := by kernel_rfl
theorem k_227 : SpecOk (calls tbS (ex tbS)) 227 S_227 := plugK (f := 227) (an := an_227) (fuel := 1000) (ti := ti_227) (to := to_227) (F := tree_work_undo) (specsOk_cons k_170 (specsOk_cons k_250 (specsOk_nil))) ⟨by kernel_rfl, by kernel_rfl, by kernel_rfl, by kernel_rfl⟩ ⟨by kernel_rfl, by kernel_rfl, rfl, by kernel_rfl⟩ (by kernel_rfl) (by kernel_rfl) rfl e_227
theorem e_208 (x : St ti_208) : (symF tbS (spOf [(170, S_170)]) 208 (anOf an_208) 1000 ti_208 to_208 x).sem = tree_work_circle x := by kernel_rfl
theorem k_208 : SpecOk (calls tbS (ex tbS)) 208 S_208 := plugO (f := 208) (an := anOf an_208) (fuel := 1000) (ti := ti_208) (to := to_208) (F := tree_work_circle) (specsOk_cons k_170 (specsOk_nil)) ⟨rfl, by kernel_rfl, by kernel_rfl, rfl, by kernel_rfl, by kernel_rfl⟩ (by kernel_rfl) rfl e_208
theorem e_228 (x : St ti_228) : (symF tbS (spOf [(119, S_119), (170, S_170), (208, S_208), (251, S_251)]) 228 (anOf an_228) 1000 ti_228 to_228 x).sem = tree_work_do x := by kernel_rfl
theorem k_228 : SpecOk (calls tbS (ex tbS)) 228 S_228 := plugK (f := 228) (an := an_228) (fuel := 1000) (ti := ti_228) (to := to_228) (F := tree_work_do) (specsOk_cons k_119 (specsOk_cons k_170 (specsOk_cons k_208 (specsOk_cons k_251 (specsOk_nil))))) ⟨by kernel_rfl, by kernel_rfl, by kernel_rfl, by kernel_rfl⟩ ⟨by kernel_rfl, by kernel_rfl, rfl, by kernel_rfl⟩ (by kernel_rfl) (by kernel_rfl) rfl e_228
theorem e_197 (x : St ti_197) : (symF tbS (spOf [(82, S_82), (169, S_169), (227, S_227), (228, S_228)]) 197 (anOf an_197) 1000 ti_197 to_197 x).sem = tree_Put x := by kernel_rfl
theorem k_197 : SpecOk (calls tbS (ex tbS)) 197 S_197 := plugK (f := 197) (an := an_197) (fuel := 1000) (ti := ti_197) (to := to_197) (F := tree_Put) (specsOk_cons k_82 (specsOk_cons k_169 (specsOk_cons k_227 (specsOk_cons k_228 (specsOk_nil))))) ⟨by kernel_rfl, by kernel_rfl, by kernel_rfl, by kernel_rfl⟩ ⟨by kernel_rfl, by kernel_rfl, rfl, by kernel_rfl⟩ (by kernel_rfl) (by kernel_rfl) rfl e_197
theorem e_230 (x : St ti_230) : (symF tbS (spOf [(123, S_123)]) 230 (anOf an_230) 1000 ti_230 to_230 x).sem = shape_find_1 x := by kernel_rfl
theorem k_230 : SpecOk (calls tbS (ex tbS)) 230 S_230 := plugO (f := 230) (an := anOf an_230) (fuel := 1000) (ti := ti_230) (to := to_230) (F := shape_find_1) (specsOk_cons k_123 (specsOk_nil)) ⟨rfl, by kernel_rfl, by kernel_rfl, rfl, by kernel_rfl, by kernel_rfl⟩ (by kernel_rfl) rfl e_230
theorem e_229 (x : St ti_229) : (symF tbS (spOf [(230, S_230)]) 229 (anOf an_229) 1000 ti_229 to_229 x).sem = slices_BinarySearchFunc_Look_Stamp x := by kernel_rfl
theorem k_229 : SpecOk (calls tbS (ex tbS)) 229 S_229 := plugO (f := 229) (an := anOf an_229) (fuel := 1000) (ti := ti_229) (to := to_229) (F := slices_BinarySearchFunc_Look_Stamp) (specsOk_cons k_230 (specsOk_nil)) ⟨rfl, by kernel_rfl, by kernel_rfl, rfl, by kernel_rfl, by kernel_rfl⟩ (by kernel_rfl) rfl e_229
theorem e_198 (x : St ti_198) : (symF tbS (spOf [(229, S_229)]) 198 (anOf an_198) 1000 ti_198 to_198 x).sem = shape_find x := by kernel_rfl
theorem k_198 : SpecOk (calls tbS (ex tbS)) 198 S_198 := plugO (f := 198) (an := anOf an_198) (fuel := 1000) (ti := ti_198) (to := to_198) (F := shape_find) (specsOk_cons k_229 (specsOk_nil)) ⟨rfl, by kernel_rfl, by kernel_rfl, rfl, by kernel_rfl, by kernel_rfl⟩ (by kernel_rfl) rfl e_198
theorem se_254 (x : St ti_254) : (symF tbS (spOf [(167, S_167)]) 254 (anOf an_254) 1000 ti_254 to_254 x).sure = true := by kernel_rfl
theorem e_254 (x : St ti_254) (d : St to_254) : (symF tbS (spOf [(167, S_167)]) 254 (anOf an_254) 1000 ti_254 to_254 x).pick d = reg_find_1 x := by kernel_rfl
theorem k_254 : SpecOk (calls tbS (ex tbS)) 254 S_254 := plugT (f := 254) (an := anOf an_254) (fuel := 1000) (ti := ti_254) (to := to_254) (F := reg_find_1) (specsOk_cons k_167 (specsOk_nil)) ⟨rfl, by kernel_rfl, by kernel_rfl, rfl, by kernel_rfl, by kernel_rfl⟩ (by kernel_rfl) rfl se_254 e_254
theorem e_253 (x : St ti_253) : (symF tbS (spOf [(254, S_254)]) 253 (anOf an_253) 1000 ti_253 to_253 x).sem = slices_BinarySearchFunc_Reg_int x := by kernel_rfl
theorem k_253 : SpecOk (calls tbS (ex tbS)) 253 S_253 := plugO (f := 253) (an := anOf an_253) (fuel := 1000) (ti := ti_253) (to := to_253) (F := slices_BinarySearchFunc_Reg_int) (specsOk_cons k_254 (specsOk_nil)) ⟨rfl, by kernel_rfl, by kernel_rfl, rfl, by kernel_rfl, by kernel_rfl⟩ (by kernel_rfl) rfl e_253
theorem e_233 (x : St ti_233) : (symF tbS (spOf [(253, S_253)]) 233 (anOf an_233) 1000 ti_233 to_233 x).sem = reg_find x := by kernel_rfl
theorem k_233 : SpecOk (calls tbS (ex tbS)) 233 S_233 := plugO (f := 233) (an := anOf an_233) (fuel := 1000) (ti := ti_233) (to := to_233) (F := reg_find) (specsOk_cons k_253 (specsOk_nil)) ⟨rfl, by kernel_rfl, by kernel_rfl, rfl, by kernel_rfl, by kernel_rfl⟩ (by kernel_rfl) rfl e_233
theorem e_200 (x : St ti_200) : (symF tbS (spOf [(123, S_123), (128, S_128), (233, S_233), (234, S_234)]) 200 (anOf an_200) 1000 ti_200 to_200 x).sem = reg_Put x := by kernel_rfl
theorem k_200 : SpecOk (calls tbS (ex tbS)) 200 S_200 := plugO (f := 200) (an := anOf an_200) (fuel := 1000) (ti := ti_200) (to := to_200) (F := reg_Put) (specsOk_cons k_123 (specsOk_cons k_128 (specsOk_cons k_233 (specsOk_cons k_234 (specsOk_nil))))) ⟨rfl, by kernel_rfl, by kernel_rfl, rfl, by kernel_rfl, by kernel_rfl⟩ (by kernel_rfl) rfl e_200
theorem e_165 (x : St ti_165) : (symF tbS (spOf [(197, S_197), (198, S_198), (199, S_199), (200, S_200)]) 165 (anOf an_165) 1000 ti_165 to_165 x).sem = shape_Put x := by kernel_rfl
theorem k_165 : SpecOk (calls tbS (ex tbS)) 165 S_165 := plugK (f := 165) (an := an_165) (fuel := 1000) (ti := ti_165) (to := to_165) (F := shape_Put) (specsOk_cons k_197 (specsOk_cons k_198 (specsOk_cons k_199 (specsOk_cons k_200 (specsOk_nil))))) ⟨by kernel_rfl, by kernel_rfl, by kernel_rfl, by kernel_rfl⟩ ⟨by kernel_rfl, by kernel_rfl, rfl, by kernel_rfl⟩ (by kernel_rfl) (by kernel_rfl) rfl e_165
theorem e_120 (x : St ti_120) : (symF tbS (spOf [(163, S_163), (165, S_165)]) 120 (anOf an_120) 1000 ti_120 to_120 x).sem = replica_put x := by kernel_rfl
theorem k_120 : SpecOk (calls tbS (ex tbS)) 120 S_120 := plugK (f := 120) (an := an_120) (fuel := 1000) (ti := ti_120) (to := to_120) (F := replica_put) (specsOk_cons k_163 (specsOk_cons k_165 (specsOk_nil))) ⟨by kernel_rfl, by kernel_rfl, by kernel_rfl, by kernel_rfl⟩ ⟨by kernel_rfl, by kernel_rfl, rfl, by kernel_rfl⟩ (by kernel_rfl) (by kernel_rfl) rfl e_120
theorem e_75 (x : St ti_75) : (symF tbS (spOf [(119, S_119), (120, S_120)]) 75 (anOf an_75) 1000 ti_75 to_75 x).sem = replica_apply x := by kernel_rfl
theorem k_75 : SpecOk (calls tbS (ex tbS)) 75 S_75 := plugK (f := 75) (an := an_75) (fuel := 1000) (ti := ti_75) (to := to_75) (F := replica_apply) (specsOk_cons k_119 (specsOk_cons k_120 (specsOk_nil))) ⟨by kernel_rfl, by kernel_rfl, by kernel_rfl, by kernel_rfl⟩ ⟨by kernel_rfl, by kernel_rfl, rfl, by kernel_rfl⟩ (by kernel_rfl) (by kernel_rfl) rfl e_75
theorem e_41 (x : St ti_41) : (symF tbS (spOf [(21, S_21), (73, S_73), (74, S_74), (75, S_75)]) 41 (anOf an_41) 1000 ti_41 to_41 x).sem = replica_built x := by kernel_rfl
theorem k_41 : SpecOk (calls tbS (ex tbS)) 41 S_41 := plugO (f := 41) (an := anOf an_41) (fuel := 1000) (ti := ti_41) (to := to_41) (F := replica_built) (specsOk_cons k_21 (specsOk_cons k_73 (specsOk_cons k_74 (specsOk_cons k_75 (specsOk_nil))))) ⟨rfl, by kernel_rfl, by kernel_rfl, rfl, by kernel_rfl, by kernel_rfl⟩ (by kernel_rfl) rfl e_41
theorem e_42 (x : St ti_42) : (symF tbS (spOf []) 42 (anOf an_42) 1000 ti_42 to_42 x).sem = slices_Equal_int x := by kernel_rfl
theorem k_42 : SpecOk (calls tbS (ex tbS)) 42 S_42 := plugO (f := 42) (an := anOf an_42) (fuel := 1000) (ti := ti_42) (to := to_42) (F := slices_Equal_int) (specsOk_nil) ⟨rfl, by kernel_rfl, by kernel_rfl, rfl, by kernel_rfl, by kernel_rfl⟩ (by kernel_rfl) rfl e_42
theorem e_76 (x : St ti_76) : (symF tbS (spOf []) 76 (anOf an_76) 1000 ti_76 to_76 x).sem = slices_Equal_Node x := by kernel_rfl
theorem k_76 : SpecOk (calls tbS (ex tbS)) 76 S_76 := plugO (f := 76) (an := anOf an_76) (fuel := 1000) (ti := ti_76) (to := to_76) (F := slices_Equal_Node) (specsOk_nil) ⟨rfl, by kernel_rfl, by kernel_rfl, rfl, by kernel_rfl, by kernel_rfl⟩ (by kernel_rfl) rfl e_76
theorem e_121 (x : St ti_121) : (symF tbS (spOf [(42, S_42)]) 121 (anOf an_121) 1000 ti_121 to_121 x).sem = op_Same x := by kernel_rfl
theorem k_121 : SpecOk (calls tbS (ex tbS)) 121 S_121 := plugO (f := 121) (an := anOf an_121) (fuel := 1000) (ti := ti_121) (to := to_121) (F := op_Same) (specsOk_cons k_42 (specsOk_nil)) ⟨rfl, by kernel_rfl, by kernel_rfl, rfl, by kernel_rfl, by kernel_rfl⟩ (by kernel_rfl) rfl e_121
theorem e_78 (x : St ti_78) : (symF tbS (spOf [(121, S_121)]) 78 (anOf an_78) 1000 ti_78 to_78 x).sem = replica_sameEntry x := by kernel_rfl
theorem k_78 : SpecOk (calls tbS (ex tbS)) 78 S_78 := plugO (f := 78) (an := anOf an_78) (fuel := 1000) (ti := ti_78) (to := to_78) (F := replica_sameEntry) (specsOk_cons k_121 (specsOk_nil)) ⟨rfl, by kernel_rfl, by kernel_rfl, rfl, by kernel_rfl, by kernel_rfl⟩ (by kernel_rfl) rfl e_78
theorem e_77 (x : St ti_77) : (symF tbS (spOf [(78, S_78)]) 77 (anOf an_77) 1000 ti_77 to_77 x).sem = slices_EqualFunc_Entry_Entry_Entry x := by kernel_rfl
theorem k_77 : SpecOk (calls tbS (ex tbS)) 77 S_77 := plugO (f := 77) (an := anOf an_77) (fuel := 1000) (ti := ti_77) (to := to_77) (F := slices_EqualFunc_Entry_Entry_Entry) (specsOk_cons k_78 (specsOk_nil)) ⟨rfl, by kernel_rfl, by kernel_rfl, rfl, by kernel_rfl, by kernel_rfl⟩ (by kernel_rfl) rfl e_77
theorem e_122 (x : St ti_122) : (symF tbS (spOf []) 122 (anOf an_122) 1000 ti_122 to_122 x).sem = slices_Equal_Reg x := by kernel_rfl
theorem k_122 : SpecOk (calls tbS (ex tbS)) 122 S_122 := plugO (f := 122) (an := anOf an_122) (fuel := 1000) (ti := ti_122) (to := to_122) (F := slices_Equal_Reg) (specsOk_nil) ⟨rfl, by kernel_rfl, by kernel_rfl, rfl, by kernel_rfl, by kernel_rfl⟩ (by kernel_rfl) rfl e_122
theorem e_80 (x : St ti_80) : (symF tbS (spOf [(122, S_122)]) 80 (anOf an_80) 1000 ti_80 to_80 x).sem = replica_sameLook x := by kernel_rfl
theorem k_80 : SpecOk (calls tbS (ex tbS)) 80 S_80 := plugO (f := 80) (an := anOf an_80) (fuel := 1000) (ti := ti_80) (to := to_80) (F := replica_sameLook) (specsOk_cons k_122 (specsOk_nil)) ⟨rfl, by kernel_rfl, by kernel_rfl, rfl, by kernel_rfl, by kernel_rfl⟩ (by kernel_rfl) rfl e_80
theorem e_79 (x : St ti_79) : (symF tbS (spOf [(80, S_80)]) 79 (anOf an_79) 1000 ti_79 to_79 x).sem = slices_EqualFunc_Look_Look_Look x := by kernel_rfl
theorem k_79 : SpecOk (calls tbS (ex tbS)) 79 S_79 := plugO (f := 79) (an := anOf an_79) (fuel := 1000) (ti := ti_79) (to := to_79) (F := slices_EqualFunc_Look_Look_Look) (specsOk_cons k_80 (specsOk_nil)) ⟨rfl, by kernel_rfl, by kernel_rfl, rfl, by kernel_rfl, by kernel_rfl⟩ (by kernel_rfl) rfl e_79
theorem e_43 (x : St ti_43) : (symF tbS (spOf [(76, S_76), (77, S_77), (79, S_79)]) 43 (anOf an_43) 1000 ti_43 to_43 x).sem = replica_sameShape x := by kernel_rfl
theorem k_43 : SpecOk (calls tbS (ex tbS)) 43 S_43 := plugO (f := 43) (an := anOf an_43) (fuel := 1000) (ti := ti_43) (to := to_43) (F := replica_sameShape) (specsOk_cons k_76 (specsOk_cons k_77 (specsOk_cons k_79 (specsOk_nil)))) ⟨rfl, by kernel_rfl, by kernel_rfl, rfl, by kernel_rfl, by kernel_rfl⟩ (by kernel_rfl) rfl e_43
theorem e_81 (x : St ti_81) : (symF tbS (spOf [(73, S_73)]) 81 (anOf an_81) 1000 ti_81 to_81 x).sem = hold_fits x := by kernel_rfl
theorem k_81 : SpecOk (calls tbS (ex tbS)) 81 S_81 := plugO (f := 81) (an := anOf an_81) (fuel := 1000) (ti := ti_81) (to := to_81) (F := hold_fits) (specsOk_cons k_73 (specsOk_nil)) ⟨rfl, by kernel_rfl, by kernel_rfl, rfl, by kernel_rfl, by kernel_rfl⟩ (by kernel_rfl) rfl e_81
theorem se_85 (x : St ti_85) : (symF tbS (spOf []) 85 (anOf an_85) 1000 ti_85 to_85 x).sure = true := by kernel_rfl
theorem e_85 (x : St ti_85) (d : St to_85) : (symF tbS (spOf []) 85 (anOf an_85) 1000 ti_85 to_85 x).pick d = hold_twin x := by kernel_rfl
theorem k_85 : SpecOk (calls tbS (ex tbS)) 85 S_85 := plugT (f := 85) (an := anOf an_85) (fuel := 1000) (ti := ti_85) (to := to_85) (F := hold_twin) (specsOk_nil) ⟨rfl, by kernel_rfl, by kernel_rfl, rfl, by kernel_rfl, by kernel_rfl⟩ (by kernel_rfl) rfl se_85 e_85
theorem se_84 (x : St ti_84) : (symF tbS (spOf [(85, S_85)]) 84 (anOf an_84) 1000 ti_84 to_84 x).sure = true := by kernel_rfl
theorem e_84 (x : St ti_84) (d : St to_84) : (symF tbS (spOf [(85, S_85)]) 84 (anOf an_84) 1000 ti_84 to_84 x).pick d = hold_May_1 x := by kernel_rfl
theorem k_84 : SpecOk (calls tbS (ex tbS)) 84 S_84 := plugT (f := 84) (an := anOf an_84) (fuel := 1000) (ti := ti_84) (to := to_84) (F := hold_May_1) (specsOk_cons k_85 (specsOk_nil)) ⟨rfl, by kernel_rfl, by kernel_rfl, rfl, by kernel_rfl, by kernel_rfl⟩ (by kernel_rfl) rfl se_84 e_84
theorem e_124 (x : St ti_124) : (symF tbS (spOf [(84, S_84)]) 124 (anOf an_124) 1000 ti_124 to_124 x).sem = slices_IndexFunc_Op x := by kernel_rfl
theorem k_124 : SpecOk (calls tbS (ex tbS)) 124 S_124 := plugO (f := 124) (an := anOf an_124) (fuel := 1000) (ti := ti_124) (to := to_124) (F := slices_IndexFunc_Op) (specsOk_cons k_84 (specsOk_nil)) ⟨rfl, by kernel_rfl, by kernel_rfl, rfl, by kernel_rfl, by kernel_rfl⟩ (by kernel_rfl) rfl e_124
theorem e_83 (x : St ti_83) : (symF tbS (spOf [(124, S_124)]) 83 (anOf an_83) 1000 ti_83 to_83 x).sem = slices_ContainsFunc_Op x := by kernel_rfl
theorem k_83 : SpecOk (calls tbS (ex tbS)) 83 S_83 := plugO (f := 83) (an := anOf an_83) (fuel := 1000) (ti := ti_83) (to := to_83) (F := slices_ContainsFunc_Op) (specsOk_cons k_124 (specsOk_nil)) ⟨rfl, by kernel_rfl, by kernel_rfl, rfl, by kernel_rfl, by kernel_rfl⟩ (by kernel_rfl) rfl e_83
theorem e_44 (x : St ti_44) : (symF tbS (spOf [(74, S_74), (81, S_81), (82, S_82), (83, S_83)]) 44 (anOf an_44) 1000 ti_44 to_44 x).sem = hold_May x := by kernel_rfl
theorem k_44 : SpecOk (calls tbS (ex tbS)) 44 S_44 := plugO (f := 44) (an := anOf an_44) (fuel := 1000) (ti := ti_44) (to := to_44) (F := hold_May) (specsOk_cons k_74 (specsOk_cons k_81 (specsOk_cons k_82 (specsOk_cons k_83 (specsOk_nil))))) ⟨rfl, by kernel_rfl, by kernel_rfl, rfl, by kernel_rfl, by kernel_rfl⟩ (by kernel_rfl) rfl e_44
theorem e_22 (x : St ti_22) : (symF tbS (spOf [(40, S_40), (41, S_41), (42, S_42), (43, S_43), (44, S_44)]) 22 (anOf an_22) 1000 ti_22 to_22 x).sem = replica_May x := by kernel_rfl
theorem k_22 : SpecOk (calls tbS (ex tbS)) 22 S_22 := plugO (f := 22) (an := anOf an_22) (fuel := 1000) (ti := ti_22) (to := to_22) (F := replica_May) (specsOk_cons k_40 (specsOk_cons k_41 (specsOk_cons k_42 (specsOk_cons k_43 (specsOk_cons k_44 (specsOk_nil)))))) ⟨rfl, by kernel_rfl, by kernel_rfl, rfl, by kernel_rfl, by kernel_rfl⟩ (by kernel_rfl) rfl e_22
end Go.Dv.B
