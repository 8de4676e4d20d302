/- What the code comes to: each function of the seat, by the engine. Printed by a tool (seat.py). -/
import Derived.Test.YtdpgchmodijllaaGreatProg
import Derived.Test.YtdpgchmodijllaaGreatDvI
import Derived.Test.YtdpgchmodijllaaGreatNat
import Derived.Test.YtdpgchmodijllaaGreatTrA
set_option linter.unusedVariables false
set_option linter.unusedSimpArgs false
set_option maxRecDepth 100000
open Go (IntKind)
namespace Go.Dv
abbrev polS : Pol := ⟨[0, 1, 2, 3, 4, 5, 6, 7, 8, 9, 10, 11, 12, 13, 14, 15, 16, 17, 18, 19, 20, 22, 23, 24, 28, 29, 31, 32, 33, 34, 35, 36, 37, 38, 39, 40, 41, 42, 43, 44, 47, 50, 51, 56, 57, 58, 60, 61, 62, 63, 64, 65, 66, 67, 68, 69, 70, 73, 74, 76, 77, 78, 79, 80, 81, 82, 83, 84, 85, 90, 91, 92, 93, 94, 95, 96, 97, 98, 99, 105, 106, 107, 108, 109, 110, 111, 112, 114, 115, 116, 117, 118, 121, 122, 123, 124, 129, 130, 131, 132, 133, 134, 135, 136, 137, 138, 140, 141, 142, 143, 146, 148, 151, 152, 153, 154, 155, 156, 157, 158, 159, 160, 161, 162, 163, 164, 166, 167, 170, 171, 172, 173, 174, 175, 176, 177, 178, 179, 180, 181, 182, 184, 185, 186, 188, 189, 191, 195, 196, 198, 200, 201, 202, 203, 204, 205, 206, 207, 208, 209, 210, 211, 212, 213, 214, 215, 217, 221, 222, 223, 224, 226, 229, 230, 231, 232, 233, 235, 236, 237, 238, 239, 240, 241, 242, 243, 244, 245, 246, 247, 248, 249, 252, 253, 254, 255, 256, 257, 258, 259, 260, 261, 262, 263, 264, 265, 266, 267, 268, 269, 270, 271, 272, 273, 274, 275, 276, 277, 278, 279, 280, 281, 282, 283, 284, 285, 286, 287, 288, 289, 290, 291, 292, 293, 294, 295, 296, 297, 298, 299, 300, 301, 302, 303, 304, 305, 306, 307, 308, 309, 310, 311, 312, 313, 314, 315, 316, 317, 318, 319, 320, 321, 322, 323, 324, 325, 326, 327, 328, 329, 330, 331, 332, 333, 334, 335], fun f => ((([(6, [3000002]), (89, [78])] : List (Nat × List Nat)).lookup f).getD []), fun f => ((([] : List (Nat × List Nat)).lookup f).getD [])⟩
noncomputable abbrev tb0 : Table := ⟨funOf Go.Proofs.Tryz.prog polS, fun f => List.lookup f [(237, cmpPrim)]⟩
noncomputable abbrev tbS : Table := ⟨funOf Go.Proofs.Tryz.prog polS, fun f => List.lookup f [(190, insPrim 12 120), (199, insPrim 3 40), (204, sortPrim sNode cf_slices_SortFunc_Node 205), (234, insPrim 4 32), (237, cmpPrim), (251, insPrim 5 48)]⟩
noncomputable abbrev KS : Oracle := calls tbS (ex tbS)
noncomputable def S_237 : Spec := cmpStrS
abbrev ti_166 : Tm := ⟨[(0, .one (.kd (.val (.list sI))))], []⟩
abbrev to_166 : Tm := ⟨[(0, .one (.kd (.val sI)))], []⟩
def an_166 : List (Nat × Ann) := [(57, .loop ⟨[(3, .one (.kd (.val sI))), (6, .one (.kd (.val (.list sI)))), (7, .one (.kd (.val sI))), (8, .one (.kd (.val sI)))], []⟩ [(.exit 0, ⟨[(3, .one (.kd (.val sI)))], []⟩), (.ret, ⟨[(2, .one (.kd (.val sI)))], []⟩)])]
noncomputable def S_166 : Spec := specO ti_166.gs (kinds to_166.gs) cmp_Or_int
abbrev ti_201 : Tm := ⟨[(0, .one (.kd (.val sI)))], []⟩
abbrev to_201 : Tm := ⟨[(0, .one (.kd (.val .bool)))], []⟩
def an_201 : List (Nat × Ann) := []
noncomputable def S_201 : Spec := specT ti_201.gs (kinds to_201.gs) cmp_isNaN_int
abbrev ti_167 : Tm := ⟨[(0, .one (.kd (.val sI))), (1, .one (.kd (.val sI)))], []⟩
abbrev to_167 : Tm := ⟨[(0, .one (.kd (.val sI)))], []⟩
def an_167 : List (Nat × Ann) := []
noncomputable def S_167 : Spec := specT ti_167.gs (kinds to_167.gs) cmp_Compare_int
abbrev ti_123 : Tm := ⟨[(0, .one (.kd (.val sStamp))), (1, .one (.kd (.val sStamp)))], []⟩
abbrev to_123 : Tm := ⟨[(0, .one (.kd (.val sI)))], []⟩
def an_123 : List (Nat × Ann) := []
noncomputable def S_123 : Spec := specO ti_123.gs (kinds to_123.gs) stamp_Cmp
abbrev ti_206 : Tm := ⟨[(0, .one (.kd (.val .str))), (1, .one (.kd (.val .str)))], []⟩
abbrev to_206 : Tm := ⟨[(0, .one (.kd (.val sI)))], []⟩
def an_206 : List (Nat × Ann) := []
noncomputable def S_206 : Spec := specT ti_206.gs (kinds to_206.gs) strings_Compare
abbrev ti_205 : Tm := ⟨[(0, .one (.kd (.val sNode))), (1, .one (.kd (.val sNode)))], []⟩
abbrev to_205 : Tm := ⟨[(0, .one (.kd (.val sI)))], []⟩
def an_205 : List (Nat × Ann) := []
noncomputable def S_205 : Spec := specO ti_205.gs (kinds to_205.gs) tree_Children_1
abbrev ti_203 : Tm := ⟨[(0, .one (.kd (.val sNode))), (1, .one (.kd (.val sStamp)))], []⟩
abbrev to_203 : Tm := ⟨[(0, .one (.kd (.val sI)))], []⟩
def an_203 : List (Nat × Ann) := []
noncomputable def S_203 : Spec := specO ti_203.gs (kinds to_203.gs) tree_find_1
abbrev ti_202 : Tm := ⟨[(0, .one (.kd (.val (.list sNode)))), (1, .one (.kd (.val sStamp))), (2, .one (.fix (.fn 203 [])))], []⟩
abbrev to_202 : Tm := ⟨[(0, .one (.kd (.val sI))), (1, .one (.kd (.val .bool)))], []⟩
def an_202 : List (Nat × Ann) := [(59, .loop ⟨[(0, .one (.kd (.val (.list sNode)))), (2, .one (.fix (.fn 203 []))), (4, .one (.fix (.ptr 0 0))), (8, .one (.kd (.val sI))), (9, .one (.kd (.val sI))), (10, .one (.kd (.val sI)))], [[.kd (.val sStamp)]]⟩ [(.exit 0, ⟨[(0, .one (.kd (.val (.list sNode)))), (2, .one (.fix (.fn 203 []))), (4, .one (.fix (.ptr 0 0))), (8, .one (.kd (.val sI))), (9, .one (.kd (.val sI)))], [[.kd (.val sStamp)]]⟩)]), (61, .join [(6, sI), (7, .bool)])]
noncomputable def S_202 : Spec := specO ti_202.gs (kinds to_202.gs) slices_BinarySearchFunc_Node_Stamp
abbrev ti_170 : Tm := ⟨[(0, .one (.kd (.val (.list sNode)))), (1, .one (.kd (.val sStamp)))], []⟩
abbrev to_170 : Tm := ⟨[(0, .one (.kd (.val sI))), (1, .one (.kd (.val .bool)))], []⟩
def an_170 : List (Nat × Ann) := []
noncomputable def S_170 : Spec := specO ti_170.gs (kinds to_170.gs) tree_find
abbrev ti_94 : Tm := ⟨[(0, .one (.kd (.val (.int .u32)))), (1, .one (.kd (.val (.list (.int .u8)))))], []⟩
abbrev to_94 : Tm := ⟨[(0, .one (.kd (.val (.int .u32))))], []⟩
def an_94 : List (Nat × Ann) := [(2, .lab 0 ⟨[(0, .one (.kd (.val (.int .u32)))), (1, .one (.kd (.val (.list (.int .u8))))), (5, .one (.kd (.val sI))), (6, .one (.kd (.val sI)))], []⟩ [(.ret, ⟨[(4, .one (.kd (.val (.int .u32))))], []⟩)])]
noncomputable def S_94 : Spec := specO ti_94.gs (kinds to_94.gs) sum_Sum
abbrev ti_28 : Tm := ⟨[(0, .one (.kd (.val (.int .u32)))), (1, .one (.kd (.val (.list (.int .u8)))))], []⟩
abbrev to_28 : Tm := ⟨[(0, .one (.kd (.val (.int .u32))))], []⟩
def an_28 : List (Nat × Ann) := [(57, .loop ⟨[(0, .one (.kd (.val (.int .u32)))), (1, .one (.kd (.val (.list (.int .u8))))), (5, .one (.kd (.val sI)))], []⟩ [(.exit 0, ⟨[(0, .one (.kd (.val (.int .u32))))], []⟩)]), (7461, .loop ⟨[(0, .one (.kd (.val (.int .u32)))), (1, .one (.kd (.val (.list (.int .u8))))), (5, .one (.kd (.val sI))), (6, .one (.kd (.val sI)))], []⟩ [(.exit 2, ⟨[(0, .one (.kd (.val (.int .u32)))), (1, .one (.kd (.val (.list (.int .u8))))), (5, .one (.kd (.val sI)))], []⟩)])]
noncomputable def S_28 : Spec := specO ti_28.gs (kinds to_28.gs) arrasref5_Sum
abbrev ti_40 : Tm := ⟨[(0, .one (.kd (.val (.list sI))))], []⟩
abbrev to_40 : Tm := ⟨[(0, .one (.kd (.val .bool)))], []⟩
def an_40 : List (Nat × Ann) := [(2, .lab 0 ⟨[(0, .one (.kd (.val (.list sI)))), (3, .one (.kd (.val sI)))], []⟩ [(.ret, ⟨[(2, .one (.kd (.val .bool)))], []⟩)]), (123, .join [(25, .bool)]), (243, .join [(2, .bool)])]
noncomputable def S_40 : Spec := specO ti_40.gs (kinds to_40.gs) have_Is
abbrev ti_116 : Tm := ⟨[(0, .one (.kd (.val sStamp)))], []⟩
abbrev to_116 : Tm := ⟨[(0, .one (.kd (.val .bool)))], []⟩
def an_116 : List (Nat × Ann) := [(5, .join [(2, .bool)])]
noncomputable def S_116 : Spec := specT ti_116.gs (kinds to_116.gs) stamp_Is
abbrev ti_138 : Tm := ⟨[], []⟩
abbrev to_138 : Tm := ⟨[(0, .one (.kd (.val sStamp)))], []⟩
def an_138 : List (Nat × Ann) := []
noncomputable def S_138 : Spec := specT ti_138.gs (kinds to_138.gs) stamp_Root
abbrev ti_131 : Tm := ⟨[], []⟩
abbrev to_131 : Tm := ⟨[(0, .one (.kd (.val sStamp)))], []⟩
def an_131 : List (Nat × Ann) := []
noncomputable def S_131 : Spec := specT ti_131.gs (kinds to_131.gs) stamp_Trash
abbrev ti_160 : Tm := ⟨[(0, .one (.kd (.val sStamp)))], []⟩
abbrev to_160 : Tm := ⟨[(0, .one (.kd (.val .bool)))], []⟩
def an_160 : List (Nat × Ann) := [(5, .join [(2, .bool)])]
noncomputable def S_160 : Spec := specT ti_160.gs (kinds to_160.gs) stamp_Place
abbrev ti_161 : Tm := ⟨[(0, .one (.kd (.val .str)))], []⟩
abbrev to_161 : Tm := ⟨[(0, .one (.kd (.val .bool)))], []⟩
def an_161 : List (Nat × Ann) := [(5, .join [(2, .bool)])]
noncomputable def S_161 : Spec := specO ti_161.gs (kinds to_161.gs) key_Is
abbrev ti_171 : Tm := ⟨[(0, .one (.kd (.val sI)))], []⟩
abbrev to_171 : Tm := ⟨[(0, .one (.kd (.val .bool)))], []⟩
def an_171 : List (Nat × Ann) := [(5, .join [(2, .bool)])]
noncomputable def S_171 : Spec := specT ti_171.gs (kinds to_171.gs) prop_Is
abbrev ti_184 : Tm := ⟨[(0, .one (.kd (.val sI)))], []⟩
abbrev to_184 : Tm := ⟨[(0, .one (.kd (.val srule_prop)))], []⟩
def an_184 : List (Nat × Ann) := [(428, .cut [(.normal, ⟨[(2, .one (.fix (.ptr 0 0))), (3, .one (.kd (.val sI))), (7, .one (.kd (.val .bool)))], [[.kd (.val srule_prop)]]⟩)]), (1724, .cut [(.normal, ⟨[(2, .one (.fix (.ptr 0 0))), (3, .one (.kd (.val sI))), (11, .one (.kd (.val .bool)))], [[.kd (.val srule_prop)]]⟩)]), (6902, .cut [(.normal, ⟨[(2, .one (.fix (.ptr 0 0))), (3, .one (.kd (.val sI))), (11, .one (.kd (.val .bool)))], [[.kd (.val srule_prop)]]⟩)]), (6908, .cut [(.normal, ⟨[(2, .one (.fix (.ptr 0 0))), (3, .one (.kd (.val sI))), (18, .one (.kd (.val .bool)))], [[.kd (.val srule_prop)]]⟩)]), (27614, .cut [(.normal, ⟨[(2, .one (.fix (.ptr 0 0))), (3, .one (.kd (.val sI))), (11, .one (.kd (.val .bool)))], [[.kd (.val srule_prop)]]⟩)]), (110462, .cut [(.normal, ⟨[(2, .one (.fix (.ptr 0 0))), (3, .one (.kd (.val sI))), (11, .one (.kd (.val .bool)))], [[.kd (.val srule_prop)]]⟩)])]
noncomputable def S_184 : Spec := specO ti_184.gs (kinds to_184.gs) prop_ruleOf
abbrev ti_162 : Tm := ⟨[(0, .one (.kd (.val sI))), (1, .one (.kd (.val sI)))], []⟩
abbrev to_162 : Tm := ⟨[(0, .one (.kd (.val .bool)))], []⟩
def an_162 : List (Nat × Ann) := [(5, .join [(4, .bool)])]
noncomputable def S_162 : Spec := specO ti_162.gs (kinds to_162.gs) prop_May
abbrev ti_117 : Tm := ⟨[(0, .one (.kd (.val sOp)))], []⟩
abbrev to_117 : Tm := ⟨[(0, .one (.kd (.val .bool)))], []⟩
def an_117 : List (Nat × Ann) := [(211, .join [(2, .bool)]), (859, .join [(2, .bool)])]
noncomputable def S_117 : Spec := specO ti_117.gs (kinds to_117.gs) op_kind
abbrev ti_73 : Tm := ⟨[(0, .one (.kd (.val sOp)))], []⟩
abbrev to_73 : Tm := ⟨[(0, .one (.kd (.val .bool)))], []⟩
def an_73 : List (Nat × Ann) := [(11, .join [(27, .bool)]), (13, .join [(2, .bool)])]
noncomputable def S_73 : Spec := specO ti_73.gs (kinds to_73.gs) op_May
abbrev ti_118 : Tm := ⟨[(0, .one (.kd (.val (.list sI)))), (1, .one (.kd (.val (.list sI))))], []⟩
abbrev to_118 : Tm := ⟨[(0, .one (.kd (.val .bool)))], []⟩
def an_118 : List (Nat × Ann) := [(25, .loop ⟨[(0, .one (.kd (.val (.list sI)))), (1, .one (.kd (.val (.list sI)))), (7, .one (.kd (.val sI))), (8, .one (.kd (.val sI)))], []⟩ [(.exit 0, ⟨[], []⟩), (.ret, ⟨[(4, .one (.kd (.val .bool)))], []⟩)])]
noncomputable def S_118 : Spec := specO ti_118.gs (kinds to_118.gs) have_Over
abbrev ti_74 : Tm := ⟨[(0, .one (.kd (.val (.list sI)))), (1, .one (.kd (.val sOp)))], []⟩
abbrev to_74 : Tm := ⟨[(0, .one (.kd (.val .bool)))], []⟩
def an_74 : List (Nat × Ann) := [(5, .join [(4, .bool)])]
noncomputable def S_74 : Spec := specO ti_74.gs (kinds to_74.gs) hold_IsReady
abbrev ti_81 : Tm := ⟨[(0, .one (.kd (.val (.list sI)))), (1, .one (.kd (.val sOp)))], []⟩
abbrev to_81 : Tm := ⟨[(0, .one (.kd (.val .bool)))], []⟩
def an_81 : List (Nat × Ann) := [(5, .join [(4, .bool)])]
noncomputable def S_81 : Spec := specO ti_81.gs (kinds to_81.gs) hold_fits
abbrev ti_82 : Tm := ⟨[(0, .one (.kd (.val sOp))), (1, .one (.kd (.val sOp)))], []⟩
abbrev to_82 : Tm := ⟨[(0, .one (.kd (.val .bool)))], []⟩
def an_82 : List (Nat × Ann) := []
noncomputable def S_82 : Spec := specO ti_82.gs (kinds to_82.gs) op_Less
abbrev ti_85 : Tm := ⟨[(0, .one (.kd (.val sOp))), (1, .one (.kd (.val sOp)))], []⟩
abbrev to_85 : Tm := ⟨[(0, .one (.kd (.val .bool)))], []⟩
def an_85 : List (Nat × Ann) := [(5, .join [(4, .bool)])]
noncomputable def S_85 : Spec := specT ti_85.gs (kinds to_85.gs) hold_twin
abbrev ti_84 : Tm := ⟨[(0, .one (.kd (.val sOp))), (1, .one (.kd (.at_ sOp)))], []⟩
abbrev to_84 : Tm := ⟨[(0, .one (.kd (.val .bool)))], []⟩
def an_84 : List (Nat × Ann) := []
noncomputable def S_84 : Spec := specT ti_84.gs (kinds to_84.gs) hold_May_1
abbrev ti_124 : Tm := ⟨[(0, .one (.kd (.val (.list sOp)))), (1, .one (.kd (.clo 84 sOp)))], []⟩
abbrev to_124 : Tm := ⟨[(0, .one (.kd (.val sI)))], []⟩
def an_124 : List (Nat × Ann) := [(25, .loop ⟨[(0, .one (.kd (.val (.list sOp)))), (1, .one (.kd (.clo 84 sOp))), (7, .one (.kd (.val sI))), (8, .one (.kd (.val sI)))], []⟩ [(.exit 0, ⟨[], []⟩), (.ret, ⟨[(4, .one (.kd (.val sI)))], []⟩)])]
noncomputable def S_124 : Spec := specO ti_124.gs (kinds to_124.gs) slices_IndexFunc_Op
abbrev ti_83 : Tm := ⟨[(0, .one (.kd (.val (.list sOp)))), (1, .one (.kd (.clo 84 sOp)))], []⟩
abbrev to_83 : Tm := ⟨[(0, .one (.kd (.val .bool)))], []⟩
def an_83 : List (Nat × Ann) := []
noncomputable def S_83 : Spec := specO ti_83.gs (kinds to_83.gs) slices_ContainsFunc_Op
abbrev ti_44 : Tm := ⟨[(0, .one (.kd (.val (.list sI)))), (1, .one (.kd (.val (.list sOp))))], []⟩
abbrev to_44 : Tm := ⟨[(0, .one (.kd (.val .bool)))], []⟩
def an_44 : List (Nat × Ann) := [(2, .lab 0 ⟨[(0, .one (.kd (.val (.list sI)))), (1, .one (.kd (.val (.list sOp)))), (5, .one (.kd (.val sI))), (6, .one (.fix (.ptr 0 0)))], [[.kd (.val sOp)]]⟩ [(.goto 1, ⟨[], [[.kd (.val sOp)]]⟩), (.ret, ⟨[(4, .one (.kd (.val .bool)))], []⟩)]), (251, .join [(50, .bool)])]
noncomputable def S_44 : Spec := specO ti_44.gs (kinds to_44.gs) hold_May
theorem k0_237 : SpecOk (calls tb0 (ex tb0)) 237 S_237 := cmpStrS_ok rfl
theorem e0_166 (x : St ti_166) : (symF tb0 (spOf []) 166 (anOf an_166) 1000 ti_166 to_166 x).sem = cmp_Or_int x := by kernel_rfl
theorem k0_166 : SpecOk (calls tb0 (ex tb0)) 166 S_166 := plugO (f := 166) (an := anOf an_166) (fuel := 1000) (ti := ti_166) (to := to_166) (F := cmp_Or_int) (specsOk_nil) ⟨rfl, by kernel_rfl, by kernel_rfl, rfl, by kernel_rfl, by kernel_rfl⟩ (by kernel_rfl) rfl e0_166
theorem e_166 (x : St ti_166) : (symF tbS (spOf []) 166 (anOf an_166) 1000 ti_166 to_166 x).sem = cmp_Or_int x := by kernel_rfl
theorem k_166 : SpecOk KS 166 S_166 := plugO (f := 166) (an := anOf an_166) (fuel := 1000) (ti := ti_166) (to := to_166) (F := cmp_Or_int) (specsOk_nil) ⟨rfl, by kernel_rfl, by kernel_rfl, rfl, by kernel_rfl, by kernel_rfl⟩ (by kernel_rfl) rfl e_166
theorem se0_201 (x : St ti_201) : (symF tb0 (spOf []) 201 (anOf an_201) 1000 ti_201 to_201 x).sure = true := by kernel_rfl
theorem e0_201 (x : St ti_201) (d : St to_201) : (symF tb0 (spOf []) 201 (anOf an_201) 1000 ti_201 to_201 x).pick d = cmp_isNaN_int x := by kernel_rfl
theorem k0_201 : SpecOk (calls tb0 (ex tb0)) 201 S_201 := plugT (f := 201) (an := anOf an_201) (fuel := 1000) (ti := ti_201) (to := to_201) (F := cmp_isNaN_int) (specsOk_nil) ⟨rfl, by kernel_rfl, by kernel_rfl, rfl, by kernel_rfl, by kernel_rfl⟩ (by kernel_rfl) rfl se0_201 e0_201
theorem se_201 (x : St ti_201) : (symF tbS (spOf []) 201 (anOf an_201) 1000 ti_201 to_201 x).sure = true := by kernel_rfl
theorem e_201 (x : St ti_201) (d : St to_201) : (symF tbS (spOf []) 201 (anOf an_201) 1000 ti_201 to_201 x).pick d = cmp_isNaN_int x := by kernel_rfl
theorem k_201 : SpecOk KS 201 S_201 := plugT (f := 201) (an := anOf an_201) (fuel := 1000) (ti := ti_201) (to := to_201) (F := cmp_isNaN_int) (specsOk_nil) ⟨rfl, by kernel_rfl, by kernel_rfl, rfl, by kernel_rfl, by kernel_rfl⟩ (by kernel_rfl) rfl se_201 e_201
theorem se0_167 (x : St ti_167) : (symF tb0 (spOf [(201, S_201)]) 167 (anOf an_167) 1000 ti_167 to_167 x).sure = true := by kernel_rfl
theorem e0_167 (x : St ti_167) (d : St to_167) : (symF tb0 (spOf [(201, S_201)]) 167 (anOf an_167) 1000 ti_167 to_167 x).pick d = cmp_Compare_int x := by kernel_rfl
theorem k0_167 : SpecOk (calls tb0 (ex tb0)) 167 S_167 := plugT (f := 167) (an := anOf an_167) (fuel := 1000) (ti := ti_167) (to := to_167) (F := cmp_Compare_int) (specsOk_cons k0_201 (specsOk_nil)) ⟨rfl, by kernel_rfl, by kernel_rfl, rfl, by kernel_rfl, by kernel_rfl⟩ (by kernel_rfl) rfl se0_167 e0_167
theorem se_167 (x : St ti_167) : (symF tbS (spOf [(201, S_201)]) 167 (anOf an_167) 1000 ti_167 to_167 x).sure = true := by kernel_rfl
theorem e_167 (x : St ti_167) (d : St to_167) : (symF tbS (spOf [(201, S_201)]) 167 (anOf an_167) 1000 ti_167 to_167 x).pick d = cmp_Compare_int x := by kernel_rfl
theorem k_167 : SpecOk KS 167 S_167 := plugT (f := 167) (an := anOf an_167) (fuel := 1000) (ti := ti_167) (to := to_167) (F := cmp_Compare_int) (specsOk_cons k_201 (specsOk_nil)) ⟨rfl, by kernel_rfl, by kernel_rfl, rfl, by kernel_rfl, by kernel_rfl⟩ (by kernel_rfl) rfl se_167 e_167
theorem e0_123 (x : St ti_123) : (symF tb0 (spOf [(166, S_166), (167, S_167)]) 123 (anOf an_123) 1000 ti_123 to_123 x).sem = stamp_Cmp x := by kernel_rfl
theorem k0_123 : SpecOk (calls tb0 (ex tb0)) 123 S_123 := plugO (f := 123) (an := anOf an_123) (fuel := 1000) (ti := ti_123) (to := to_123) (F := stamp_Cmp) (specsOk_cons k0_166 (specsOk_cons k0_167 (specsOk_nil))) ⟨rfl, by kernel_rfl, by kernel_rfl, rfl, by kernel_rfl, by kernel_rfl⟩ (by kernel_rfl) rfl e0_123
theorem e_123 (x : St ti_123) : (symF tbS (spOf [(166, S_166), (167, S_167)]) 123 (anOf an_123) 1000 ti_123 to_123 x).sem = stamp_Cmp x := by kernel_rfl
theorem k_123 : SpecOk KS 123 S_123 := plugO (f := 123) (an := anOf an_123) (fuel := 1000) (ti := ti_123) (to := to_123) (F := stamp_Cmp) (specsOk_cons k_166 (specsOk_cons k_167 (specsOk_nil))) ⟨rfl, by kernel_rfl, by kernel_rfl, rfl, by kernel_rfl, by kernel_rfl⟩ (by kernel_rfl) rfl e_123
theorem se0_206 (x : St ti_206) : (symF tb0 (spOf [(237, S_237)]) 206 (anOf an_206) 1000 ti_206 to_206 x).sure = true := by kernel_rfl
theorem e0_206 (x : St ti_206) (d : St to_206) : (symF tb0 (spOf [(237, S_237)]) 206 (anOf an_206) 1000 ti_206 to_206 x).pick d = strings_Compare x := by kernel_rfl
theorem k0_206 : SpecOk (calls tb0 (ex tb0)) 206 S_206 := plugT (f := 206) (an := anOf an_206) (fuel := 1000) (ti := ti_206) (to := to_206) (F := strings_Compare) (specsOk_cons k0_237 (specsOk_nil)) ⟨rfl, by kernel_rfl, by kernel_rfl, rfl, by kernel_rfl, by kernel_rfl⟩ (by kernel_rfl) rfl se0_206 e0_206
theorem e0_205 (x : St ti_205) : (symF tb0 (spOf [(123, S_123), (166, S_166), (206, S_206)]) 205 (anOf an_205) 1000 ti_205 to_205 x).sem = tree_Children_1 x := by kernel_rfl
theorem k0_205 : SpecOk (calls tb0 (ex tb0)) 205 S_205 := plugO (f := 205) (an := anOf an_205) (fuel := 1000) (ti := ti_205) (to := to_205) (F := tree_Children_1) (specsOk_cons k0_123 (specsOk_cons k0_166 (specsOk_cons k0_206 (specsOk_nil)))) ⟨rfl, by kernel_rfl, by kernel_rfl, rfl, by kernel_rfl, by kernel_rfl⟩ (by kernel_rfl) rfl e0_205
theorem e_203 (x : St ti_203) : (symF tbS (spOf [(123, S_123)]) 203 (anOf an_203) 1000 ti_203 to_203 x).sem = tree_find_1 x := by kernel_rfl
theorem k_203 : SpecOk KS 203 S_203 := plugO (f := 203) (an := anOf an_203) (fuel := 1000) (ti := ti_203) (to := to_203) (F := tree_find_1) (specsOk_cons k_123 (specsOk_nil)) ⟨rfl, by kernel_rfl, by kernel_rfl, rfl, by kernel_rfl, by kernel_rfl⟩ (by kernel_rfl) rfl e_203
theorem e_202 (x : St ti_202) : (symF tbS (spOf [(203, S_203)]) 202 (anOf an_202) 1000 ti_202 to_202 x).sem = slices_BinarySearchFunc_Node_Stamp x := by kernel_rfl
theorem k_202 : SpecOk KS 202 S_202 := plugO (f := 202) (an := anOf an_202) (fuel := 1000) (ti := ti_202) (to := to_202) (F := slices_BinarySearchFunc_Node_Stamp) (specsOk_cons k_203 (specsOk_nil)) ⟨rfl, by kernel_rfl, by kernel_rfl, rfl, by kernel_rfl, by kernel_rfl⟩ (by kernel_rfl) rfl e_202
theorem e_170 (x : St ti_170) : (symF tbS (spOf [(202, S_202)]) 170 (anOf an_170) 1000 ti_170 to_170 x).sem = tree_find x := by kernel_rfl
theorem k_170 : SpecOk KS 170 S_170 := plugO (f := 170) (an := anOf an_170) (fuel := 1000) (ti := ti_170) (to := to_170) (F := tree_find) (specsOk_cons k_202 (specsOk_nil)) ⟨rfl, by kernel_rfl, by kernel_rfl, rfl, by kernel_rfl, by kernel_rfl⟩ (by kernel_rfl) rfl e_170
theorem e_94 (x : St ti_94) : (symF tbS (spOf []) 94 (anOf an_94) 1000 ti_94 to_94 x).sem = sum_Sum x := by kernel_rfl
theorem k_94 : SpecOk KS 94 S_94 := plugO (f := 94) (an := anOf an_94) (fuel := 1000) (ti := ti_94) (to := to_94) (F := sum_Sum) (specsOk_nil) ⟨rfl, by kernel_rfl, by kernel_rfl, rfl, by kernel_rfl, by kernel_rfl⟩ (by kernel_rfl) rfl e_94
theorem e_28 (x : St ti_28) : (symF tbS (spOf []) 28 (anOf an_28) 1000 ti_28 to_28 x).sem = arrasref5_Sum x := by kernel_rfl
theorem k_28 : SpecOk KS 28 S_28 := plugO (f := 28) (an := anOf an_28) (fuel := 1000) (ti := ti_28) (to := to_28) (F := arrasref5_Sum) (specsOk_nil) ⟨rfl, by kernel_rfl, by kernel_rfl, rfl, by kernel_rfl, by kernel_rfl⟩ (by kernel_rfl) rfl e_28
theorem e_40 (x : St ti_40) : (symF tbS (spOf []) 40 (anOf an_40) 1000 ti_40 to_40 x).sem = have_Is x := by kernel_rfl
theorem k_40 : SpecOk KS 40 S_40 := plugO (f := 40) (an := anOf an_40) (fuel := 1000) (ti := ti_40) (to := to_40) (F := have_Is) (specsOk_nil) ⟨rfl, by kernel_rfl, by kernel_rfl, rfl, by kernel_rfl, by kernel_rfl⟩ (by kernel_rfl) rfl e_40
theorem se_116 (x : St ti_116) : (symF tbS (spOf []) 116 (anOf an_116) 1000 ti_116 to_116 x).sure = true := by kernel_rfl
theorem e_116 (x : St ti_116) (d : St to_116) : (symF tbS (spOf []) 116 (anOf an_116) 1000 ti_116 to_116 x).pick d = stamp_Is x := by kernel_rfl
theorem k_116 : SpecOk KS 116 S_116 := plugT (f := 116) (an := anOf an_116) (fuel := 1000) (ti := ti_116) (to := to_116) (F := stamp_Is) (specsOk_nil) ⟨rfl, by kernel_rfl, by kernel_rfl, rfl, by kernel_rfl, by kernel_rfl⟩ (by kernel_rfl) rfl se_116 e_116
theorem se_138 (x : St ti_138) : (symF tbS (spOf []) 138 (anOf an_138) 1000 ti_138 to_138 x).sure = true := by kernel_rfl
theorem e_138 (x : St ti_138) (d : St to_138) : (symF tbS (spOf []) 138 (anOf an_138) 1000 ti_138 to_138 x).pick d = stamp_Root x := by kernel_rfl
theorem k_138 : SpecOk KS 138 S_138 := plugT (f := 138) (an := anOf an_138) (fuel := 1000) (ti := ti_138) (to := to_138) (F := stamp_Root) (specsOk_nil) ⟨rfl, by kernel_rfl, by kernel_rfl, rfl, by kernel_rfl, by kernel_rfl⟩ (by kernel_rfl) rfl se_138 e_138
theorem se_131 (x : St ti_131) : (symF tbS (spOf []) 131 (anOf an_131) 1000 ti_131 to_131 x).sure = true := by kernel_rfl
theorem e_131 (x : St ti_131) (d : St to_131) : (symF tbS (spOf []) 131 (anOf an_131) 1000 ti_131 to_131 x).pick d = stamp_Trash x := by kernel_rfl
theorem k_131 : SpecOk KS 131 S_131 := plugT (f := 131) (an := anOf an_131) (fuel := 1000) (ti := ti_131) (to := to_131) (F := stamp_Trash) (specsOk_nil) ⟨rfl, by kernel_rfl, by kernel_rfl, rfl, by kernel_rfl, by kernel_rfl⟩ (by kernel_rfl) rfl se_131 e_131
theorem se_160 (x : St ti_160) : (symF tbS (spOf [(116, S_116), (131, S_131), (138, S_138)]) 160 (anOf an_160) 1000 ti_160 to_160 x).sure = true := by kernel_rfl
theorem e_160 (x : St ti_160) (d : St to_160) : (symF tbS (spOf [(116, S_116), (131, S_131), (138, S_138)]) 160 (anOf an_160) 1000 ti_160 to_160 x).pick d = stamp_Place x := by kernel_rfl
theorem k_160 : SpecOk KS 160 S_160 := plugT (f := 160) (an := anOf an_160) (fuel := 1000) (ti := ti_160) (to := to_160) (F := stamp_Place) (specsOk_cons k_116 (specsOk_cons k_131 (specsOk_cons k_138 (specsOk_nil)))) ⟨rfl, by kernel_rfl, by kernel_rfl, rfl, by kernel_rfl, by kernel_rfl⟩ (by kernel_rfl) rfl se_160 e_160
theorem e_161 (x : St ti_161) : (symF tbS (spOf []) 161 (anOf an_161) 1000 ti_161 to_161 x).sem = key_Is x := by kernel_rfl
theorem k_161 : SpecOk KS 161 S_161 := plugO (f := 161) (an := anOf an_161) (fuel := 1000) (ti := ti_161) (to := to_161) (F := key_Is) (specsOk_nil) ⟨rfl, by kernel_rfl, by kernel_rfl, rfl, by kernel_rfl, by kernel_rfl⟩ (by kernel_rfl) rfl e_161
theorem se_171 (x : St ti_171) : (symF tbS (spOf []) 171 (anOf an_171) 1000 ti_171 to_171 x).sure = true := by kernel_rfl
theorem e_171 (x : St ti_171) (d : St to_171) : (symF tbS (spOf []) 171 (anOf an_171) 1000 ti_171 to_171 x).pick d = prop_Is x := by kernel_rfl
theorem k_171 : SpecOk KS 171 S_171 := plugT (f := 171) (an := anOf an_171) (fuel := 1000) (ti := ti_171) (to := to_171) (F := prop_Is) (specsOk_nil) ⟨rfl, by kernel_rfl, by kernel_rfl, rfl, by kernel_rfl, by kernel_rfl⟩ (by kernel_rfl) rfl se_171 e_171
theorem e_184 (x : St ti_184) : (symF tbS (spOf []) 184 (anOf an_184) 1000 ti_184 to_184 x).sem = prop_ruleOf x := by kernel_rfl
theorem k_184 : SpecOk KS 184 S_184 := plugO (f := 184) (an := anOf an_184) (fuel := 1000) (ti := ti_184) (to := to_184) (F := prop_ruleOf) (specsOk_nil) ⟨rfl, by kernel_rfl, by kernel_rfl, rfl, by kernel_rfl, by kernel_rfl⟩ (by kernel_rfl) rfl e_184
theorem e_162 (x : St ti_162) : (symF tbS (spOf [(171, S_171), (184, S_184)]) 162 (anOf an_162) 1000 ti_162 to_162 x).sem = prop_May x := by kernel_rfl
theorem k_162 : SpecOk KS 162 S_162 := plugO (f := 162) (an := anOf an_162) (fuel := 1000) (ti := ti_162) (to := to_162) (F := prop_May) (specsOk_cons k_171 (specsOk_cons k_184 (specsOk_nil))) ⟨rfl, by kernel_rfl, by kernel_rfl, rfl, by kernel_rfl, by kernel_rfl⟩ (by kernel_rfl) rfl e_162
theorem e_117 (x : St ti_117) : (symF tbS (spOf [(138, S_138), (160, S_160), (161, S_161), (162, S_162)]) 117 (anOf an_117) 1000 ti_117 to_117 x).sem = op_kind x := by kernel_rfl
theorem k_117 : SpecOk KS 117 S_117 := plugO (f := 117) (an := anOf an_117) (fuel := 1000) (ti := ti_117) (to := to_117) (F := op_kind) (specsOk_cons k_138 (specsOk_cons k_160 (specsOk_cons k_161 (specsOk_cons k_162 (specsOk_nil))))) ⟨rfl, by kernel_rfl, by kernel_rfl, rfl, by kernel_rfl, by kernel_rfl⟩ (by kernel_rfl) rfl e_117
theorem e_73 (x : St ti_73) : (symF tbS (spOf [(40, S_40), (116, S_116), (117, S_117)]) 73 (anOf an_73) 1000 ti_73 to_73 x).sem = op_May x := by kernel_rfl
theorem k_73 : SpecOk KS 73 S_73 := plugO (f := 73) (an := anOf an_73) (fuel := 1000) (ti := ti_73) (to := to_73) (F := op_May) (specsOk_cons k_40 (specsOk_cons k_116 (specsOk_cons k_117 (specsOk_nil)))) ⟨rfl, by kernel_rfl, by kernel_rfl, rfl, by kernel_rfl, by kernel_rfl⟩ (by kernel_rfl) rfl e_73
theorem e_118 (x : St ti_118) : (symF tbS (spOf []) 118 (anOf an_118) 1000 ti_118 to_118 x).sem = have_Over x := by kernel_rfl
theorem k_118 : SpecOk KS 118 S_118 := plugO (f := 118) (an := anOf an_118) (fuel := 1000) (ti := ti_118) (to := to_118) (F := have_Over) (specsOk_nil) ⟨rfl, by kernel_rfl, by kernel_rfl, rfl, by kernel_rfl, by kernel_rfl⟩ (by kernel_rfl) rfl e_118
theorem e_74 (x : St ti_74) : (symF tbS (spOf [(118, S_118)]) 74 (anOf an_74) 1000 ti_74 to_74 x).sem = hold_IsReady x := by kernel_rfl
theorem k_74 : SpecOk KS 74 S_74 := plugO (f := 74) (an := anOf an_74) (fuel := 1000) (ti := ti_74) (to := to_74) (F := hold_IsReady) (specsOk_cons k_118 (specsOk_nil)) ⟨rfl, by kernel_rfl, by kernel_rfl, rfl, by kernel_rfl, by kernel_rfl⟩ (by kernel_rfl) rfl e_74
theorem e_81 (x : St ti_81) : (symF tbS (spOf [(73, S_73)]) 81 (anOf an_81) 1000 ti_81 to_81 x).sem = hold_fits x := by kernel_rfl
theorem k_81 : SpecOk KS 81 S_81 := plugO (f := 81) (an := anOf an_81) (fuel := 1000) (ti := ti_81) (to := to_81) (F := hold_fits) (specsOk_cons k_73 (specsOk_nil)) ⟨rfl, by kernel_rfl, by kernel_rfl, rfl, by kernel_rfl, by kernel_rfl⟩ (by kernel_rfl) rfl e_81
theorem e_82 (x : St ti_82) : (symF tbS (spOf [(123, S_123)]) 82 (anOf an_82) 1000 ti_82 to_82 x).sem = op_Less x := by kernel_rfl
theorem k_82 : SpecOk KS 82 S_82 := plugO (f := 82) (an := anOf an_82) (fuel := 1000) (ti := ti_82) (to := to_82) (F := op_Less) (specsOk_cons k_123 (specsOk_nil)) ⟨rfl, by kernel_rfl, by kernel_rfl, rfl, by kernel_rfl, by kernel_rfl⟩ (by kernel_rfl) rfl e_82
theorem se_85 (x : St ti_85) : (symF tbS (spOf []) 85 (anOf an_85) 1000 ti_85 to_85 x).sure = true := by kernel_rfl
theorem e_85 (x : St ti_85) (d : St to_85) : (symF tbS (spOf []) 85 (anOf an_85) 1000 ti_85 to_85 x).pick d = hold_twin x := by kernel_rfl
theorem k_85 : SpecOk KS 85 S_85 := plugT (f := 85) (an := anOf an_85) (fuel := 1000) (ti := ti_85) (to := to_85) (F := hold_twin) (specsOk_nil) ⟨rfl, by kernel_rfl, by kernel_rfl, rfl, by kernel_rfl, by kernel_rfl⟩ (by kernel_rfl) rfl se_85 e_85
theorem se_84 (x : St ti_84) : (symF tbS (spOf [(85, S_85)]) 84 (anOf an_84) 1000 ti_84 to_84 x).sure = true := by kernel_rfl
theorem e_84 (x : St ti_84) (d : St to_84) : (symF tbS (spOf [(85, S_85)]) 84 (anOf an_84) 1000 ti_84 to_84 x).pick d = hold_May_1 x := by kernel_rfl
theorem k_84 : SpecOk KS 84 S_84 := plugT (f := 84) (an := anOf an_84) (fuel := 1000) (ti := ti_84) (to := to_84) (F := hold_May_1) (specsOk_cons k_85 (specsOk_nil)) ⟨rfl, by kernel_rfl, by kernel_rfl, rfl, by kernel_rfl, by kernel_rfl⟩ (by kernel_rfl) rfl se_84 e_84
theorem e_124 (x : St ti_124) : (symF tbS (spOf [(84, S_84)]) 124 (anOf an_124) 1000 ti_124 to_124 x).sem = slices_IndexFunc_Op x := by kernel_rfl
theorem k_124 : SpecOk KS 124 S_124 := plugO (f := 124) (an := anOf an_124) (fuel := 1000) (ti := ti_124) (to := to_124) (F := slices_IndexFunc_Op) (specsOk_cons k_84 (specsOk_nil)) ⟨rfl, by kernel_rfl, by kernel_rfl, rfl, by kernel_rfl, by kernel_rfl⟩ (by kernel_rfl) rfl e_124
theorem e_83 (x : St ti_83) : (symF tbS (spOf [(124, S_124)]) 83 (anOf an_83) 1000 ti_83 to_83 x).sem = slices_ContainsFunc_Op x := by kernel_rfl
theorem k_83 : SpecOk KS 83 S_83 := plugO (f := 83) (an := anOf an_83) (fuel := 1000) (ti := ti_83) (to := to_83) (F := slices_ContainsFunc_Op) (specsOk_cons k_124 (specsOk_nil)) ⟨rfl, by kernel_rfl, by kernel_rfl, rfl, by kernel_rfl, by kernel_rfl⟩ (by kernel_rfl) rfl e_83
theorem e_44 (x : St ti_44) : (symF tbS (spOf [(74, S_74), (81, S_81), (82, S_82), (83, S_83)]) 44 (anOf an_44) 1000 ti_44 to_44 x).sem = hold_May x := by kernel_rfl
theorem k_44 : SpecOk KS 44 S_44 := plugO (f := 44) (an := anOf an_44) (fuel := 1000) (ti := ti_44) (to := to_44) (F := hold_May) (specsOk_cons k_74 (specsOk_cons k_81 (specsOk_cons k_82 (specsOk_cons k_83 (specsOk_nil))))) ⟨rfl, by kernel_rfl, by kernel_rfl, rfl, by kernel_rfl, by kernel_rfl⟩ (by kernel_rfl) rfl e_44
end Go.Dv
