/- What the code comes to: each function of the seat, by the engine. Printed by a tool (seat.py). -/
import Derived.Test.YtdpgchmodijllaaGreatProg
import Derived.Test.YtdpgchmodijllaaGreatDvI
import Derived.Test.YtdpgchmodijllaaGreatNat
import Derived.Test.YtdpgchmodijllaaGreatDvJ
import Derived.Test.YtdpgchmodijllaaGreatTrA
set_option linter.unusedVariables false
set_option linter.unusedSimpArgs false
set_option maxRecDepth 100000
open Go (IntKind)
namespace Go.Dv
abbrev polS : Pol := ⟨[0, 1, 2, 3, 4, 5, 6, 7, 8, 9, 10, 11, 12, 13, 14, 15, 16, 17, 18, 19, 20, 22, 23, 24, 28, 29, 31, 32, 33, 34, 35, 36, 37, 38, 39, 40, 41, 42, 43, 44, 47, 50, 51, 56, 57, 58, 60, 61, 62, 63, 64, 65, 66, 67, 68, 69, 70, 73, 74, 76, 77, 78, 79, 80, 81, 82, 83, 84, 85, 90, 91, 92, 93, 94, 95, 96, 97, 98, 99, 105, 106, 107, 108, 109, 110, 111, 112, 114, 115, 116, 117, 118, 121, 122, 123, 124, 129, 130, 131, 132, 133, 134, 135, 136, 137, 138, 140, 141, 142, 143, 146, 148, 151, 152, 153, 154, 155, 156, 157, 158, 159, 160, 161, 162, 163, 164, 166, 167, 170, 171, 172, 173, 174, 175, 176, 177, 178, 179, 180, 181, 182, 184, 185, 186, 188, 189, 191, 195, 196, 198, 200, 201, 202, 203, 204, 205, 206, 207, 208, 209, 210, 211, 212, 213, 214, 215, 217, 221, 222, 223, 224, 226, 229, 230, 231, 232, 233, 235, 236, 237, 238, 239, 240, 241, 242, 243, 244, 245, 246, 247, 248, 249, 252, 253, 254, 255, 256, 257, 258, 259, 260, 261, 262, 263, 264, 265, 266, 267, 268, 269, 270, 271, 272, 273, 274, 275, 276, 277, 278, 279, 280, 281, 282, 283, 284, 285, 286, 287, 288, 289, 290, 291, 292, 293, 294, 295, 296, 297, 298, 299, 300, 301, 302, 303, 304, 305, 306, 307, 308, 309, 310, 311, 312, 313, 314, 315, 316, 317, 318, 319, 320, 321, 322, 323, 324, 325, 326, 327, 328, 329, 330, 331, 332, 333, 334, 335], fun f => ((([(6, [3000002]), (89, [78])] : List (Nat × List Nat)).lookup f).getD []), fun f => ((([] : List (Nat × List Nat)).lookup f).getD [])⟩
noncomputable abbrev tb0 : Table := ⟨funOf Go.Proofs.Tryz.prog polS, fun f => List.lookup f [(237, cmpPrim)]⟩
noncomputable abbrev prS : FuncId → Option (List DV → Hp → Option (DV × Hp)) := fun f => List.lookup f [(199, insPrim 3 40), (204, sortPrim sNode cf_slices_SortFunc_Node 205), (234, insPrim 4 32), (237, cmpPrim), (250, cutPrim tb0 250), (251, insPrim 5 48)]
noncomputable def nat22 : List DV → Hp → Option (DV × Hp) := natPrim (natO [B.sState] [.bool] B.replica_May)
noncomputable abbrev tbS : Table := ⟨funOf Go.Proofs.Tryz.prog polS, fun f => bif Nat.beq f 22 then some nat22 else prS f⟩
noncomputable abbrev KS : Oracle := calls tbS (ex tbS)
noncomputable def S_199 : Spec := insertS 3 40
noncomputable def S_204 : Spec := specI 5 sNode [.fn 205 []] slices_SortFunc_Node
noncomputable def S_234 : Spec := insertS 4 32
noncomputable def S_237 : Spec := cmpStrS
noncomputable def S_250 : Spec := deleteS 5 48
noncomputable def S_251 : Spec := insertS 5 48
abbrev ti_166 : Tm := ⟨[(0, .one (.kd (.val (.list sI))))], []⟩
abbrev to_166 : Tm := ⟨[(0, .one (.kd (.val sI)))], []⟩
def an_166 : List (Nat × Ann) := [(57, .loop ⟨[(3, .one (.kd (.val sI))), (6, .one (.kd (.val (.list sI)))), (7, .one (.kd (.val sI))), (8, .one (.kd (.val sI)))], []⟩ [(.exit 0, ⟨[(3, .one (.kd (.val sI)))], []⟩), (.ret, ⟨[(2, .one (.kd (.val sI)))], []⟩)])]
noncomputable def S_166 : Spec := specO ti_166.gs (kinds to_166.gs) cmp_Or_int
abbrev ti_201 : Tm := ⟨[(0, .one (.kd (.val sI)))], []⟩
abbrev to_201 : Tm := ⟨[(0, .one (.kd (.val .bool)))], []⟩
def an_201 : List (Nat × Ann) := []
noncomputable def S_201 : Spec := specT ti_201.gs (kinds to_201.gs) cmp_isNaN_int
abbrev ti_167 : Tm := ⟨[(0, .one (.kd (.val sI))), (1, .one (.kd (.val sI)))], []⟩
abbrev to_167 : Tm := ⟨[(0, .one (.kd (.val sI)))], []⟩
def an_167 : List (Nat × Ann) := []
noncomputable def S_167 : Spec := specT ti_167.gs (kinds to_167.gs) cmp_Compare_int
abbrev ti_123 : Tm := ⟨[(0, .one (.kd (.val sStamp))), (1, .one (.kd (.val sStamp)))], []⟩
abbrev to_123 : Tm := ⟨[(0, .one (.kd (.val sI)))], []⟩
def an_123 : List (Nat × Ann) := []
noncomputable def S_123 : Spec := specO ti_123.gs (kinds to_123.gs) stamp_Cmp
abbrev ti_206 : Tm := ⟨[(0, .one (.kd (.val .str))), (1, .one (.kd (.val .str)))], []⟩
abbrev to_206 : Tm := ⟨[(0, .one (.kd (.val sI)))], []⟩
def an_206 : List (Nat × Ann) := []
noncomputable def S_206 : Spec := specT ti_206.gs (kinds to_206.gs) strings_Compare
abbrev ti_205 : Tm := ⟨[(0, .one (.kd (.val sNode))), (1, .one (.kd (.val sNode)))], []⟩
abbrev to_205 : Tm := ⟨[(0, .one (.kd (.val sI)))], []⟩
def an_205 : List (Nat × Ann) := []
noncomputable def S_205 : Spec := specO ti_205.gs (kinds to_205.gs) tree_Children_1
abbrev ti_203 : Tm := ⟨[(0, .one (.kd (.val sNode))), (1, .one (.kd (.val sStamp)))], []⟩
abbrev to_203 : Tm := ⟨[(0, .one (.kd (.val sI)))], []⟩
def an_203 : List (Nat × Ann) := []
noncomputable def S_203 : Spec := specO ti_203.gs (kinds to_203.gs) tree_find_1
abbrev ti_202 : Tm := ⟨[(0, .one (.kd (.val (.list sNode)))), (1, .one (.kd (.val sStamp))), (2, .one (.fix (.fn 203 [])))], []⟩
abbrev to_202 : Tm := ⟨[(0, .one (.kd (.val sI))), (1, .one (.kd (.val .bool)))], []⟩
def an_202 : List (Nat × Ann) := [(59, .loop ⟨[(0, .one (.kd (.val (.list sNode)))), (2, .one (.fix (.fn 203 []))), (4, .one (.fix (.ptr 0 0))), (8, .one (.kd (.val sI))), (9, .one (.kd (.val sI))), (10, .one (.kd (.val sI)))], [[.kd (.val sStamp)]]⟩ [(.exit 0, ⟨[(0, .one (.kd (.val (.list sNode)))), (2, .one (.fix (.fn 203 []))), (4, .one (.fix (.ptr 0 0))), (8, .one (.kd (.val sI))), (9, .one (.kd (.val sI)))], [[.kd (.val sStamp)]]⟩)]), (61, .join [(6, sI), (7, .bool)])]
noncomputable def S_202 : Spec := specO ti_202.gs (kinds to_202.gs) slices_BinarySearchFunc_Node_Stamp
abbrev ti_170 : Tm := ⟨[(0, .one (.kd (.val (.list sNode)))), (1, .one (.kd (.val sStamp)))], []⟩
abbrev to_170 : Tm := ⟨[(0, .one (.kd (.val sI))), (1, .one (.kd (.val .bool)))], []⟩
def an_170 : List (Nat × Ann) := []
noncomputable def S_170 : Spec := specO ti_170.gs (kinds to_170.gs) tree_find
abbrev ti_173 : Tm := ⟨[(0, .one (.kd (.val sTree))), (1, .one (.kd (.val sStamp)))], []⟩
abbrev to_173 : Tm := ⟨[(0, .one (.kd (.val (.list sNode))))], []⟩
def an_173 : List (Nat × Ann) := [(25, .loop ⟨[(3, .one (.fix (.ptr 1 0))), (4, .one (.kd (.own false 5 sNode))), (8, .one (.kd (.val (.list sNode)))), (9, .one (.kd (.val sI))), (10, .one (.kd (.val sI)))], [[.kd (.val sTree)], [.kd (.val sStamp)]]⟩ [(.exit 0, ⟨[(4, .one (.kd (.own false 5 sNode)))], [[.kd (.val sTree)], [.kd (.val sStamp)]]⟩)])]
noncomputable def S_173 : Spec := specO ti_173.gs (kinds to_173.gs) tree_Children
abbrev ti_130 : Tm := ⟨[(0, .one (.kd (.val sTree))), (1, .one (.kd (.val sStamp)))], []⟩
abbrev to_130 : Tm := ⟨[(0, .one (.kd (.val sNode))), (1, .one (.kd (.val .bool)))], []⟩
def an_130 : List (Nat × Ann) := []
noncomputable def S_130 : Spec := specO ti_130.gs (kinds to_130.gs) tree_Node
abbrev ti_131 : Tm := ⟨[], []⟩
abbrev to_131 : Tm := ⟨[(0, .one (.kd (.val sStamp)))], []⟩
def an_131 : List (Nat × Ann) := []
noncomputable def S_131 : Spec := specT ti_131.gs (kinds to_131.gs) stamp_Trash
abbrev ti_138 : Tm := ⟨[], []⟩
abbrev to_138 : Tm := ⟨[(0, .one (.kd (.val sStamp)))], []⟩
def an_138 : List (Nat × Ann) := []
noncomputable def S_138 : Spec := specT ti_138.gs (kinds to_138.gs) stamp_Root
abbrev ti_179 : Tm := ⟨[(0, .one (.kd (.val sTree))), (1, .one (.kd (.val sStamp)))], []⟩
abbrev to_179 : Tm := ⟨[(0, .one (.kd (.val (.list sStamp))))], []⟩
def an_179 : List (Nat × Ann) := [(2, .lab 0 ⟨[(2, .one (.fix (.ptr 0 0))), (3, .one (.fix (.ptr 1 0))), (4, .one (.kd (.own false 2 sStamp))), (5, .one (.fix (.ptr 2 0)))], [[.kd (.val sTree)], [.kd (.val sStamp)], [.kd (.val sNode)]]⟩ [(.ret, ⟨[(4, .one (.kd (.own false 2 sStamp)))], []⟩)])]
noncomputable def S_179 : Spec := specO ti_179.gs (kinds to_179.gs) tree_Up
abbrev ti_172 : Tm := ⟨[(0, .one (.kd (.val sTree))), (1, .one (.kd (.val sStamp)))], []⟩
abbrev to_172 : Tm := ⟨[(0, .one (.kd (.val .bool)))], []⟩
def an_172 : List (Nat × Ann) := [(13, .join [(4, .bool)])]
noncomputable def S_172 : Spec := specO ti_172.gs (kinds to_172.gs) tree_Lives
abbrev ti_208 : Tm := ⟨[(0, .one (.kd (.at_ (.list sNode)))), (1, .one (.kd (.val sStamp))), (2, .one (.kd (.val sStamp)))], []⟩
abbrev to_208 : Tm := ⟨[(0, .one (.kd (.val .bool)))], []⟩
def an_208 : List (Nat × Ann) := [(2, .lab 0 ⟨[(0, .one (.kd (.at_ (.list sNode)))), (4, .one (.fix (.ptr 0 0))), (5, .one (.fix (.ptr 1 0)))], [[.kd (.val sStamp)], [.kd (.val sStamp)]]⟩ [(.ret, ⟨[(6, .one (.kd (.val .bool)))], []⟩)])]
noncomputable def S_208 : Spec := specO ti_208.gs (kinds to_208.gs) tree_work_circle
abbrev ti_177 : Tm := ⟨[(0, .one (.kd (.val sTree))), (1, .one (.kd (.val sOp)))], []⟩
abbrev to_177 : Tm := ⟨[(0, .one (.kd (.val .bool)))], []⟩
def an_177 : List (Nat × Ann) := []
noncomputable def S_177 : Spec := specO ti_177.gs (kinds to_177.gs) tree_Circles
abbrev ti_178 : Tm := ⟨[(0, .one (.kd (.val sTree)))], []⟩
abbrev to_178 : Tm := ⟨[(0, .one (.kd (.val sI)))], []⟩
def an_178 : List (Nat × Ann) := [(25, .loop ⟨[(1, .one (.fix (.ptr 0 0))), (2, .one (.kd (.val sI))), (6, .one (.kd (.val (.list sNode)))), (7, .one (.kd (.val sI))), (8, .one (.kd (.val sI)))], [[.kd (.val sTree)]]⟩ [(.exit 0, ⟨[(2, .one (.kd (.val sI)))], [[.kd (.val sTree)]]⟩)])]
noncomputable def S_178 : Spec := specO ti_178.gs (kinds to_178.gs) shape_living
abbrev ti_180 : Tm := ⟨[(0, .one (.kd (.val sTree))), (1, .one (.kd (.val sStamp)))], []⟩
abbrev to_180 : Tm := ⟨[(0, .one (.kd (.val sI)))], []⟩
def an_180 : List (Nat × Ann) := [(57, .loop ⟨[(2, .one (.fix (.ptr 0 0))), (5, .one (.kd (.val sI))), (10, .one (.kd (.val (.list sNode)))), (11, .one (.kd (.val sI))), (12, .one (.kd (.val sI)))], [[.kd (.val sTree)], [.kd (.val sStamp)]]⟩ [(.exit 0, ⟨[(5, .one (.kd (.val sI)))], [[.kd (.val sTree)], [.kd (.val sStamp)]]⟩)])]
noncomputable abbrev Sr_180 (F : St ti_180 → Option (St to_180)) : Spec := specO ti_180.gs (kinds to_180.gs) F
noncomputable def S_180 : Spec := specO ti_180.gs (kinds to_180.gs) shape_tall
abbrev ti_134 : Tm := ⟨[(0, .one (.kd (.val sTree))), (1, .one (.kd (.val sOp)))], []⟩
abbrev to_134 : Tm := ⟨[(0, .one (.kd (.val sI)))], []⟩
def an_134 : List (Nat × Ann) := [(119, .join [(19, .bool)]), (971, .join [(28, .bool)]), (972, .cut [(.normal, ⟨[(2, .one (.fix (.ptr 0 0))), (3, .one (.fix (.ptr 1 0))), (6, .one (.kd (.val .bool))), (7, .one (.kd (.val .bool))), (28, .one (.kd (.val .bool)))], [[.kd (.val sTree)], [.kd (.val sOp)], [.kd (.val sNode)]]⟩)]), (1946, .join [(28, .bool)]), (1949, .join [(50, .bool)]), (7805, .join [(58, .bool)])]
noncomputable def S_134 : Spec := specO ti_134.gs (kinds to_134.gs) shape_moves
abbrev ti_90 : Tm := ⟨[(0, .one (.kd (.val sShape))), (1, .one (.kd (.val sOp)))], []⟩
abbrev to_90 : Tm := ⟨[(0, .one (.kd (.val sI)))], []⟩
def an_90 : List (Nat × Ann) := []
noncomputable def S_90 : Spec := specO ti_90.gs (kinds to_90.gs) shape_Lets
theorem k_199 : SpecOk KS 199 S_199 := insertS_ok rfl
theorem k_234 : SpecOk KS 234 S_234 := insertS_ok rfl
theorem k0_237 : SpecOk (calls tb0 (ex tb0)) 237 S_237 := cmpStrS_ok rfl
theorem k_250 : SpecOk KS 250 S_250 := deleteS_ok (tb0 := tb0) (zero := [.int .i64 0, .int .i64 0, .int .i64 0, .int .i64 0, .str ⟨#[]⟩]) rfl (by kernel_rfl) rfl (by decide)
theorem k_251 : SpecOk KS 251 S_251 := insertS_ok rfl
theorem e0_166 (x : St ti_166) : (symF tb0 (spOf []) 166 (anOf an_166) 1000 ti_166 to_166 x).sem = cmp_Or_int x := by kernel_rfl
theorem k0_166 : SpecOk (calls tb0 (ex tb0)) 166 S_166 := plugO (f := 166) (an := anOf an_166) (fuel := 1000) (ti := ti_166) (to := to_166) (F := cmp_Or_int) (specsOk_nil) ⟨rfl, by kernel_rfl, by kernel_rfl, rfl, by kernel_rfl, by kernel_rfl⟩ (by kernel_rfl) rfl e0_166
theorem e_166 (x : St ti_166) : (symF tbS (spOf []) 166 (anOf an_166) 1000 ti_166 to_166 x).sem = cmp_Or_int x := by kernel_rfl
theorem k_166 : SpecOk KS 166 S_166 := plugO (f := 166) (an := anOf an_166) (fuel := 1000) (ti := ti_166) (to := to_166) (F := cmp_Or_int) (specsOk_nil) ⟨rfl, by kernel_rfl, by kernel_rfl, rfl, by kernel_rfl, by kernel_rfl⟩ (by kernel_rfl) rfl e_166
theorem se0_201 (x : St ti_201) : (symF tb0 (spOf []) 201 (anOf an_201) 1000 ti_201 to_201 x).sure = true := by kernel_rfl
theorem e0_201 (x : St ti_201) (d : St to_201) : (symF tb0 (spOf []) 201 (anOf an_201) 1000 ti_201 to_201 x).pick d = cmp_isNaN_int x := by kernel_rfl
theorem k0_201 : SpecOk (calls tb0 (ex tb0)) 201 S_201 := plugT (f := 201) (an := anOf an_201) (fuel := 1000) (ti := ti_201) (to := to_201) (F := cmp_isNaN_int) (specsOk_nil) ⟨rfl, by kernel_rfl, by kernel_rfl, rfl, by kernel_rfl, by kernel_rfl⟩ (by kernel_rfl) rfl se0_201 e0_201
theorem se_201 (x : St ti_201) : (symF tbS (spOf []) 201 (anOf an_201) 1000 ti_201 to_201 x).sure = true := by kernel_rfl
theorem e_201 (x : St ti_201) (d : St to_201) : (symF tbS (spOf []) 201 (anOf an_201) 1000 ti_201 to_201 x).pick d = cmp_isNaN_int x := by kernel_rfl
theorem k_201 : SpecOk KS 201 S_201 := plugT (f := 201) (an := anOf an_201) (fuel := 1000) (ti := ti_201) (to := to_201) (F := cmp_isNaN_int) (specsOk_nil) ⟨rfl, by kernel_rfl, by kernel_rfl, rfl, by kernel_rfl, by kernel_rfl⟩ (by kernel_rfl) rfl se_201 e_201
theorem se0_167 (x : St ti_167) : (symF tb0 (spOf [(201, S_201)]) 167 (anOf an_167) 1000 ti_167 to_167 x).sure = true := by kernel_rfl
theorem e0_167 (x : St ti_167) (d : St to_167) : (symF tb0 (spOf [(201, S_201)]) 167 (anOf an_167) 1000 ti_167 to_167 x).pick d = cmp_Compare_int x := by kernel_rfl
theorem k0_167 : SpecOk (calls tb0 (ex tb0)) 167 S_167 := plugT (f := 167) (an := anOf an_167) (fuel := 1000) (ti := ti_167) (to := to_167) (F := cmp_Compare_int) (specsOk_cons k0_201 (specsOk_nil)) ⟨rfl, by kernel_rfl, by kernel_rfl, rfl, by kernel_rfl, by kernel_rfl⟩ (by kernel_rfl) rfl se0_167 e0_167
theorem se_167 (x : St ti_167) : (symF tbS (spOf [(201, S_201)]) 167 (anOf an_167) 1000 ti_167 to_167 x).sure = true := by kernel_rfl
theorem e_167 (x : St ti_167) (d : St to_167) : (symF tbS (spOf [(201, S_201)]) 167 (anOf an_167) 1000 ti_167 to_167 x).pick d = cmp_Compare_int x := by kernel_rfl
theorem k_167 : SpecOk KS 167 S_167 := plugT (f := 167) (an := anOf an_167) (fuel := 1000) (ti := ti_167) (to := to_167) (F := cmp_Compare_int) (specsOk_cons k_201 (specsOk_nil)) ⟨rfl, by kernel_rfl, by kernel_rfl, rfl, by kernel_rfl, by kernel_rfl⟩ (by kernel_rfl) rfl se_167 e_167
theorem e0_123 (x : St ti_123) : (symF tb0 (spOf [(166, S_166), (167, S_167)]) 123 (anOf an_123) 1000 ti_123 to_123 x).sem = stamp_Cmp x := by kernel_rfl
theorem k0_123 : SpecOk (calls tb0 (ex tb0)) 123 S_123 := plugO (f := 123) (an := anOf an_123) (fuel := 1000) (ti := ti_123) (to := to_123) (F := stamp_Cmp) (specsOk_cons k0_166 (specsOk_cons k0_167 (specsOk_nil))) ⟨rfl, by kernel_rfl, by kernel_rfl, rfl, by kernel_rfl, by kernel_rfl⟩ (by kernel_rfl) rfl e0_123
theorem e_123 (x : St ti_123) : (symF tbS (spOf [(166, S_166), (167, S_167)]) 123 (anOf an_123) 1000 ti_123 to_123 x).sem = stamp_Cmp x := by kernel_rfl
theorem k_123 : SpecOk KS 123 S_123 := plugO (f := 123) (an := anOf an_123) (fuel := 1000) (ti := ti_123) (to := to_123) (F := stamp_Cmp) (specsOk_cons k_166 (specsOk_cons k_167 (specsOk_nil))) ⟨rfl, by kernel_rfl, by kernel_rfl, rfl, by kernel_rfl, by kernel_rfl⟩ (by kernel_rfl) rfl e_123
theorem se0_206 (x : St ti_206) : (symF tb0 (spOf [(237, S_237)]) 206 (anOf an_206) 1000 ti_206 to_206 x).sure = true := by kernel_rfl
theorem e0_206 (x : St ti_206) (d : St to_206) : (symF tb0 (spOf [(237, S_237)]) 206 (anOf an_206) 1000 ti_206 to_206 x).pick d = strings_Compare x := by kernel_rfl
theorem k0_206 : SpecOk (calls tb0 (ex tb0)) 206 S_206 := plugT (f := 206) (an := anOf an_206) (fuel := 1000) (ti := ti_206) (to := to_206) (F := strings_Compare) (specsOk_cons k0_237 (specsOk_nil)) ⟨rfl, by kernel_rfl, by kernel_rfl, rfl, by kernel_rfl, by kernel_rfl⟩ (by kernel_rfl) rfl se0_206 e0_206
theorem e0_205 (x : St ti_205) : (symF tb0 (spOf [(123, S_123), (166, S_166), (206, S_206)]) 205 (anOf an_205) 1000 ti_205 to_205 x).sem = tree_Children_1 x := by kernel_rfl
theorem k0_205 : SpecOk (calls tb0 (ex tb0)) 205 S_205 := plugO (f := 205) (an := anOf an_205) (fuel := 1000) (ti := ti_205) (to := to_205) (F := tree_Children_1) (specsOk_cons k0_123 (specsOk_cons k0_166 (specsOk_cons k0_206 (specsOk_nil)))) ⟨rfl, by kernel_rfl, by kernel_rfl, rfl, by kernel_rfl, by kernel_rfl⟩ (by kernel_rfl) rfl e0_205
theorem k_204 : SpecOk KS 204 S_204 := sortS_ok rfl swo_slices_SortFunc_Node rfl
theorem e_203 (x : St ti_203) : (symF tbS (spOf [(123, S_123)]) 203 (anOf an_203) 1000 ti_203 to_203 x).sem = tree_find_1 x := by kernel_rfl
theorem k_203 : SpecOk KS 203 S_203 := plugO (f := 203) (an := anOf an_203) (fuel := 1000) (ti := ti_203) (to := to_203) (F := tree_find_1) (specsOk_cons k_123 (specsOk_nil)) ⟨rfl, by kernel_rfl, by kernel_rfl, rfl, by kernel_rfl, by kernel_rfl⟩ (by kernel_rfl) rfl e_203
theorem e_202 (x : St ti_202) : (symF tbS (spOf [(203, S_203)]) 202 (anOf an_202) 1000 ti_202 to_202 x).sem = slices_BinarySearchFunc_Node_Stamp x := by kernel_rfl
theorem k_202 : SpecOk KS 202 S_202 := plugO (f := 202) (an := anOf an_202) (fuel := 1000) (ti := ti_202) (to := to_202) (F := slices_BinarySearchFunc_Node_Stamp) (specsOk_cons k_203 (specsOk_nil)) ⟨rfl, by kernel_rfl, by kernel_rfl, rfl, by kernel_rfl, by kernel_rfl⟩ (by kernel_rfl) rfl e_202
theorem e_170 (x : St ti_170) : (symF tbS (spOf [(202, S_202)]) 170 (anOf an_170) 1000 ti_170 to_170 x).sem = tree_find x := by kernel_rfl
theorem k_170 : SpecOk KS 170 S_170 := plugO (f := 170) (an := anOf an_170) (fuel := 1000) (ti := ti_170) (to := to_170) (F := tree_find) (specsOk_cons k_202 (specsOk_nil)) ⟨rfl, by kernel_rfl, by kernel_rfl, rfl, by kernel_rfl, by kernel_rfl⟩ (by kernel_rfl) rfl e_170
theorem e_173 (x : St ti_173) : (symF tbS (spOf [(204, S_204)]) 173 (anOf an_173) 1000 ti_173 to_173 x).sem = tree_Children x := by kernel_rfl
theorem k_173 : SpecOk KS 173 S_173 := plugO (f := 173) (an := anOf an_173) (fuel := 1000) (ti := ti_173) (to := to_173) (F := tree_Children) (specsOk_cons k_204 (specsOk_nil)) ⟨rfl, by kernel_rfl, by kernel_rfl, rfl, by kernel_rfl, by kernel_rfl⟩ (by kernel_rfl) rfl e_173
theorem e_130 (x : St ti_130) : (symF tbS (spOf [(170, S_170)]) 130 (anOf an_130) 1000 ti_130 to_130 x).sem = tree_Node x := by kernel_rfl
theorem k_130 : SpecOk KS 130 S_130 := plugO (f := 130) (an := anOf an_130) (fuel := 1000) (ti := ti_130) (to := to_130) (F := tree_Node) (specsOk_cons k_170 (specsOk_nil)) ⟨rfl, by kernel_rfl, by kernel_rfl, rfl, by kernel_rfl, by kernel_rfl⟩ (by kernel_rfl) rfl e_130
theorem se_131 (x : St ti_131) : (symF tbS (spOf []) 131 (anOf an_131) 1000 ti_131 to_131 x).sure = true := by kernel_rfl
theorem e_131 (x : St ti_131) (d : St to_131) : (symF tbS (spOf []) 131 (anOf an_131) 1000 ti_131 to_131 x).pick d = stamp_Trash x := by kernel_rfl
theorem k_131 : SpecOk KS 131 S_131 := plugT (f := 131) (an := anOf an_131) (fuel := 1000) (ti := ti_131) (to := to_131) (F := stamp_Trash) (specsOk_nil) ⟨rfl, by kernel_rfl, by kernel_rfl, rfl, by kernel_rfl, by kernel_rfl⟩ (by kernel_rfl) rfl se_131 e_131
theorem se_138 (x : St ti_138) : (symF tbS (spOf []) 138 (anOf an_138) 1000 ti_138 to_138 x).sure = true := by kernel_rfl
theorem e_138 (x : St ti_138) (d : St to_138) : (symF tbS (spOf []) 138 (anOf an_138) 1000 ti_138 to_138 x).pick d = stamp_Root x := by kernel_rfl
theorem k_138 : SpecOk KS 138 S_138 := plugT (f := 138) (an := anOf an_138) (fuel := 1000) (ti := ti_138) (to := to_138) (F := stamp_Root) (specsOk_nil) ⟨rfl, by kernel_rfl, by kernel_rfl, rfl, by kernel_rfl, by kernel_rfl⟩ (by kernel_rfl) rfl se_138 e_138
theorem e_179 (x : St ti_179) : (symF tbS (spOf [(130, S_130)]) 179 (anOf an_179) 1000 ti_179 to_179 x).sem = tree_Up x := by kernel_rfl
theorem k_179 : SpecOk KS 179 S_179 := plugO (f := 179) (an := anOf an_179) (fuel := 1000) (ti := ti_179) (to := to_179) (F := tree_Up) (specsOk_cons k_130 (specsOk_nil)) ⟨rfl, by kernel_rfl, by kernel_rfl, rfl, by kernel_rfl, by kernel_rfl⟩ (by kernel_rfl) rfl e_179
theorem e_172 (x : St ti_172) : (symF tbS (spOf [(138, S_138), (179, S_179)]) 172 (anOf an_172) 1000 ti_172 to_172 x).sem = tree_Lives x := by kernel_rfl
theorem k_172 : SpecOk KS 172 S_172 := plugO (f := 172) (an := anOf an_172) (fuel := 1000) (ti := ti_172) (to := to_172) (F := tree_Lives) (specsOk_cons k_138 (specsOk_cons k_179 (specsOk_nil))) ⟨rfl, by kernel_rfl, by kernel_rfl, rfl, by kernel_rfl, by kernel_rfl⟩ (by kernel_rfl) rfl e_172
theorem e_208 (x : St ti_208) : (symF tbS (spOf [(170, S_170)]) 208 (anOf an_208) 1000 ti_208 to_208 x).sem = tree_work_circle x := by kernel_rfl
theorem k_208 : SpecOk KS 208 S_208 := plugO (f := 208) (an := anOf an_208) (fuel := 1000) (ti := ti_208) (to := to_208) (F := tree_work_circle) (specsOk_cons k_170 (specsOk_nil)) ⟨rfl, by kernel_rfl, by kernel_rfl, rfl, by kernel_rfl, by kernel_rfl⟩ (by kernel_rfl) rfl e_208
theorem e_177 (x : St ti_177) : (symF tbS (spOf [(208, S_208)]) 177 (anOf an_177) 1000 ti_177 to_177 x).sem = tree_Circles x := by kernel_rfl
theorem k_177 : SpecOk KS 177 S_177 := plugO (f := 177) (an := anOf an_177) (fuel := 1000) (ti := ti_177) (to := to_177) (F := tree_Circles) (specsOk_cons k_208 (specsOk_nil)) ⟨rfl, by kernel_rfl, by kernel_rfl, rfl, by kernel_rfl, by kernel_rfl⟩ (by kernel_rfl) rfl e_177
theorem e_178 (x : St ti_178) : (symF tbS (spOf [(172, S_172)]) 178 (anOf an_178) 1000 ti_178 to_178 x).sem = shape_living x := by kernel_rfl
theorem k_178 : SpecOk KS 178 S_178 := plugO (f := 178) (an := anOf an_178) (fuel := 1000) (ti := ti_178) (to := to_178) (F := shape_living) (specsOk_cons k_172 (specsOk_nil)) ⟨rfl, by kernel_rfl, by kernel_rfl, rfl, by kernel_rfl, by kernel_rfl⟩ (by kernel_rfl) rfl e_178
theorem e_180 (F : St ti_180 → Option (St to_180)) (x : St ti_180) : (symF tbS (spOf [(173, S_173), (180, Sr_180 F)]) 180 (anOf an_180) 1000 ti_180 to_180 x).sem = shape_tall_b F x := by kernel_rfl
theorem k_180 : SpecOk KS 180 S_180 := fixSO fun F hF => plugO (f := 180) (an := anOf an_180) (fuel := 1000) (ti := ti_180) (to := to_180) (F := shape_tall_b F) (specsOk_cons k_173 (specsOk_cons hF (specsOk_nil))) ⟨rfl, by kernel_rfl, by kernel_rfl, rfl, by kernel_rfl, by kernel_rfl⟩ (by kernel_rfl) rfl (e_180 F)
theorem e_134 (x : St ti_134) : (symF tbS (spOf [(130, S_130), (131, S_131), (172, S_172), (177, S_177), (178, S_178), (179, S_179), (180, S_180)]) 134 (anOf an_134) 1000 ti_134 to_134 x).sem = shape_moves x := by kernel_rfl
theorem k_134 : SpecOk KS 134 S_134 := plugO (f := 134) (an := anOf an_134) (fuel := 1000) (ti := ti_134) (to := to_134) (F := shape_moves) (specsOk_cons k_130 (specsOk_cons k_131 (specsOk_cons k_172 (specsOk_cons k_177 (specsOk_cons k_178 (specsOk_cons k_179 (specsOk_cons k_180 (specsOk_nil)))))))) ⟨rfl, by kernel_rfl, by kernel_rfl, rfl, by kernel_rfl, by kernel_rfl⟩ (by kernel_rfl) rfl e_134
theorem e_90 (x : St ti_90) : (symF tbS (spOf [(130, S_130), (134, S_134)]) 90 (anOf an_90) 1000 ti_90 to_90 x).sem = shape_Lets x := by kernel_rfl
theorem k_90 : SpecOk KS 90 S_90 := plugO (f := 90) (an := anOf an_90) (fuel := 1000) (ti := ti_90) (to := to_90) (F := shape_Lets) (specsOk_cons k_130 (specsOk_cons k_134 (specsOk_nil))) ⟨rfl, by kernel_rfl, by kernel_rfl, rfl, by kernel_rfl, by kernel_rfl⟩ (by kernel_rfl) rfl e_90
end Go.Dv
