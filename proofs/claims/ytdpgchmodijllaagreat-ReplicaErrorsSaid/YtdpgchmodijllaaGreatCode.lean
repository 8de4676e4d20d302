/- What the code comes to: each function of the seat, by the engine. Printed by a tool (seat.py). -/
import Derived.Test.YtdpgchmodijllaaGreatProg
import Derived.Test.YtdpgchmodijllaaGreatDvI
import Derived.Test.YtdpgchmodijllaaGreatNat
import Derived.Test.YtdpgchmodijllaaGreatTrA
set_option linter.unusedVariables false
set_option linter.unusedSimpArgs false
set_option maxRecDepth 100000
open Go (IntKind)
namespace Go.Dv
abbrev polS : Pol := ⟨[0, 1, 2, 3, 4, 5, 6, 7, 8, 9, 10, 11, 12, 13, 14, 15, 16, 17, 18, 19, 20, 22, 23, 24, 25, 26, 27, 28, 29, 31, 32, 33, 34, 35, 36, 37, 38, 39, 40, 41, 42, 43, 44, 47, 48, 49, 50, 51, 53, 54, 56, 57, 58, 60, 61, 62, 63, 64, 65, 66, 67, 68, 69, 70, 73, 74, 76, 77, 78, 79, 80, 81, 82, 83, 84, 85, 90, 91, 92, 93, 94, 95, 96, 97, 98, 99, 100, 105, 106, 107, 108, 109, 110, 111, 112, 114, 115, 116, 117, 118, 121, 122, 123, 124, 129, 130, 131, 132, 133, 134, 135, 136, 137, 138, 140, 141, 142, 143, 146, 148, 151, 152, 153, 154, 155, 156, 157, 158, 159, 160, 161, 162, 163, 164, 166, 167, 170, 171, 172, 173, 174, 175, 176, 177, 178, 179, 180, 181, 182, 184, 185, 186, 188, 189, 191, 195, 196, 198, 200, 201, 202, 203, 204, 205, 206, 207, 208, 209, 210, 211, 212, 213, 214, 215, 217, 221, 222, 223, 224, 226, 229, 230, 231, 232, 233, 235, 236, 237, 238, 239, 240, 241, 242, 243, 244, 245, 246, 247, 248, 249, 252, 253, 254, 255, 256, 257, 258, 259, 260, 261, 262, 263, 264, 265, 266, 267, 268, 269, 270, 271, 272, 273, 274, 275, 276, 277, 278, 279, 280, 281, 282, 283, 284, 285, 286, 287, 288, 289, 290, 291, 292, 293, 294, 295, 296, 297, 298, 299, 300, 301, 302, 303, 304, 305, 306, 307, 308, 309, 310, 311, 312, 313, 314, 315, 316, 317, 318, 319, 320, 321, 322, 323, 324, 325, 326, 327, 328, 329, 330, 331, 332, 333, 334, 335], fun f => ((([(89, [78])] : List (Nat × List Nat)).lookup f).getD []), fun f => ((([] : List (Nat × List Nat)).lookup f).getD [])⟩
noncomputable abbrev tb0 : Table := ⟨funOf Go.Proofs.Tryz.prog polS, fun f => List.lookup f [(237, cmpPrim)]⟩
noncomputable abbrev tbS : Table := ⟨funOf Go.Proofs.Tryz.prog polS, fun f => List.lookup f [(190, insPrim 12 120), (199, insPrim 3 40), (204, sortPrim sNode cf_slices_SortFunc_Node 205), (234, insPrim 4 32), (237, cmpPrim), (251, insPrim 5 48)]⟩
noncomputable def S_237 : Spec := cmpStrS
abbrev ti_166 : Tm := ⟨[(0, .one (.kd (.val (.list sI))))], []⟩
abbrev to_166 : Tm := ⟨[(0, .one (.kd (.val sI)))], []⟩
def an_166 : List (Nat × Ann) := [(57, .loop ⟨[(3, .one (.kd (.val sI))), (6, .one (.kd (.val (.list sI)))), (7, .one (.kd (.val sI))), (8, .one (.kd (.val sI)))], []⟩ [(.exit 0, ⟨[(3, .one (.kd (.val sI)))], []⟩), (.ret, ⟨[(2, .one (.kd (.val sI)))], []⟩)])]
noncomputable def S_166 : Spec := specO ti_166.gs (kinds to_166.gs) cmp_Or_int
abbrev ti_201 : Tm := ⟨[(0, .one (.kd (.val sI)))], []⟩
abbrev to_201 : Tm := ⟨[(0, .one (.kd (.val .bool)))], []⟩
def an_201 : List (Nat × Ann) := []
noncomputable def S_201 : Spec := specT ti_201.gs (kinds to_201.gs) cmp_isNaN_int
abbrev ti_167 : Tm := ⟨[(0, .one (.kd (.val sI))), (1, .one (.kd (.val sI)))], []⟩
abbrev to_167 : Tm := ⟨[(0, .one (.kd (.val sI)))], []⟩
def an_167 : List (Nat × Ann) := []
noncomputable def S_167 : Spec := specT ti_167.gs (kinds to_167.gs) cmp_Compare_int
abbrev ti_123 : Tm := ⟨[(0, .one (.kd (.val sStamp))), (1, .one (.kd (.val sStamp)))], []⟩
abbrev to_123 : Tm := ⟨[(0, .one (.kd (.val sI)))], []⟩
def an_123 : List (Nat × Ann) := []
noncomputable def S_123 : Spec := specO ti_123.gs (kinds to_123.gs) stamp_Cmp
abbrev ti_206 : Tm := ⟨[(0, .one (.kd (.val .str))), (1, .one (.kd (.val .str)))], []⟩
abbrev to_206 : Tm := ⟨[(0, .one (.kd (.val sI)))], []⟩
def an_206 : List (Nat × Ann) := []
noncomputable def S_206 : Spec := specT ti_206.gs (kinds to_206.gs) strings_Compare
abbrev ti_205 : Tm := ⟨[(0, .one (.kd (.val sNode))), (1, .one (.kd (.val sNode)))], []⟩
abbrev to_205 : Tm := ⟨[(0, .one (.kd (.val sI)))], []⟩
def an_205 : List (Nat × Ann) := []
noncomputable def S_205 : Spec := specO ti_205.gs (kinds to_205.gs) tree_Children_1
theorem k0_237 : SpecOk (calls tb0 (ex tb0)) 237 S_237 := cmpStrS_ok rfl
theorem e0_166 (x : St ti_166) : (symF tb0 (spOf []) 166 (anOf an_166) 1000 ti_166 to_166 x).sem = cmp_Or_int x := by kernel_rfl
theorem k0_166 : SpecOk (calls tb0 (ex tb0)) 166 S_166 := plugO (f := 166) (an := anOf an_166) (fuel := 1000) (ti := ti_166) (to := to_166) (F := cmp_Or_int) (specsOk_nil) ⟨rfl, by kernel_rfl, by kernel_rfl, rfl, by kernel_rfl, by kernel_rfl⟩ (by kernel_rfl) rfl e0_166
theorem se0_201 (x : St ti_201) : (symF tb0 (spOf []) 201 (anOf an_201) 1000 ti_201 to_201 x).sure = true := by kernel_rfl
theorem e0_201 (x : St ti_201) (d : St to_201) : (symF tb0 (spOf []) 201 (anOf an_201) 1000 ti_201 to_201 x).pick d = cmp_isNaN_int x := by kernel_rfl
theorem k0_201 : SpecOk (calls tb0 (ex tb0)) 201 S_201 := plugT (f := 201) (an := anOf an_201) (fuel := 1000) (ti := ti_201) (to := to_201) (F := cmp_isNaN_int) (specsOk_nil) ⟨rfl, by kernel_rfl, by kernel_rfl, rfl, by kernel_rfl, by kernel_rfl⟩ (by kernel_rfl) rfl se0_201 e0_201
theorem se0_167 (x : St ti_167) : (symF tb0 (spOf [(201, S_201)]) 167 (anOf an_167) 1000 ti_167 to_167 x).sure = true := by kernel_rfl
theorem e0_167 (x : St ti_167) (d : St to_167) : (symF tb0 (spOf [(201, S_201)]) 167 (anOf an_167) 1000 ti_167 to_167 x).pick d = cmp_Compare_int x := by kernel_rfl
theorem k0_167 : SpecOk (calls tb0 (ex tb0)) 167 S_167 := plugT (f := 167) (an := anOf an_167) (fuel := 1000) (ti := ti_167) (to := to_167) (F := cmp_Compare_int) (specsOk_cons k0_201 (specsOk_nil)) ⟨rfl, by kernel_rfl, by kernel_rfl, rfl, by kernel_rfl, by kernel_rfl⟩ (by kernel_rfl) rfl se0_167 e0_167
theorem e0_123 (x : St ti_123) : (symF tb0 (spOf [(166, S_166), (167, S_167)]) 123 (anOf an_123) 1000 ti_123 to_123 x).sem = stamp_Cmp x := by kernel_rfl
theorem k0_123 : SpecOk (calls tb0 (ex tb0)) 123 S_123 := plugO (f := 123) (an := anOf an_123) (fuel := 1000) (ti := ti_123) (to := to_123) (F := stamp_Cmp) (specsOk_cons k0_166 (specsOk_cons k0_167 (specsOk_nil))) ⟨rfl, by kernel_rfl, by kernel_rfl, rfl, by kernel_rfl, by kernel_rfl⟩ (by kernel_rfl) rfl e0_123
theorem se0_206 (x : St ti_206) : (symF tb0 (spOf [(237, S_237)]) 206 (anOf an_206) 1000 ti_206 to_206 x).sure = true := by kernel_rfl
theorem e0_206 (x : St ti_206) (d : St to_206) : (symF tb0 (spOf [(237, S_237)]) 206 (anOf an_206) 1000 ti_206 to_206 x).pick d = strings_Compare x := by kernel_rfl
theorem k0_206 : SpecOk (calls tb0 (ex tb0)) 206 S_206 := plugT (f := 206) (an := anOf an_206) (fuel := 1000) (ti := ti_206) (to := to_206) (F := strings_Compare) (specsOk_cons k0_237 (specsOk_nil)) ⟨rfl, by kernel_rfl, by kernel_rfl, rfl, by kernel_rfl, by kernel_rfl⟩ (by kernel_rfl) rfl se0_206 e0_206
theorem e0_205 (x : St ti_205) : (symF tb0 (spOf [(123, S_123), (166, S_166), (206, S_206)]) 205 (anOf an_205) 1000 ti_205 to_205 x).sem = tree_Children_1 x := by kernel_rfl
theorem k0_205 : SpecOk (calls tb0 (ex tb0)) 205 S_205 := plugO (f := 205) (an := anOf an_205) (fuel := 1000) (ti := ti_205) (to := to_205) (F := tree_Children_1) (specsOk_cons k0_123 (specsOk_cons k0_166 (specsOk_cons k0_206 (specsOk_nil)))) ⟨rfl, by kernel_rfl, by kernel_rfl, rfl, by kernel_rfl, by kernel_rfl⟩ (by kernel_rfl) rfl e0_205
end Go.Dv
