/- What the code comes to: each function of the seat, by the engine. Printed by a tool (seat.py). -/
import Derived.Test.YtmphmiddiofejaaProg
import Derived.Test.YtmphmiddiofejaaDvI
import Derived.Test.YtmphmiddiofejaaNat
import Derived.Test.YtmphmiddiofejaaTrA
set_option linter.unusedVariables false
set_option linter.unusedSimpArgs false
set_option maxRecDepth 100000
open Go (IntKind)
namespace Go.Dv
abbrev polS : Pol := ⟨(List.range 2000).filter (fun f => !([4,25,26,37,40,41,42,59,63,64] : List Nat).contains f), fun _ => []⟩
noncomputable abbrev tb0 : Table := ⟨funOf Go.Proofs.Try.prog polS, fun f => List.lookup f [(69, cmpPrim)]⟩
noncomputable abbrev tbS : Table := ⟨funOf Go.Proofs.Try.prog polS, fun f => List.lookup f [(46, sortPrim sNode cf_slices_SortFunc_Node 47), (59, insPrim 5 48), (63, cutPrim tb0 63), (69, cmpPrim)]⟩
noncomputable def S_41 : Spec := cloneS 17 168
noncomputable def S_42 : Spec := cloneS 5 48
noncomputable def S_46 : Spec := specI 5 sNode [.fn 47 []] slices_SortFunc_Node
noncomputable def S_59 : Spec := insertS 5 48
noncomputable def S_63 : Spec := deleteS 5 48
noncomputable def S_64 : Spec := cloneS 1 8
noncomputable def S_69 : Spec := cmpStrS
abbrev ti_48 : Tm := ⟨[(0, .one (.kd (.val (.list sI))))], []⟩
abbrev to_48 : Tm := ⟨[(0, .one (.kd (.val sI)))], []⟩
def an_48 : List (Nat × Ann) := [(57, .loop ⟨[(3, .one (.kd (.val sI))), (6, .one (.kd (.val (.list sI)))), (7, .one (.kd (.val sI))), (8, .one (.kd (.val sI)))], []⟩ [(.exit 0, ⟨[(3, .one (.kd (.val sI)))], []⟩), (.ret, ⟨[(2, .one (.kd (.val sI)))], []⟩)])]
noncomputable def S_48 : Spec := specO ti_48.gs (kinds to_48.gs) cmp_Or_int
abbrev ti_49 : Tm := ⟨[(0, .one (.kd (.val .str))), (1, .one (.kd (.val .str)))], []⟩
abbrev to_49 : Tm := ⟨[(0, .one (.kd (.val sI)))], []⟩
def an_49 : List (Nat × Ann) := []
noncomputable def S_49 : Spec := specT ti_49.gs (kinds to_49.gs) strings_Compare
abbrev ti_94 : Tm := ⟨[(0, .one (.kd (.val sI)))], []⟩
abbrev to_94 : Tm := ⟨[(0, .one (.kd (.val .bool)))], []⟩
def an_94 : List (Nat × Ann) := []
noncomputable def S_94 : Spec := specT ti_94.gs (kinds to_94.gs) cmp_isNaN_int
abbrev ti_70 : Tm := ⟨[(0, .one (.kd (.val sI))), (1, .one (.kd (.val sI)))], []⟩
abbrev to_70 : Tm := ⟨[(0, .one (.kd (.val sI)))], []⟩
def an_70 : List (Nat × Ann) := []
noncomputable def S_70 : Spec := specT ti_70.gs (kinds to_70.gs) cmp_Compare_int
abbrev ti_50 : Tm := ⟨[(0, .one (.kd (.val sStamp))), (1, .one (.kd (.val sStamp)))], []⟩
abbrev to_50 : Tm := ⟨[(0, .one (.kd (.val sI)))], []⟩
def an_50 : List (Nat × Ann) := []
noncomputable def S_50 : Spec := specO ti_50.gs (kinds to_50.gs) stamp_Cmp
abbrev ti_47 : Tm := ⟨[(0, .one (.kd (.val sNode))), (1, .one (.kd (.val sNode)))], []⟩
abbrev to_47 : Tm := ⟨[(0, .one (.kd (.val sI)))], []⟩
def an_47 : List (Nat × Ann) := []
noncomputable def S_47 : Spec := specO ti_47.gs (kinds to_47.gs) tree_Children_1
abbrev ti_66 : Tm := ⟨[(0, .one (.kd (.val sNode))), (1, .one (.kd (.val sStamp)))], []⟩
abbrev to_66 : Tm := ⟨[(0, .one (.kd (.val sI)))], []⟩
def an_66 : List (Nat × Ann) := []
noncomputable def S_66 : Spec := specO ti_66.gs (kinds to_66.gs) tree_find_1
abbrev ti_65 : Tm := ⟨[(0, .one (.kd (.val (.list sNode)))), (1, .one (.kd (.val sStamp))), (2, .one (.fix (.fn 66 [])))], []⟩
abbrev to_65 : Tm := ⟨[(0, .one (.kd (.val sI))), (1, .one (.kd (.val .bool)))], []⟩
def an_65 : List (Nat × Ann) := [(59, .loop ⟨[(0, .one (.kd (.val (.list sNode)))), (2, .one (.fix (.fn 66 []))), (4, .one (.fix (.ptr 0 0))), (8, .one (.kd (.val sI))), (9, .one (.kd (.val sI))), (10, .one (.kd (.val sI)))], [[.kd (.val sStamp)]]⟩ [(.exit 0, ⟨[(0, .one (.kd (.val (.list sNode)))), (2, .one (.fix (.fn 66 []))), (4, .one (.fix (.ptr 0 0))), (8, .one (.kd (.val sI))), (9, .one (.kd (.val sI)))], [[.kd (.val sStamp)]]⟩)]), (61, .join [(6, sI), (7, .bool)])]
noncomputable def S_65 : Spec := specO ti_65.gs (kinds to_65.gs) slices_BinarySearchFunc_Node_Stamp
abbrev ti_45 : Tm := ⟨[(0, .one (.kd (.val (.list sNode)))), (1, .one (.kd (.val sStamp)))], []⟩
abbrev to_45 : Tm := ⟨[(0, .one (.kd (.val sI))), (1, .one (.kd (.val .bool)))], []⟩
def an_45 : List (Nat × Ann) := []
noncomputable def S_45 : Spec := specO ti_45.gs (kinds to_45.gs) tree_find
abbrev ti_33 : Tm := ⟨[(0, .one (.kd (.val sOp)))], []⟩
abbrev to_33 : Tm := ⟨[(0, .one (.kd (.val sI)))], []⟩
def an_33 : List (Nat × Ann) := []
noncomputable def S_33 : Spec := specT ti_33.gs (kinds to_33.gs) arraslaw0_OpWeight
abbrev ti_19 : Tm := ⟨[(0, .one (.kd (.val sTree)))], []⟩
abbrev to_19 : Tm := ⟨[(0, .one (.kd (.val sI)))], []⟩
def an_19 : List (Nat × Ann) := [(57, .loop ⟨[(1, .one (.fix (.ptr 0 0))), (3, .one (.kd (.val sI))), (4, .one (.kd (.val sI)))], [[.kd (.val sTree)]]⟩ [(.exit 0, ⟨[(1, .one (.fix (.ptr 0 0))), (3, .one (.kd (.val sI)))], [[.kd (.val sTree)]]⟩)]), (121, .loop ⟨[(1, .one (.fix (.ptr 0 0))), (3, .one (.kd (.val sI))), (5, .one (.kd (.val sI)))], [[.kd (.val sTree)]]⟩ [(.exit 2, ⟨[(3, .one (.kd (.val sI)))], [[.kd (.val sTree)]]⟩)]), (463, .join [(21, .bool)]), (975, .join [(41, .bool)])]
noncomputable def S_19 : Spec := specO ti_19.gs (kinds to_19.gs) arraslaw0_TreeWeight
abbrev ti_20 : Tm := ⟨[(0, .one (.kd (.val (.list sOp))))], []⟩
abbrev to_20 : Tm := ⟨[(0, .one (.kd (.val sI)))], []⟩
def an_20 : List (Nat × Ann) := [(57, .loop ⟨[(0, .one (.kd (.val (.list sOp)))), (3, .one (.kd (.val sI))), (4, .one (.kd (.val sI)))], []⟩ [(.exit 0, ⟨[(3, .one (.kd (.val sI)))], []⟩)]), (463, .join [(14, .bool)])]
noncomputable def S_20 : Spec := specO ti_20.gs (kinds to_20.gs) arraslaw0_OpsWeight
abbrev ti_6 : Tm := ⟨[(0, .one (.kd (.val sScript_arraslaw16)))], []⟩
abbrev to_6 : Tm := ⟨[(0, .one (.kd (.val .bool)))], []⟩
def an_6 : List (Nat × Ann) := [(5, .join [(2, .bool)])]
noncomputable def S_6 : Spec := specO ti_6.gs (kinds to_6.gs) arraslaw16_heavy
abbrev ti_21 : Tm := ⟨[(0, .one (.kd (.val sI))), (1, .one (.kd (.val sI)))], []⟩
abbrev to_21 : Tm := ⟨[(0, .one (.kd (.val sI)))], []⟩
def an_21 : List (Nat × Ann) := []
noncomputable def S_21 : Spec := specO ti_21.gs (kinds to_21.gs) arraslaw0_Within
abbrev ti_71 : Tm := ⟨[(0, .one (.kd (.val sI))), (1, .one (.kd (.val sI)))], []⟩
abbrev to_71 : Tm := ⟨[(0, .one (.kd (.val .bool)))], []⟩
def an_71 : List (Nat × Ann) := [(5, .join [(4, .bool)])]
noncomputable def S_71 : Spec := specT ti_71.gs (kinds to_71.gs) arrasref0_Num
abbrev ti_51 : Tm := ⟨[(0, .one (.kd (.val sStamp)))], []⟩
abbrev to_51 : Tm := ⟨[(0, .one (.kd (.val .bool)))], []⟩
def an_51 : List (Nat × Ann) := [(5, .join [(2, .bool)])]
noncomputable def S_51 : Spec := specT ti_51.gs (kinds to_51.gs) arrasref6_Stamp
abbrev ti_52 : Tm := ⟨[(0, .one (.kd (.val (.list sI))))], []⟩
abbrev to_52 : Tm := ⟨[(0, .one (.kd (.val .bool)))], []⟩
def an_52 : List (Nat × Ann) := [(13, .join [(2, .bool)]), (25, .loop ⟨[(0, .one (.kd (.val (.list sI)))), (3, .one (.kd (.val sI)))], []⟩ [(.exit 0, ⟨[(0, .one (.kd (.val (.list sI))))], []⟩), (.ret, ⟨[(2, .one (.kd (.val .bool)))], []⟩)])]
noncomputable def S_52 : Spec := specO ti_52.gs (kinds to_52.gs) arrasref6_Vector
abbrev ti_72 : Tm := ⟨[(0, .one (.kd (.val (.list sI)))), (1, .one (.kd (.val (.list sI))))], []⟩
abbrev to_72 : Tm := ⟨[(0, .one (.kd (.val .bool)))], []⟩
def an_72 : List (Nat × Ann) := [(57, .loop ⟨[(0, .one (.kd (.val (.list sI)))), (1, .one (.kd (.val (.list sI)))), (5, .one (.kd (.val sI)))], []⟩ [(.exit 0, ⟨[], []⟩), (.ret, ⟨[(4, .one (.kd (.val .bool)))], []⟩)])]
noncomputable def S_72 : Spec := specO ti_72.gs (kinds to_72.gs) arrasref0_EqNumbers
abbrev ti_53 : Tm := ⟨[(0, .one (.kd (.val sOp))), (1, .one (.kd (.val sOp)))], []⟩
abbrev to_53 : Tm := ⟨[(0, .one (.kd (.val .bool)))], []⟩
def an_53 : List (Nat × Ann) := [(5, .join [(4, .bool)])]
noncomputable def S_53 : Spec := specO ti_53.gs (kinds to_53.gs) arrasref0_EqOp
abbrev ti_73 : Tm := ⟨[], []⟩
abbrev to_73 : Tm := ⟨[(0, .one (.kd (.val sStamp)))], []⟩
def an_73 : List (Nat × Ann) := []
noncomputable def S_73 : Spec := specT ti_73.gs (kinds to_73.gs) arrasref6_Root
abbrev ti_74 : Tm := ⟨[], []⟩
abbrev to_74 : Tm := ⟨[(0, .one (.kd (.val sStamp)))], []⟩
def an_74 : List (Nat × Ann) := []
noncomputable def S_74 : Spec := specT ti_74.gs (kinds to_74.gs) arrasref6_Trash
abbrev ti_54 : Tm := ⟨[(0, .one (.kd (.val sStamp)))], []⟩
abbrev to_54 : Tm := ⟨[(0, .one (.kd (.val .bool)))], []⟩
def an_54 : List (Nat × Ann) := [(5, .join [(2, .bool)])]
noncomputable def S_54 : Spec := specT ti_54.gs (kinds to_54.gs) arrasref6_Place
abbrev ti_55 : Tm := ⟨[(0, .one (.kd (.val .str)))], []⟩
abbrev to_55 : Tm := ⟨[(0, .one (.kd (.val .bool)))], []⟩
def an_55 : List (Nat × Ann) := [(5, .join [(2, .bool)])]
noncomputable def S_55 : Spec := specO ti_55.gs (kinds to_55.gs) arrasref8_Key
abbrev ti_75 : Tm := ⟨[(0, .one (.kd (.val sI)))], []⟩
abbrev to_75 : Tm := ⟨[(0, .one (.kd (.val sI))), (1, .one (.kd (.val sI))), (2, .one (.kd (.val sI))), (3, .one (.kd (.val .bool)))], []⟩
def an_75 : List (Nat × Ann) := [(428, .cut [(.normal, ⟨[(6, .one (.kd (.val sI))), (9, .one (.kd (.val .bool)))], []⟩)]), (1724, .cut [(.normal, ⟨[(6, .one (.kd (.val sI))), (12, .one (.kd (.val .bool)))], []⟩)]), (6902, .cut [(.normal, ⟨[(6, .one (.kd (.val sI))), (12, .one (.kd (.val .bool)))], []⟩)]), (6908, .cut [(.normal, ⟨[(6, .one (.kd (.val sI))), (18, .one (.kd (.val .bool)))], []⟩)]), (27614, .cut [(.normal, ⟨[(6, .one (.kd (.val sI))), (12, .one (.kd (.val .bool)))], []⟩)]), (110462, .cut [(.normal, ⟨[(6, .one (.kd (.val sI))), (12, .one (.kd (.val .bool)))], []⟩)]), (442364, .cut [(.normal, ⟨[(6, .one (.kd (.val sI))), (25, .one (.kd (.val .bool)))], []⟩)]), (1769462, .cut [(.normal, ⟨[(6, .one (.kd (.val sI))), (25, .one (.kd (.val .bool)))], []⟩)])]
noncomputable def S_75 : Spec := specO ti_75.gs (kinds to_75.gs) arrasref8_value
abbrev ti_56 : Tm := ⟨[(0, .one (.kd (.val sI))), (1, .one (.kd (.val sI)))], []⟩
abbrev to_56 : Tm := ⟨[(0, .one (.kd (.val sI)))], []⟩
def an_56 : List (Nat × Ann) := [(59, .join [(25, .bool)])]
noncomputable def S_56 : Spec := specO ti_56.gs (kinds to_56.gs) arrasref8_Check
abbrev ti_34 : Tm := ⟨[(0, .one (.kd (.val sOp)))], []⟩
abbrev to_34 : Tm := ⟨[(0, .one (.kd (.val .bool)))], []⟩
def an_34 : List (Nat × Ann) := [(11, .join [(51, .bool)]), (1961, .join [(2, .bool)]), (7865, .join [(2, .bool)])]
noncomputable def S_34 : Spec := specO ti_34.gs (kinds to_34.gs) arrasref10_Op
abbrev ti_22 : Tm := ⟨[(0, .one (.kd (.val sOp)))], []⟩
abbrev to_22 : Tm := ⟨[(0, .one (.kd (.val .bool)))], []⟩
def an_22 : List (Nat × Ann) := [(5, .join [(2, .bool)])]
noncomputable def S_22 : Spec := specO ti_22.gs (kinds to_22.gs) arrasref16_Move
abbrev ti_7 : Tm := ⟨[(0, .one (.kd (.val (.list sOp)))), (1, .one (.kd (.val sI)))], []⟩
abbrev to_7 : Tm := ⟨[(0, .one (.kd (.val (.list sOp))))], []⟩
def an_7 : List (Nat × Ann) := [(57, .loop ⟨[(0, .one (.kd (.val (.list sOp)))), (1, .one (.kd (.val sI))), (5, .one (.kd (.own true 12 sOp))), (6, .one (.kd (.val sI)))], []⟩ [(.exit 0, ⟨[(5, .one (.kd (.own true 12 sOp)))], []⟩)]), (463, .join [(17, .bool)])]
noncomputable def S_7 : Spec := specO ti_7.gs (kinds to_7.gs) arraslaw16_moves
abbrev ti_60 : Tm := ⟨[(0, .one (.kd (.val sStamp)))], []⟩
abbrev to_60 : Tm := ⟨[(0, .one (.kd (.val .bool)))], []⟩
def an_60 : List (Nat × Ann) := [(5, .join [(2, .bool)])]
noncomputable def S_60 : Spec := specT ti_60.gs (kinds to_60.gs) stamp_Is
abbrev ti_61 : Tm := ⟨[(0, .one (.kd (.val (.list sI))))], []⟩
abbrev to_61 : Tm := ⟨[(0, .one (.kd (.val .bool)))], []⟩
def an_61 : List (Nat × Ann) := [(2, .lab 0 ⟨[(0, .one (.kd (.val (.list sI)))), (3, .one (.kd (.val sI)))], []⟩ [(.ret, ⟨[(2, .one (.kd (.val .bool)))], []⟩)]), (123, .join [(25, .bool)]), (243, .join [(2, .bool)])]
noncomputable def S_61 : Spec := specO ti_61.gs (kinds to_61.gs) have_Is
abbrev ti_82 : Tm := ⟨[], []⟩
abbrev to_82 : Tm := ⟨[(0, .one (.kd (.val sStamp)))], []⟩
def an_82 : List (Nat × Ann) := []
noncomputable def S_82 : Spec := specT ti_82.gs (kinds to_82.gs) stamp_Root
abbrev ti_96 : Tm := ⟨[], []⟩
abbrev to_96 : Tm := ⟨[(0, .one (.kd (.val sStamp)))], []⟩
def an_96 : List (Nat × Ann) := []
noncomputable def S_96 : Spec := specT ti_96.gs (kinds to_96.gs) stamp_Trash
abbrev ti_79 : Tm := ⟨[(0, .one (.kd (.val sStamp)))], []⟩
abbrev to_79 : Tm := ⟨[(0, .one (.kd (.val .bool)))], []⟩
def an_79 : List (Nat × Ann) := [(5, .join [(2, .bool)])]
noncomputable def S_79 : Spec := specT ti_79.gs (kinds to_79.gs) stamp_Place
abbrev ti_80 : Tm := ⟨[(0, .one (.kd (.val .str)))], []⟩
abbrev to_80 : Tm := ⟨[(0, .one (.kd (.val .bool)))], []⟩
def an_80 : List (Nat × Ann) := [(5, .join [(2, .bool)])]
noncomputable def S_80 : Spec := specO ti_80.gs (kinds to_80.gs) key_Is
abbrev ti_97 : Tm := ⟨[(0, .one (.kd (.val sI)))], []⟩
abbrev to_97 : Tm := ⟨[(0, .one (.kd (.val .bool)))], []⟩
def an_97 : List (Nat × Ann) := [(5, .join [(2, .bool)])]
noncomputable def S_97 : Spec := specT ti_97.gs (kinds to_97.gs) prop_Is
abbrev ti_98 : Tm := ⟨[(0, .one (.kd (.val sI)))], []⟩
abbrev to_98 : Tm := ⟨[(0, .one (.kd (.val srule_prop)))], []⟩
def an_98 : List (Nat × Ann) := [(428, .cut [(.normal, ⟨[(2, .one (.fix (.ptr 0 0))), (3, .one (.kd (.val sI))), (7, .one (.kd (.val .bool)))], [[.kd (.val srule_prop)]]⟩)]), (1724, .cut [(.normal, ⟨[(2, .one (.fix (.ptr 0 0))), (3, .one (.kd (.val sI))), (11, .one (.kd (.val .bool)))], [[.kd (.val srule_prop)]]⟩)]), (6902, .cut [(.normal, ⟨[(2, .one (.fix (.ptr 0 0))), (3, .one (.kd (.val sI))), (11, .one (.kd (.val .bool)))], [[.kd (.val srule_prop)]]⟩)]), (6908, .cut [(.normal, ⟨[(2, .one (.fix (.ptr 0 0))), (3, .one (.kd (.val sI))), (18, .one (.kd (.val .bool)))], [[.kd (.val srule_prop)]]⟩)]), (27614, .cut [(.normal, ⟨[(2, .one (.fix (.ptr 0 0))), (3, .one (.kd (.val sI))), (11, .one (.kd (.val .bool)))], [[.kd (.val srule_prop)]]⟩)]), (110462, .cut [(.normal, ⟨[(2, .one (.fix (.ptr 0 0))), (3, .one (.kd (.val sI))), (11, .one (.kd (.val .bool)))], [[.kd (.val srule_prop)]]⟩)])]
noncomputable def S_98 : Spec := specO ti_98.gs (kinds to_98.gs) prop_ruleOf
abbrev ti_81 : Tm := ⟨[(0, .one (.kd (.val sI))), (1, .one (.kd (.val sI)))], []⟩
abbrev to_81 : Tm := ⟨[(0, .one (.kd (.val .bool)))], []⟩
def an_81 : List (Nat × Ann) := [(5, .join [(4, .bool)])]
noncomputable def S_81 : Spec := specO ti_81.gs (kinds to_81.gs) prop_May
abbrev ti_62 : Tm := ⟨[(0, .one (.kd (.val sOp)))], []⟩
abbrev to_62 : Tm := ⟨[(0, .one (.kd (.val .bool)))], []⟩
def an_62 : List (Nat × Ann) := [(211, .join [(2, .bool)]), (859, .join [(2, .bool)])]
noncomputable def S_62 : Spec := specO ti_62.gs (kinds to_62.gs) op_kind
abbrev ti_39 : Tm := ⟨[(0, .one (.kd (.val sOp)))], []⟩
abbrev to_39 : Tm := ⟨[(0, .one (.kd (.val .bool)))], []⟩
def an_39 : List (Nat × Ann) := [(11, .join [(27, .bool)]), (13, .join [(2, .bool)])]
noncomputable def S_39 : Spec := specO ti_39.gs (kinds to_39.gs) op_May
abbrev ti_24 : Tm := ⟨[(0, .one (.kd (.val sOp)))], []⟩
abbrev to_24 : Tm := ⟨[(0, .one (.kd (.val .bool)))], []⟩
def an_24 : List (Nat × Ann) := [(5, .join [(2, .bool)])]
noncomputable def S_24 : Spec := specO ti_24.gs (kinds to_24.gs) tree_move
abbrev ti_35 : Tm := ⟨[(0, .one (.kd (.val sOp))), (1, .one (.kd (.val sOp)))], []⟩
abbrev to_35 : Tm := ⟨[(0, .one (.kd (.val .bool)))], []⟩
def an_35 : List (Nat × Ann) := []
noncomputable def S_35 : Spec := specO ti_35.gs (kinds to_35.gs) op_Less
abbrev ti_76 : Tm := ⟨[(0, .one (.kd (.val (.list sI)))), (1, .one (.kd (.val (.list sI))))], []⟩
abbrev to_76 : Tm := ⟨[(0, .one (.kd (.val .bool)))], []⟩
def an_76 : List (Nat × Ann) := [(57, .loop ⟨[(0, .one (.kd (.val (.list sI)))), (1, .one (.kd (.val (.list sI)))), (12, .one (.kd (.val sI))), (13, .one (.kd (.val sI)))], []⟩ [(.exit 0, ⟨[], []⟩), (.ret, ⟨[(4, .one (.kd (.val .bool)))], []⟩)])]
noncomputable def S_76 : Spec := specO ti_76.gs (kinds to_76.gs) slices_Equal_int
abbrev ti_57 : Tm := ⟨[(0, .one (.kd (.val sOp))), (1, .one (.kd (.val sOp)))], []⟩
abbrev to_57 : Tm := ⟨[(0, .one (.kd (.val .bool)))], []⟩
def an_57 : List (Nat × Ann) := [(5, .join [(4, .bool)])]
noncomputable def S_57 : Spec := specO ti_57.gs (kinds to_57.gs) op_Same
abbrev ti_36 : Tm := ⟨[(0, .one (.kd (.val sEntry))), (1, .one (.kd (.val sEntry)))], []⟩
abbrev to_36 : Tm := ⟨[(0, .one (.kd (.val .bool)))], []⟩
def an_36 : List (Nat × Ann) := [(5, .join [(4, .bool)])]
noncomputable def S_36 : Spec := specO ti_36.gs (kinds to_36.gs) tree_same
abbrev ti_43 : Tm := ⟨[(0, .one (.kd (.val sOp)))], []⟩
abbrev to_43 : Tm := ⟨[(0, .one (.kd (.val sOp)))], []⟩
def an_43 : List (Nat × Ann) := []
noncomputable def S_43 : Spec := specO ti_43.gs (kinds to_43.gs) op_Own
abbrev ti_58 : Tm := ⟨[(0, .one (.kd (.at_ (.list sNode)))), (1, .one (.kd (.val sStamp))), (2, .one (.kd (.val sStamp)))], []⟩
abbrev to_58 : Tm := ⟨[(0, .one (.kd (.val .bool)))], []⟩
def an_58 : List (Nat × Ann) := [(2, .lab 0 ⟨[(0, .one (.kd (.at_ (.list sNode)))), (4, .one (.fix (.ptr 0 0))), (5, .one (.fix (.ptr 1 0)))], [[.kd (.val sStamp)], [.kd (.val sStamp)]]⟩ [(.ret, ⟨[(6, .one (.kd (.val .bool)))], []⟩)])]
noncomputable def S_58 : Spec := specO ti_58.gs (kinds to_58.gs) tree_work_circle
abbrev ti_37 : Tm := ⟨[(0, .one (.fix (.ptr 0 0))), (1, .one (.kd (.val sOp)))], [[.kd (.own false 5 sNode)]]⟩
abbrev to_37 : Tm := ⟨[(0, .one (.kd (.val sEntry)))], [[.kd (.own false 5 sNode)]]⟩
def an_37 : List (Nat × Ann) := [(60, .cut [(.normal, ⟨[(0, .one (.fix (.ptr 0 0))), (3, .one (.fix (.ptr 1 0))), (4, .one (.fix (.ptr 2 0))), (5, .one (.fix (.ptr 3 0))), (6, .one (.kd (.val sI))), (7, .one (.kd (.val .bool)))], [[.kd (.own false 5 sNode)], [.kd (.val sOp)], [.kd (.val sEntry)], [.kd (.val sEntry)]]⟩)])]
noncomputable def S_37 : Spec := specK ti_37 to_37 tree_work_do
abbrev ti_38 : Tm := ⟨[(0, .one (.kd (.val (.list sNode)))), (1, .one (.kd (.val (.list sNode))))], []⟩
abbrev to_38 : Tm := ⟨[(0, .one (.kd (.val .bool)))], []⟩
def an_38 : List (Nat × Ann) := [(57, .loop ⟨[(0, .one (.kd (.val (.list sNode)))), (1, .one (.kd (.val (.list sNode)))), (12, .one (.kd (.val sI))), (13, .one (.kd (.val sI)))], []⟩ [(.exit 0, ⟨[], []⟩), (.ret, ⟨[(4, .one (.kd (.val .bool)))], []⟩)])]
noncomputable def S_38 : Spec := specO ti_38.gs (kinds to_38.gs) slices_Equal_Node
abbrev ti_23 : Tm := ⟨[(0, .one (.kd (.val sTree)))], []⟩
abbrev to_23 : Tm := ⟨[(0, .one (.kd (.val .bool)))], []⟩
def an_23 : List (Nat × Ann) := [(57, .loop ⟨[(1, .one (.fix (.ptr 0 0))), (3, .one (.fix (.ptr 1 0))), (9, .one (.kd (.val (.list sEntry)))), (10, .one (.kd (.val sI))), (11, .one (.kd (.val sI)))], [[.kd (.val sTree)], [.kd (.own false 5 sNode)]]⟩ [(.exit 0, ⟨[(1, .one (.fix (.ptr 0 0))), (3, .one (.fix (.ptr 1 0)))], [[.kd (.val sTree)], [.kd (.own false 5 sNode)]]⟩), (.ret, ⟨[(2, .one (.kd (.val .bool)))], []⟩)])]
noncomputable def S_23 : Spec := specO ti_23.gs (kinds to_23.gs) tree_May
abbrev ti_40 : Tm := ⟨[(0, .one (.fix (.ptr 0 0))), (1, .one (.kd (.val sEntry)))], [[.kd (.own false 5 sNode)]]⟩
abbrev to_40 : Tm := ⟨[], [[.kd (.own false 5 sNode)]]⟩
def an_40 : List (Nat × Ann) := []
noncomputable def S_40 : Spec := specK ti_40 to_40 tree_work_undo
abbrev ti_25 : Tm := ⟨[(0, .agg [.kd (.own false 5 sNode), .kd (.own false 17 sEntry)]), (1, .one (.kd (.val sOp)))], []⟩
abbrev to_25 : Tm := ⟨[(0, .agg [.kd (.own false 5 sNode), .kd (.own false 17 sEntry)]), (1, .one (.kd (.val sI)))], []⟩
def an_25 : List (Nat × Ann) := [(2, .lab 0 ⟨[(2, .one (.fix (.ptr 0 0))), (3, .one (.fix (.ptr 1 0))), (4, .one (.fix (.ptr 2 0))), (6, .one (.fix (.ptr 3 0))), (7, .one (.kd (.val sI)))], [[.fix (.undef), .kd (.own false 17 sEntry)], [.kd (.val sOp)], [.kd (.val sTree)], [.kd (.own false 5 sNode)]]⟩ [(.ret, ⟨[(4, .one (.fix (.ptr 2 0))), (5, .one (.kd (.val sI)))], [[.fix (.undef), .fix (.undef)], [.fix (.undef), .fix (.undef), .fix (.undef), .fix (.undef), .fix (.undef), .fix (.undef), .fix (.undef), .fix (.undef), .fix (.undef), .fix (.undef), .fix (.undef), .fix (.undef)], [.kd (.own false 5 sNode), .kd (.own false 17 sEntry)], [.fix (.undef)]]⟩)]), (59, .join [(32, .bool)]), (251, .join [(60, .bool)]), (2041, .loop ⟨[(4, .one (.fix (.ptr 2 0))), (6, .one (.fix (.ptr 3 0))), (10, .one (.kd (.own false 17 sEntry))), (85, .one (.kd (.view false (.list sEntry)))), (86, .one (.kd (.val sI))), (87, .one (.kd (.val sI)))], [[.fix (.undef), .kd (.view false (.list sEntry))], [.kd (.val sOp)], [.kd (.val sTree)], [.kd (.own false 5 sNode)]]⟩ [(.exit 2, ⟨[(4, .one (.fix (.ptr 2 0))), (6, .one (.fix (.ptr 3 0))), (10, .one (.kd (.own false 17 sEntry)))], [[.fix (.undef), .kd (.view false (.list sEntry))], [.kd (.val sOp)], [.kd (.val sTree)], [.kd (.own false 5 sNode)]]⟩)]), (4049, .loop ⟨[(4, .one (.fix (.ptr 2 0))), (6, .one (.fix (.ptr 3 0))), (8, .one (.kd (.view false (.list sEntry)))), (62, .one (.kd (.val sI))), (63, .one (.kd (.val sI)))], [[.fix (.undef), .kd (.view false (.list sEntry))], [.kd (.val sOp)], [.kd (.val sTree)], [.kd (.own false 5 sNode)]]⟩ [(.exit 0, ⟨[(4, .one (.fix (.ptr 2 0)))], [[.fix (.undef), .kd (.view false (.list sEntry))], [.kd (.val sOp)], [.kd (.val sTree)], [.kd (.own false 5 sNode)]]⟩)])]
noncomputable def S_25 : Spec := specK ti_25 to_25 tree_Put
abbrev ti_26 : Tm := ⟨[(0, .one (.kd (.val sTree)))], []⟩
abbrev to_26 : Tm := ⟨[(0, .agg [.kd (.own false 5 sNode), .kd (.own false 17 sEntry)])], []⟩
def an_26 : List (Nat × Ann) := [(57, .loop ⟨[(1, .one (.fix (.ptr 0 0))), (2, .one (.fix (.ptr 1 0))), (14, .one (.kd (.val sI))), (15, .one (.kd (.val sI)))], [[.kd (.own false 5 sNode), .kd (.own false 17 sEntry)], [.kd (.val sTree)]]⟩ [(.exit 0, ⟨[(1, .one (.fix (.ptr 0 0))), (2, .one (.fix (.ptr 1 0)))], [[.kd (.own false 5 sNode), .kd (.own false 17 sEntry)], [.kd (.val sTree)]]⟩)])]
noncomputable def S_26 : Spec := specK ti_26 to_26 tree_Own
abbrev ti_8 : Tm := ⟨[(0, .one (.kd (.val sTree))), (1, .one (.kd (.val sOp)))], []⟩
abbrev to_8 : Tm := ⟨[(0, .one (.kd (.val sTree))), (1, .one (.kd (.val sI)))], []⟩
def an_8 : List (Nat × Ann) := [(11, .join [(13, .bool)])]
noncomputable def S_8 : Spec := specO ti_8.gs (kinds to_8.gs) tree_Apply
abbrev ti_9 : Tm := ⟨[(0, .one (.kd (.val sI)))], []⟩
abbrev to_9 : Tm := ⟨[(0, .one (.kd (.val sI)))], []⟩
def an_9 : List (Nat × Ann) := []
noncomputable def S_9 : Spec := specT ti_9.gs (kinds to_9.gs) arraslaw16_num
abbrev ti_27 : Tm := ⟨[(0, .one (.kd (.val (.list sNode)))), (1, .one (.kd (.val (.list sNode))))], []⟩
abbrev to_27 : Tm := ⟨[(0, .one (.kd (.val .bool)))], []⟩
def an_27 : List (Nat × Ann) := [(57, .loop ⟨[(0, .one (.kd (.val (.list sNode)))), (1, .one (.kd (.val (.list sNode)))), (5, .one (.kd (.val sI)))], []⟩ [(.exit 0, ⟨[], []⟩), (.ret, ⟨[(4, .one (.kd (.val .bool)))], []⟩)])]
noncomputable def S_27 : Spec := specO ti_27.gs (kinds to_27.gs) arrasref0_EqNodes
abbrev ti_44 : Tm := ⟨[(0, .one (.kd (.val sEntry))), (1, .one (.kd (.val sEntry)))], []⟩
abbrev to_44 : Tm := ⟨[(0, .one (.kd (.val .bool)))], []⟩
def an_44 : List (Nat × Ann) := [(5, .join [(4, .bool)])]
noncomputable def S_44 : Spec := specO ti_44.gs (kinds to_44.gs) arrasref0_EqEntry
abbrev ti_28 : Tm := ⟨[(0, .one (.kd (.val (.list sEntry)))), (1, .one (.kd (.val (.list sEntry))))], []⟩
abbrev to_28 : Tm := ⟨[(0, .one (.kd (.val .bool)))], []⟩
def an_28 : List (Nat × Ann) := [(57, .loop ⟨[(0, .one (.kd (.val (.list sEntry)))), (1, .one (.kd (.val (.list sEntry)))), (5, .one (.kd (.val sI)))], []⟩ [(.exit 0, ⟨[], []⟩), (.ret, ⟨[(4, .one (.kd (.val .bool)))], []⟩)])]
noncomputable def S_28 : Spec := specO ti_28.gs (kinds to_28.gs) arrasref0_EqMoves
abbrev ti_10 : Tm := ⟨[(0, .one (.kd (.val sTree))), (1, .one (.kd (.val sTree)))], []⟩
abbrev to_10 : Tm := ⟨[(0, .one (.kd (.val .bool)))], []⟩
def an_10 : List (Nat × Ann) := [(5, .join [(4, .bool)])]
noncomputable def S_10 : Spec := specO ti_10.gs (kinds to_10.gs) arrasref0_EqTree
abbrev ti_32 : Tm := ⟨[(0, .one (.kd (.val sTree))), (1, .one (.kd (.val sStamp)))], []⟩
abbrev to_32 : Tm := ⟨[(0, .one (.kd (.val (.list sNode))))], []⟩
def an_32 : List (Nat × Ann) := [(25, .loop ⟨[(3, .one (.fix (.ptr 1 0))), (4, .one (.kd (.own false 5 sNode))), (8, .one (.kd (.val (.list sNode)))), (9, .one (.kd (.val sI))), (10, .one (.kd (.val sI)))], [[.kd (.val sTree)], [.kd (.val sStamp)]]⟩ [(.exit 0, ⟨[(4, .one (.kd (.own false 5 sNode)))], [[.kd (.val sTree)], [.kd (.val sStamp)]]⟩)])]
noncomputable def S_32 : Spec := specO ti_32.gs (kinds to_32.gs) tree_Children
abbrev ti_15 : Tm := ⟨[(0, .one (.kd (.val sTree))), (1, .one (.kd (.val sStamp)))], []⟩
abbrev to_15 : Tm := ⟨[(0, .one (.kd (.val (.list sStamp)))), (1, .one (.kd (.val sI)))], []⟩
def an_15 : List (Nat × Ann) := [(57, .loop ⟨[(4, .one (.kd (.own false 2 sStamp))), (13, .one (.kd (.val (.list sNode)))), (14, .one (.kd (.val sI))), (15, .one (.kd (.val sI)))], [[.kd (.val sTree)], [.kd (.val sStamp)]]⟩ [(.exit 0, ⟨[(4, .one (.kd (.own false 2 sStamp)))], [[.kd (.val sTree)], [.kd (.val sStamp)]]⟩)])]
noncomputable def S_15 : Spec := specO ti_15.gs (kinds to_15.gs) tree_Kids
abbrev ti_29 : Tm := ⟨[], []⟩
abbrev to_29 : Tm := ⟨[(0, .one (.kd (.val sOp)))], []⟩
def an_29 : List (Nat × Ann) := []
noncomputable def S_29 : Spec := specT ti_29.gs (kinds to_29.gs) arraslaw10_O
abbrev ti_11 : Tm := ⟨[], []⟩
abbrev to_11 : Tm := ⟨[(0, .one (.kd (.val .bool)))], []⟩
def an_11 : List (Nat × Ann) := [(29, .join [(0, .bool)])]
noncomputable def S_11 : Spec := specO ti_11.gs (kinds to_11.gs) arraslaw16_wakes
abbrev ti_3 : Tm := ⟨[(0, .one (.kd (.val sScript_arraslaw16)))], []⟩
abbrev to_3 : Tm := ⟨[(0, .one (.kd (.val .bool)))], []⟩
def an_3 : List (Nat × Ann) := [(125, .join [(2, .bool)]), (249, .loop ⟨[(1, .one (.fix (.ptr 0 0))), (3, .one (.kd (.val (.list sOp)))), (4, .one (.fix (.ptr 1 0))), (5, .one (.fix (.ptr 2 0))), (6, .one (.fix (.ptr 3 0))), (7, .one (.kd (.val sI)))], [[.kd (.val sScript_arraslaw16)], [.kd (.val sTree)], [.kd (.val sTree)], [.kd (.val sTree)]]⟩ [(.exit 0, ⟨[(3, .one (.kd (.val (.list sOp)))), (4, .one (.fix (.ptr 1 0))), (5, .one (.fix (.ptr 2 0))), (6, .one (.fix (.ptr 3 0)))], [[.kd (.val sScript_arraslaw16)], [.kd (.val sTree)], [.kd (.val sTree)], [.kd (.val sTree)]]⟩), (.ret, ⟨[(2, .one (.kd (.val .bool)))], []⟩)]), (128155, .join [(71, .bool)])]
noncomputable def S_3 : Spec := specO ti_3.gs (kinds to_3.gs) arraslaw16_TreeOrders
abbrev ti_30 : Tm := ⟨[(0, .one (.kd (.val sTree))), (1, .one (.kd (.val sStamp)))], []⟩
abbrev to_30 : Tm := ⟨[(0, .one (.kd (.val sNode))), (1, .one (.kd (.val .bool)))], []⟩
def an_30 : List (Nat × Ann) := []
noncomputable def S_30 : Spec := specO ti_30.gs (kinds to_30.gs) tree_Node
abbrev ti_31 : Tm := ⟨[(0, .one (.kd (.val sTree))), (1, .one (.kd (.val sStamp)))], []⟩
abbrev to_31 : Tm := ⟨[(0, .one (.kd (.val (.list sStamp))))], []⟩
def an_31 : List (Nat × Ann) := [(2, .lab 0 ⟨[(2, .one (.fix (.ptr 0 0))), (3, .one (.fix (.ptr 1 0))), (4, .one (.kd (.own false 2 sStamp))), (5, .one (.fix (.ptr 2 0)))], [[.kd (.val sTree)], [.kd (.val sStamp)], [.kd (.val sNode)]]⟩ [(.ret, ⟨[(4, .one (.kd (.own false 2 sStamp)))], []⟩)])]
noncomputable def S_31 : Spec := specO ti_31.gs (kinds to_31.gs) tree_Up
abbrev ti_14 : Tm := ⟨[(0, .one (.kd (.val sTree))), (1, .one (.kd (.val sStamp)))], []⟩
abbrev to_14 : Tm := ⟨[(0, .one (.kd (.val (.list sStamp)))), (1, .one (.kd (.val sI)))], []⟩
def an_14 : List (Nat × Ann) := []
noncomputable def S_14 : Spec := specO ti_14.gs (kinds to_14.gs) tree_Above
abbrev ti_16 : Tm := ⟨[(0, .one (.kd (.val (.list sStamp)))), (1, .one (.kd (.val sStamp)))], []⟩
abbrev to_16 : Tm := ⟨[(0, .one (.kd (.val sI)))], []⟩
def an_16 : List (Nat × Ann) := [(25, .loop ⟨[(0, .one (.kd (.val (.list sStamp)))), (3, .one (.fix (.ptr 0 0))), (5, .one (.kd (.val sI)))], [[.kd (.val sStamp)]]⟩ [(.exit 0, ⟨[], [[.kd (.val sStamp)]]⟩), (.ret, ⟨[(4, .one (.kd (.val sI)))], []⟩)])]
noncomputable def S_16 : Spec := specO ti_16.gs (kinds to_16.gs) arrasref0_InStamps
abbrev ti_17 : Tm := ⟨[(0, .one (.kd (.val sStamp))), (1, .one (.kd (.val sStamp)))], []⟩
abbrev to_17 : Tm := ⟨[(0, .one (.kd (.val sI)))], []⟩
def an_17 : List (Nat × Ann) := [(11, .join [(23, .bool)])]
noncomputable def S_17 : Spec := specT ti_17.gs (kinds to_17.gs) arrasref6_Cmp
abbrev ti_18 : Tm := ⟨[(0, .one (.kd (.val sTree))), (1, .one (.kd (.val sStamp)))], []⟩
abbrev to_18 : Tm := ⟨[(0, .one (.kd (.val sNode))), (1, .one (.kd (.val sI)))], []⟩
def an_18 : List (Nat × Ann) := []
noncomputable def S_18 : Spec := specO ti_18.gs (kinds to_18.gs) tree_Find
abbrev ti_5 : Tm := ⟨[(0, .one (.kd (.val sScript_arraslaw16)))], []⟩
abbrev to_5 : Tm := ⟨[(0, .one (.kd (.val .bool)))], []⟩
def an_5 : List (Nat × Ann) := [(249, .loop ⟨[(1, .one (.fix (.ptr 0 0))), (3, .one (.kd (.val (.list sOp)))), (4, .one (.fix (.ptr 1 0))), (5, .one (.kd (.val sI)))], [[.kd (.val sScript_arraslaw16)], [.kd (.val sTree)]]⟩ [(.exit 0, ⟨[], [[.kd (.val sScript_arraslaw16)], [.kd (.val sTree)]]⟩), (.ret, ⟨[(2, .one (.kd (.val .bool)))], []⟩)]), (32036, .cut [(.normal, ⟨[(1, .one (.fix (.ptr 0 0))), (3, .one (.kd (.val (.list sOp)))), (4, .one (.fix (.ptr 1 0))), (5, .one (.kd (.val sI)))], [[.kd (.val sScript_arraslaw16)], [.kd (.val sTree)], [.kd (.val sTree)]]⟩)]), (64077, .loop ⟨[(1, .one (.fix (.ptr 0 0))), (3, .one (.kd (.val (.list sOp)))), (4, .one (.fix (.ptr 1 0))), (5, .one (.kd (.val sI))), (8, .one (.kd (.val sI)))], [[.kd (.val sScript_arraslaw16)], [.kd (.val sTree)], [.kd (.val sTree)]]⟩ [(.exit 2, ⟨[(1, .one (.fix (.ptr 0 0))), (3, .one (.kd (.val (.list sOp)))), (4, .one (.fix (.ptr 1 0))), (5, .one (.kd (.val sI)))], [[.kd (.val sScript_arraslaw16)], [.kd (.val sTree)], [.kd (.val sTree)]]⟩), (.ret, ⟨[(2, .one (.kd (.val .bool)))], []⟩)]), (32808091, .join [(117, .bool)]), (65616187, .join [(132, .bool)]), (131232381, .loop ⟨[(1, .one (.fix (.ptr 0 0))), (3, .one (.kd (.val (.list sOp)))), (4, .one (.fix (.ptr 1 0))), (5, .one (.kd (.val sI))), (8, .one (.kd (.val sI))), (9, .one (.fix (.ptr 3 0))), (12, .one (.kd (.val (.list sStamp)))), (14, .one (.kd (.val sI)))], [[.kd (.val sScript_arraslaw16)], [.kd (.val sTree)], [.kd (.val sTree)], [.kd (.val sNode)]]⟩ [(.exit 4, ⟨[(1, .one (.fix (.ptr 0 0))), (3, .one (.kd (.val (.list sOp)))), (4, .one (.fix (.ptr 1 0))), (5, .one (.kd (.val sI))), (8, .one (.kd (.val sI)))], [[.kd (.val sScript_arraslaw16)], [.kd (.val sTree)], [.kd (.val sTree)], [.kd (.val sNode)]]⟩), (.ret, ⟨[(2, .one (.kd (.val .bool)))], []⟩)]), (8398872465, .join [(157, .bool)])]
noncomputable def S_5 : Spec := specO ti_5.gs (kinds to_5.gs) arraslaw16_TreeRounds
theorem k_41 : SpecOk (calls tbS (ex tbS)) 41 S_41 := cloneS_ok (zero := [.int .i64 0, .int .i64 0, .int .i64 0, .nils, .int .i64 0, .int .i64 0, .int .i64 0, .int .i64 0, .int .i64 0, .str ⟨#[]⟩, .int .i64 0, .int .i64 0, .bool false, .int .i64 0, .int .i64 0, .str ⟨#[]⟩, .bool false]) (by kernel_rfl) rfl rfl
theorem k_42 : SpecOk (calls tbS (ex tbS)) 42 S_42 := cloneS_ok (zero := [.int .i64 0, .int .i64 0, .int .i64 0, .int .i64 0, .str ⟨#[]⟩]) (by kernel_rfl) rfl rfl
theorem k_59 : SpecOk (calls tbS (ex tbS)) 59 S_59 := insertS_ok rfl
theorem k_63 : SpecOk (calls tbS (ex tbS)) 63 S_63 := deleteS_ok (tb0 := tb0) (zero := [.int .i64 0, .int .i64 0, .int .i64 0, .int .i64 0, .str ⟨#[]⟩]) rfl (by kernel_rfl) rfl (by decide)
theorem k_64 : SpecOk (calls tbS (ex tbS)) 64 S_64 := cloneS_ok (zero := [.int .i64 0]) (by kernel_rfl) rfl rfl
theorem k_69 : SpecOk (calls tbS (ex tbS)) 69 S_69 := cmpStrS_ok rfl
theorem k0_69 : SpecOk (calls tb0 (ex tb0)) 69 S_69 := cmpStrS_ok rfl
theorem e0_48 (x : St ti_48) : (symF tb0 (spOf []) 48 (anOf an_48) 1000 ti_48 to_48 x).sem = cmp_Or_int x := by kernel_rfl
theorem k0_48 : SpecOk (calls tb0 (ex tb0)) 48 S_48 := plugO (f := 48) (an := anOf an_48) (fuel := 1000) (ti := ti_48) (to := to_48) (F := cmp_Or_int) (specsOk_nil) ⟨rfl, by kernel_rfl, by kernel_rfl, rfl, by kernel_rfl, by kernel_rfl⟩ (by kernel_rfl) rfl e0_48
theorem e_48 (x : St ti_48) : (symF tbS (spOf []) 48 (anOf an_48) 1000 ti_48 to_48 x).sem = cmp_Or_int x := by kernel_rfl
theorem k_48 : SpecOk (calls tbS (ex tbS)) 48 S_48 := plugO (f := 48) (an := anOf an_48) (fuel := 1000) (ti := ti_48) (to := to_48) (F := cmp_Or_int) (specsOk_nil) ⟨rfl, by kernel_rfl, by kernel_rfl, rfl, by kernel_rfl, by kernel_rfl⟩ (by kernel_rfl) rfl e_48
theorem se0_49 (x : St ti_49) : (symF tb0 (spOf [(69, S_69)]) 49 (anOf an_49) 1000 ti_49 to_49 x).sure = true := by kernel_rfl
theorem e0_49 (x : St ti_49) (d : St to_49) : (symF tb0 (spOf [(69, S_69)]) 49 (anOf an_49) 1000 ti_49 to_49 x).pick d = strings_Compare x := by kernel_rfl
theorem k0_49 : SpecOk (calls tb0 (ex tb0)) 49 S_49 := plugT (f := 49) (an := anOf an_49) (fuel := 1000) (ti := ti_49) (to := to_49) (F := strings_Compare) (specsOk_cons k0_69 (specsOk_nil)) ⟨rfl, by kernel_rfl, by kernel_rfl, rfl, by kernel_rfl, by kernel_rfl⟩ (by kernel_rfl) rfl se0_49 e0_49
theorem se_49 (x : St ti_49) : (symF tbS (spOf [(69, S_69)]) 49 (anOf an_49) 1000 ti_49 to_49 x).sure = true := by kernel_rfl
theorem e_49 (x : St ti_49) (d : St to_49) : (symF tbS (spOf [(69, S_69)]) 49 (anOf an_49) 1000 ti_49 to_49 x).pick d = strings_Compare x := by kernel_rfl
theorem k_49 : SpecOk (calls tbS (ex tbS)) 49 S_49 := plugT (f := 49) (an := anOf an_49) (fuel := 1000) (ti := ti_49) (to := to_49) (F := strings_Compare) (specsOk_cons k_69 (specsOk_nil)) ⟨rfl, by kernel_rfl, by kernel_rfl, rfl, by kernel_rfl, by kernel_rfl⟩ (by kernel_rfl) rfl se_49 e_49
theorem se0_94 (x : St ti_94) : (symF tb0 (spOf []) 94 (anOf an_94) 1000 ti_94 to_94 x).sure = true := by kernel_rfl
theorem e0_94 (x : St ti_94) (d : St to_94) : (symF tb0 (spOf []) 94 (anOf an_94) 1000 ti_94 to_94 x).pick d = cmp_isNaN_int x := by kernel_rfl
theorem k0_94 : SpecOk (calls tb0 (ex tb0)) 94 S_94 := plugT (f := 94) (an := anOf an_94) (fuel := 1000) (ti := ti_94) (to := to_94) (F := cmp_isNaN_int) (specsOk_nil) ⟨rfl, by kernel_rfl, by kernel_rfl, rfl, by kernel_rfl, by kernel_rfl⟩ (by kernel_rfl) rfl se0_94 e0_94
theorem se_94 (x : St ti_94) : (symF tbS (spOf []) 94 (anOf an_94) 1000 ti_94 to_94 x).sure = true := by kernel_rfl
theorem e_94 (x : St ti_94) (d : St to_94) : (symF tbS (spOf []) 94 (anOf an_94) 1000 ti_94 to_94 x).pick d = cmp_isNaN_int x := by kernel_rfl
theorem k_94 : SpecOk (calls tbS (ex tbS)) 94 S_94 := plugT (f := 94) (an := anOf an_94) (fuel := 1000) (ti := ti_94) (to := to_94) (F := cmp_isNaN_int) (specsOk_nil) ⟨rfl, by kernel_rfl, by kernel_rfl, rfl, by kernel_rfl, by kernel_rfl⟩ (by kernel_rfl) rfl se_94 e_94
theorem se0_70 (x : St ti_70) : (symF tb0 (spOf [(94, S_94)]) 70 (anOf an_70) 1000 ti_70 to_70 x).sure = true := by kernel_rfl
theorem e0_70 (x : St ti_70) (d : St to_70) : (symF tb0 (spOf [(94, S_94)]) 70 (anOf an_70) 1000 ti_70 to_70 x).pick d = cmp_Compare_int x := by kernel_rfl
theorem k0_70 : SpecOk (calls tb0 (ex tb0)) 70 S_70 := plugT (f := 70) (an := anOf an_70) (fuel := 1000) (ti := ti_70) (to := to_70) (F := cmp_Compare_int) (specsOk_cons k0_94 (specsOk_nil)) ⟨rfl, by kernel_rfl, by kernel_rfl, rfl, by kernel_rfl, by kernel_rfl⟩ (by kernel_rfl) rfl se0_70 e0_70
theorem se_70 (x : St ti_70) : (symF tbS (spOf [(94, S_94)]) 70 (anOf an_70) 1000 ti_70 to_70 x).sure = true := by kernel_rfl
theorem e_70 (x : St ti_70) (d : St to_70) : (symF tbS (spOf [(94, S_94)]) 70 (anOf an_70) 1000 ti_70 to_70 x).pick d = cmp_Compare_int x := by kernel_rfl
theorem k_70 : SpecOk (calls tbS (ex tbS)) 70 S_70 := plugT (f := 70) (an := anOf an_70) (fuel := 1000) (ti := ti_70) (to := to_70) (F := cmp_Compare_int) (specsOk_cons k_94 (specsOk_nil)) ⟨rfl, by kernel_rfl, by kernel_rfl, rfl, by kernel_rfl, by kernel_rfl⟩ (by kernel_rfl) rfl se_70 e_70
theorem e0_50 (x : St ti_50) : (symF tb0 (spOf [(48, S_48), (70, S_70)]) 50 (anOf an_50) 1000 ti_50 to_50 x).sem = stamp_Cmp x := by kernel_rfl
theorem k0_50 : SpecOk (calls tb0 (ex tb0)) 50 S_50 := plugO (f := 50) (an := anOf an_50) (fuel := 1000) (ti := ti_50) (to := to_50) (F := stamp_Cmp) (specsOk_cons k0_48 (specsOk_cons k0_70 (specsOk_nil))) ⟨rfl, by kernel_rfl, by kernel_rfl, rfl, by kernel_rfl, by kernel_rfl⟩ (by kernel_rfl) rfl e0_50
theorem e_50 (x : St ti_50) : (symF tbS (spOf [(48, S_48), (70, S_70)]) 50 (anOf an_50) 1000 ti_50 to_50 x).sem = stamp_Cmp x := by kernel_rfl
theorem k_50 : SpecOk (calls tbS (ex tbS)) 50 S_50 := plugO (f := 50) (an := anOf an_50) (fuel := 1000) (ti := ti_50) (to := to_50) (F := stamp_Cmp) (specsOk_cons k_48 (specsOk_cons k_70 (specsOk_nil))) ⟨rfl, by kernel_rfl, by kernel_rfl, rfl, by kernel_rfl, by kernel_rfl⟩ (by kernel_rfl) rfl e_50
theorem e0_47 (x : St ti_47) : (symF tb0 (spOf [(48, S_48), (49, S_49), (50, S_50)]) 47 (anOf an_47) 1000 ti_47 to_47 x).sem = tree_Children_1 x := by kernel_rfl
theorem k0_47 : SpecOk (calls tb0 (ex tb0)) 47 S_47 := plugO (f := 47) (an := anOf an_47) (fuel := 1000) (ti := ti_47) (to := to_47) (F := tree_Children_1) (specsOk_cons k0_48 (specsOk_cons k0_49 (specsOk_cons k0_50 (specsOk_nil)))) ⟨rfl, by kernel_rfl, by kernel_rfl, rfl, by kernel_rfl, by kernel_rfl⟩ (by kernel_rfl) rfl e0_47
theorem e_47 (x : St ti_47) : (symF tbS (spOf [(48, S_48), (49, S_49), (50, S_50)]) 47 (anOf an_47) 1000 ti_47 to_47 x).sem = tree_Children_1 x := by kernel_rfl
theorem k_47 : SpecOk (calls tbS (ex tbS)) 47 S_47 := plugO (f := 47) (an := anOf an_47) (fuel := 1000) (ti := ti_47) (to := to_47) (F := tree_Children_1) (specsOk_cons k_48 (specsOk_cons k_49 (specsOk_cons k_50 (specsOk_nil)))) ⟨rfl, by kernel_rfl, by kernel_rfl, rfl, by kernel_rfl, by kernel_rfl⟩ (by kernel_rfl) rfl e_47
theorem k_46 : SpecOk (calls tbS (ex tbS)) 46 S_46 := sortS_ok rfl swo_slices_SortFunc_Node rfl
theorem e_66 (x : St ti_66) : (symF tbS (spOf [(50, S_50)]) 66 (anOf an_66) 1000 ti_66 to_66 x).sem = tree_find_1 x := by kernel_rfl
theorem k_66 : SpecOk (calls tbS (ex tbS)) 66 S_66 := plugO (f := 66) (an := anOf an_66) (fuel := 1000) (ti := ti_66) (to := to_66) (F := tree_find_1) (specsOk_cons k_50 (specsOk_nil)) ⟨rfl, by kernel_rfl, by kernel_rfl, rfl, by kernel_rfl, by kernel_rfl⟩ (by kernel_rfl) rfl e_66
theorem e_65 (x : St ti_65) : (symF tbS (spOf [(66, S_66)]) 65 (anOf an_65) 1000 ti_65 to_65 x).sem = slices_BinarySearchFunc_Node_Stamp x := by kernel_rfl
theorem k_65 : SpecOk (calls tbS (ex tbS)) 65 S_65 := plugO (f := 65) (an := anOf an_65) (fuel := 1000) (ti := ti_65) (to := to_65) (F := slices_BinarySearchFunc_Node_Stamp) (specsOk_cons k_66 (specsOk_nil)) ⟨rfl, by kernel_rfl, by kernel_rfl, rfl, by kernel_rfl, by kernel_rfl⟩ (by kernel_rfl) rfl e_65
theorem e_45 (x : St ti_45) : (symF tbS (spOf [(65, S_65)]) 45 (anOf an_45) 1000 ti_45 to_45 x).sem = tree_find x := by kernel_rfl
theorem k_45 : SpecOk (calls tbS (ex tbS)) 45 S_45 := plugO (f := 45) (an := anOf an_45) (fuel := 1000) (ti := ti_45) (to := to_45) (F := tree_find) (specsOk_cons k_65 (specsOk_nil)) ⟨rfl, by kernel_rfl, by kernel_rfl, rfl, by kernel_rfl, by kernel_rfl⟩ (by kernel_rfl) rfl e_45
theorem se_33 (x : St ti_33) : (symF tbS (spOf []) 33 (anOf an_33) 1000 ti_33 to_33 x).sure = true := by kernel_rfl
theorem e_33 (x : St ti_33) (d : St to_33) : (symF tbS (spOf []) 33 (anOf an_33) 1000 ti_33 to_33 x).pick d = arraslaw0_OpWeight x := by kernel_rfl
theorem k_33 : SpecOk (calls tbS (ex tbS)) 33 S_33 := plugT (f := 33) (an := anOf an_33) (fuel := 1000) (ti := ti_33) (to := to_33) (F := arraslaw0_OpWeight) (specsOk_nil) ⟨rfl, by kernel_rfl, by kernel_rfl, rfl, by kernel_rfl, by kernel_rfl⟩ (by kernel_rfl) rfl se_33 e_33
theorem e_19 (x : St ti_19) : (symF tbS (spOf [(33, S_33)]) 19 (anOf an_19) 1000 ti_19 to_19 x).sem = arraslaw0_TreeWeight x := by kernel_rfl
theorem k_19 : SpecOk (calls tbS (ex tbS)) 19 S_19 := plugO (f := 19) (an := anOf an_19) (fuel := 1000) (ti := ti_19) (to := to_19) (F := arraslaw0_TreeWeight) (specsOk_cons k_33 (specsOk_nil)) ⟨rfl, by kernel_rfl, by kernel_rfl, rfl, by kernel_rfl, by kernel_rfl⟩ (by kernel_rfl) rfl e_19
theorem e_20 (x : St ti_20) : (symF tbS (spOf [(33, S_33)]) 20 (anOf an_20) 1000 ti_20 to_20 x).sem = arraslaw0_OpsWeight x := by kernel_rfl
theorem k_20 : SpecOk (calls tbS (ex tbS)) 20 S_20 := plugO (f := 20) (an := anOf an_20) (fuel := 1000) (ti := ti_20) (to := to_20) (F := arraslaw0_OpsWeight) (specsOk_cons k_33 (specsOk_nil)) ⟨rfl, by kernel_rfl, by kernel_rfl, rfl, by kernel_rfl, by kernel_rfl⟩ (by kernel_rfl) rfl e_20
theorem e_6 (x : St ti_6) : (symF tbS (spOf [(19, S_19), (20, S_20)]) 6 (anOf an_6) 1000 ti_6 to_6 x).sem = arraslaw16_heavy x := by kernel_rfl
theorem k_6 : SpecOk (calls tbS (ex tbS)) 6 S_6 := plugO (f := 6) (an := anOf an_6) (fuel := 1000) (ti := ti_6) (to := to_6) (F := arraslaw16_heavy) (specsOk_cons k_19 (specsOk_cons k_20 (specsOk_nil))) ⟨rfl, by kernel_rfl, by kernel_rfl, rfl, by kernel_rfl, by kernel_rfl⟩ (by kernel_rfl) rfl e_6
theorem e_21 (x : St ti_21) : (symF tbS (spOf []) 21 (anOf an_21) 1000 ti_21 to_21 x).sem = arraslaw0_Within x := by kernel_rfl
theorem k_21 : SpecOk (calls tbS (ex tbS)) 21 S_21 := plugO (f := 21) (an := anOf an_21) (fuel := 1000) (ti := ti_21) (to := to_21) (F := arraslaw0_Within) (specsOk_nil) ⟨rfl, by kernel_rfl, by kernel_rfl, rfl, by kernel_rfl, by kernel_rfl⟩ (by kernel_rfl) rfl e_21
theorem se_71 (x : St ti_71) : (symF tbS (spOf []) 71 (anOf an_71) 1000 ti_71 to_71 x).sure = true := by kernel_rfl
theorem e_71 (x : St ti_71) (d : St to_71) : (symF tbS (spOf []) 71 (anOf an_71) 1000 ti_71 to_71 x).pick d = arrasref0_Num x := by kernel_rfl
theorem k_71 : SpecOk (calls tbS (ex tbS)) 71 S_71 := plugT (f := 71) (an := anOf an_71) (fuel := 1000) (ti := ti_71) (to := to_71) (F := arrasref0_Num) (specsOk_nil) ⟨rfl, by kernel_rfl, by kernel_rfl, rfl, by kernel_rfl, by kernel_rfl⟩ (by kernel_rfl) rfl se_71 e_71
theorem se_51 (x : St ti_51) : (symF tbS (spOf [(71, S_71)]) 51 (anOf an_51) 1000 ti_51 to_51 x).sure = true := by kernel_rfl
theorem e_51 (x : St ti_51) (d : St to_51) : (symF tbS (spOf [(71, S_71)]) 51 (anOf an_51) 1000 ti_51 to_51 x).pick d = arrasref6_Stamp x := by kernel_rfl
theorem k_51 : SpecOk (calls tbS (ex tbS)) 51 S_51 := plugT (f := 51) (an := anOf an_51) (fuel := 1000) (ti := ti_51) (to := to_51) (F := arrasref6_Stamp) (specsOk_cons k_71 (specsOk_nil)) ⟨rfl, by kernel_rfl, by kernel_rfl, rfl, by kernel_rfl, by kernel_rfl⟩ (by kernel_rfl) rfl se_51 e_51
theorem e_52 (x : St ti_52) : (symF tbS (spOf [(71, S_71)]) 52 (anOf an_52) 1000 ti_52 to_52 x).sem = arrasref6_Vector x := by kernel_rfl
theorem k_52 : SpecOk (calls tbS (ex tbS)) 52 S_52 := plugO (f := 52) (an := anOf an_52) (fuel := 1000) (ti := ti_52) (to := to_52) (F := arrasref6_Vector) (specsOk_cons k_71 (specsOk_nil)) ⟨rfl, by kernel_rfl, by kernel_rfl, rfl, by kernel_rfl, by kernel_rfl⟩ (by kernel_rfl) rfl e_52
theorem e_72 (x : St ti_72) : (symF tbS (spOf []) 72 (anOf an_72) 1000 ti_72 to_72 x).sem = arrasref0_EqNumbers x := by kernel_rfl
theorem k_72 : SpecOk (calls tbS (ex tbS)) 72 S_72 := plugO (f := 72) (an := anOf an_72) (fuel := 1000) (ti := ti_72) (to := to_72) (F := arrasref0_EqNumbers) (specsOk_nil) ⟨rfl, by kernel_rfl, by kernel_rfl, rfl, by kernel_rfl, by kernel_rfl⟩ (by kernel_rfl) rfl e_72
theorem e_53 (x : St ti_53) : (symF tbS (spOf [(72, S_72)]) 53 (anOf an_53) 1000 ti_53 to_53 x).sem = arrasref0_EqOp x := by kernel_rfl
theorem k_53 : SpecOk (calls tbS (ex tbS)) 53 S_53 := plugO (f := 53) (an := anOf an_53) (fuel := 1000) (ti := ti_53) (to := to_53) (F := arrasref0_EqOp) (specsOk_cons k_72 (specsOk_nil)) ⟨rfl, by kernel_rfl, by kernel_rfl, rfl, by kernel_rfl, by kernel_rfl⟩ (by kernel_rfl) rfl e_53
theorem se_73 (x : St ti_73) : (symF tbS (spOf []) 73 (anOf an_73) 1000 ti_73 to_73 x).sure = true := by kernel_rfl
theorem e_73 (x : St ti_73) (d : St to_73) : (symF tbS (spOf []) 73 (anOf an_73) 1000 ti_73 to_73 x).pick d = arrasref6_Root x := by kernel_rfl
theorem k_73 : SpecOk (calls tbS (ex tbS)) 73 S_73 := plugT (f := 73) (an := anOf an_73) (fuel := 1000) (ti := ti_73) (to := to_73) (F := arrasref6_Root) (specsOk_nil) ⟨rfl, by kernel_rfl, by kernel_rfl, rfl, by kernel_rfl, by kernel_rfl⟩ (by kernel_rfl) rfl se_73 e_73
theorem se_74 (x : St ti_74) : (symF tbS (spOf []) 74 (anOf an_74) 1000 ti_74 to_74 x).sure = true := by kernel_rfl
theorem e_74 (x : St ti_74) (d : St to_74) : (symF tbS (spOf []) 74 (anOf an_74) 1000 ti_74 to_74 x).pick d = arrasref6_Trash x := by kernel_rfl
theorem k_74 : SpecOk (calls tbS (ex tbS)) 74 S_74 := plugT (f := 74) (an := anOf an_74) (fuel := 1000) (ti := ti_74) (to := to_74) (F := arrasref6_Trash) (specsOk_nil) ⟨rfl, by kernel_rfl, by kernel_rfl, rfl, by kernel_rfl, by kernel_rfl⟩ (by kernel_rfl) rfl se_74 e_74
theorem se_54 (x : St ti_54) : (symF tbS (spOf [(51, S_51), (73, S_73), (74, S_74)]) 54 (anOf an_54) 1000 ti_54 to_54 x).sure = true := by kernel_rfl
theorem e_54 (x : St ti_54) (d : St to_54) : (symF tbS (spOf [(51, S_51), (73, S_73), (74, S_74)]) 54 (anOf an_54) 1000 ti_54 to_54 x).pick d = arrasref6_Place x := by kernel_rfl
theorem k_54 : SpecOk (calls tbS (ex tbS)) 54 S_54 := plugT (f := 54) (an := anOf an_54) (fuel := 1000) (ti := ti_54) (to := to_54) (F := arrasref6_Place) (specsOk_cons k_51 (specsOk_cons k_73 (specsOk_cons k_74 (specsOk_nil)))) ⟨rfl, by kernel_rfl, by kernel_rfl, rfl, by kernel_rfl, by kernel_rfl⟩ (by kernel_rfl) rfl se_54 e_54
theorem e_55 (x : St ti_55) : (symF tbS (spOf []) 55 (anOf an_55) 1000 ti_55 to_55 x).sem = arrasref8_Key x := by kernel_rfl
theorem k_55 : SpecOk (calls tbS (ex tbS)) 55 S_55 := plugO (f := 55) (an := anOf an_55) (fuel := 1000) (ti := ti_55) (to := to_55) (F := arrasref8_Key) (specsOk_nil) ⟨rfl, by kernel_rfl, by kernel_rfl, rfl, by kernel_rfl, by kernel_rfl⟩ (by kernel_rfl) rfl e_55
theorem e_75 (x : St ti_75) : (symF tbS (spOf []) 75 (anOf an_75) 1000 ti_75 to_75 x).sem = arrasref8_value x := by kernel_rfl
theorem k_75 : SpecOk (calls tbS (ex tbS)) 75 S_75 := plugO (f := 75) (an := anOf an_75) (fuel := 1000) (ti := ti_75) (to := to_75) (F := arrasref8_value) (specsOk_nil) ⟨rfl, by kernel_rfl, by kernel_rfl, rfl, by kernel_rfl, by kernel_rfl⟩ (by kernel_rfl) rfl e_75
theorem e_56 (x : St ti_56) : (symF tbS (spOf [(75, S_75)]) 56 (anOf an_56) 1000 ti_56 to_56 x).sem = arrasref8_Check x := by kernel_rfl
theorem k_56 : SpecOk (calls tbS (ex tbS)) 56 S_56 := plugO (f := 56) (an := anOf an_56) (fuel := 1000) (ti := ti_56) (to := to_56) (F := arrasref8_Check) (specsOk_cons k_75 (specsOk_nil)) ⟨rfl, by kernel_rfl, by kernel_rfl, rfl, by kernel_rfl, by kernel_rfl⟩ (by kernel_rfl) rfl e_56
theorem e_34 (x : St ti_34) : (symF tbS (spOf [(51, S_51), (52, S_52), (53, S_53), (54, S_54), (55, S_55), (56, S_56)]) 34 (anOf an_34) 1000 ti_34 to_34 x).sem = arrasref10_Op x := by kernel_rfl
theorem k_34 : SpecOk (calls tbS (ex tbS)) 34 S_34 := plugO (f := 34) (an := anOf an_34) (fuel := 1000) (ti := ti_34) (to := to_34) (F := arrasref10_Op) (specsOk_cons k_51 (specsOk_cons k_52 (specsOk_cons k_53 (specsOk_cons k_54 (specsOk_cons k_55 (specsOk_cons k_56 (specsOk_nil))))))) ⟨rfl, by kernel_rfl, by kernel_rfl, rfl, by kernel_rfl, by kernel_rfl⟩ (by kernel_rfl) rfl e_34
theorem e_22 (x : St ti_22) : (symF tbS (spOf [(34, S_34)]) 22 (anOf an_22) 1000 ti_22 to_22 x).sem = arrasref16_Move x := by kernel_rfl
theorem k_22 : SpecOk (calls tbS (ex tbS)) 22 S_22 := plugO (f := 22) (an := anOf an_22) (fuel := 1000) (ti := ti_22) (to := to_22) (F := arrasref16_Move) (specsOk_cons k_34 (specsOk_nil)) ⟨rfl, by kernel_rfl, by kernel_rfl, rfl, by kernel_rfl, by kernel_rfl⟩ (by kernel_rfl) rfl e_22
theorem e_7 (x : St ti_7) : (symF tbS (spOf [(21, S_21), (22, S_22)]) 7 (anOf an_7) 1000 ti_7 to_7 x).sem = arraslaw16_moves x := by kernel_rfl
theorem k_7 : SpecOk (calls tbS (ex tbS)) 7 S_7 := plugO (f := 7) (an := anOf an_7) (fuel := 1000) (ti := ti_7) (to := to_7) (F := arraslaw16_moves) (specsOk_cons k_21 (specsOk_cons k_22 (specsOk_nil))) ⟨rfl, by kernel_rfl, by kernel_rfl, rfl, by kernel_rfl, by kernel_rfl⟩ (by kernel_rfl) rfl e_7
theorem se_60 (x : St ti_60) : (symF tbS (spOf []) 60 (anOf an_60) 1000 ti_60 to_60 x).sure = true := by kernel_rfl
theorem e_60 (x : St ti_60) (d : St to_60) : (symF tbS (spOf []) 60 (anOf an_60) 1000 ti_60 to_60 x).pick d = stamp_Is x := by kernel_rfl
theorem k_60 : SpecOk (calls tbS (ex tbS)) 60 S_60 := plugT (f := 60) (an := anOf an_60) (fuel := 1000) (ti := ti_60) (to := to_60) (F := stamp_Is) (specsOk_nil) ⟨rfl, by kernel_rfl, by kernel_rfl, rfl, by kernel_rfl, by kernel_rfl⟩ (by kernel_rfl) rfl se_60 e_60
theorem e_61 (x : St ti_61) : (symF tbS (spOf []) 61 (anOf an_61) 1000 ti_61 to_61 x).sem = have_Is x := by kernel_rfl
theorem k_61 : SpecOk (calls tbS (ex tbS)) 61 S_61 := plugO (f := 61) (an := anOf an_61) (fuel := 1000) (ti := ti_61) (to := to_61) (F := have_Is) (specsOk_nil) ⟨rfl, by kernel_rfl, by kernel_rfl, rfl, by kernel_rfl, by kernel_rfl⟩ (by kernel_rfl) rfl e_61
theorem se_82 (x : St ti_82) : (symF tbS (spOf []) 82 (anOf an_82) 1000 ti_82 to_82 x).sure = true := by kernel_rfl
theorem e_82 (x : St ti_82) (d : St to_82) : (symF tbS (spOf []) 82 (anOf an_82) 1000 ti_82 to_82 x).pick d = stamp_Root x := by kernel_rfl
theorem k_82 : SpecOk (calls tbS (ex tbS)) 82 S_82 := plugT (f := 82) (an := anOf an_82) (fuel := 1000) (ti := ti_82) (to := to_82) (F := stamp_Root) (specsOk_nil) ⟨rfl, by kernel_rfl, by kernel_rfl, rfl, by kernel_rfl, by kernel_rfl⟩ (by kernel_rfl) rfl se_82 e_82
theorem se_96 (x : St ti_96) : (symF tbS (spOf []) 96 (anOf an_96) 1000 ti_96 to_96 x).sure = true := by kernel_rfl
theorem e_96 (x : St ti_96) (d : St to_96) : (symF tbS (spOf []) 96 (anOf an_96) 1000 ti_96 to_96 x).pick d = stamp_Trash x := by kernel_rfl
theorem k_96 : SpecOk (calls tbS (ex tbS)) 96 S_96 := plugT (f := 96) (an := anOf an_96) (fuel := 1000) (ti := ti_96) (to := to_96) (F := stamp_Trash) (specsOk_nil) ⟨rfl, by kernel_rfl, by kernel_rfl, rfl, by kernel_rfl, by kernel_rfl⟩ (by kernel_rfl) rfl se_96 e_96
theorem se_79 (x : St ti_79) : (symF tbS (spOf [(60, S_60), (82, S_82), (96, S_96)]) 79 (anOf an_79) 1000 ti_79 to_79 x).sure = true := by kernel_rfl
theorem e_79 (x : St ti_79) (d : St to_79) : (symF tbS (spOf [(60, S_60), (82, S_82), (96, S_96)]) 79 (anOf an_79) 1000 ti_79 to_79 x).pick d = stamp_Place x := by kernel_rfl
theorem k_79 : SpecOk (calls tbS (ex tbS)) 79 S_79 := plugT (f := 79) (an := anOf an_79) (fuel := 1000) (ti := ti_79) (to := to_79) (F := stamp_Place) (specsOk_cons k_60 (specsOk_cons k_82 (specsOk_cons k_96 (specsOk_nil)))) ⟨rfl, by kernel_rfl, by kernel_rfl, rfl, by kernel_rfl, by kernel_rfl⟩ (by kernel_rfl) rfl se_79 e_79
theorem e_80 (x : St ti_80) : (symF tbS (spOf []) 80 (anOf an_80) 1000 ti_80 to_80 x).sem = key_Is x := by kernel_rfl
theorem k_80 : SpecOk (calls tbS (ex tbS)) 80 S_80 := plugO (f := 80) (an := anOf an_80) (fuel := 1000) (ti := ti_80) (to := to_80) (F := key_Is) (specsOk_nil) ⟨rfl, by kernel_rfl, by kernel_rfl, rfl, by kernel_rfl, by kernel_rfl⟩ (by kernel_rfl) rfl e_80
theorem se_97 (x : St ti_97) : (symF tbS (spOf []) 97 (anOf an_97) 1000 ti_97 to_97 x).sure = true := by kernel_rfl
theorem e_97 (x : St ti_97) (d : St to_97) : (symF tbS (spOf []) 97 (anOf an_97) 1000 ti_97 to_97 x).pick d = prop_Is x := by kernel_rfl
theorem k_97 : SpecOk (calls tbS (ex tbS)) 97 S_97 := plugT (f := 97) (an := anOf an_97) (fuel := 1000) (ti := ti_97) (to := to_97) (F := prop_Is) (specsOk_nil) ⟨rfl, by kernel_rfl, by kernel_rfl, rfl, by kernel_rfl, by kernel_rfl⟩ (by kernel_rfl) rfl se_97 e_97
theorem e_98 (x : St ti_98) : (symF tbS (spOf []) 98 (anOf an_98) 1000 ti_98 to_98 x).sem = prop_ruleOf x := by kernel_rfl
theorem k_98 : SpecOk (calls tbS (ex tbS)) 98 S_98 := plugO (f := 98) (an := anOf an_98) (fuel := 1000) (ti := ti_98) (to := to_98) (F := prop_ruleOf) (specsOk_nil) ⟨rfl, by kernel_rfl, by kernel_rfl, rfl, by kernel_rfl, by kernel_rfl⟩ (by kernel_rfl) rfl e_98
theorem e_81 (x : St ti_81) : (symF tbS (spOf [(97, S_97), (98, S_98)]) 81 (anOf an_81) 1000 ti_81 to_81 x).sem = prop_May x := by kernel_rfl
theorem k_81 : SpecOk (calls tbS (ex tbS)) 81 S_81 := plugO (f := 81) (an := anOf an_81) (fuel := 1000) (ti := ti_81) (to := to_81) (F := prop_May) (specsOk_cons k_97 (specsOk_cons k_98 (specsOk_nil))) ⟨rfl, by kernel_rfl, by kernel_rfl, rfl, by kernel_rfl, by kernel_rfl⟩ (by kernel_rfl) rfl e_81
theorem e_62 (x : St ti_62) : (symF tbS (spOf [(79, S_79), (80, S_80), (81, S_81), (82, S_82)]) 62 (anOf an_62) 1000 ti_62 to_62 x).sem = op_kind x := by kernel_rfl
theorem k_62 : SpecOk (calls tbS (ex tbS)) 62 S_62 := plugO (f := 62) (an := anOf an_62) (fuel := 1000) (ti := ti_62) (to := to_62) (F := op_kind) (specsOk_cons k_79 (specsOk_cons k_80 (specsOk_cons k_81 (specsOk_cons k_82 (specsOk_nil))))) ⟨rfl, by kernel_rfl, by kernel_rfl, rfl, by kernel_rfl, by kernel_rfl⟩ (by kernel_rfl) rfl e_62
theorem e_39 (x : St ti_39) : (symF tbS (spOf [(60, S_60), (61, S_61), (62, S_62)]) 39 (anOf an_39) 1000 ti_39 to_39 x).sem = op_May x := by kernel_rfl
theorem k_39 : SpecOk (calls tbS (ex tbS)) 39 S_39 := plugO (f := 39) (an := anOf an_39) (fuel := 1000) (ti := ti_39) (to := to_39) (F := op_May) (specsOk_cons k_60 (specsOk_cons k_61 (specsOk_cons k_62 (specsOk_nil)))) ⟨rfl, by kernel_rfl, by kernel_rfl, rfl, by kernel_rfl, by kernel_rfl⟩ (by kernel_rfl) rfl e_39
theorem e_24 (x : St ti_24) : (symF tbS (spOf [(39, S_39)]) 24 (anOf an_24) 1000 ti_24 to_24 x).sem = tree_move x := by kernel_rfl
theorem k_24 : SpecOk (calls tbS (ex tbS)) 24 S_24 := plugO (f := 24) (an := anOf an_24) (fuel := 1000) (ti := ti_24) (to := to_24) (F := tree_move) (specsOk_cons k_39 (specsOk_nil)) ⟨rfl, by kernel_rfl, by kernel_rfl, rfl, by kernel_rfl, by kernel_rfl⟩ (by kernel_rfl) rfl e_24
theorem e_35 (x : St ti_35) : (symF tbS (spOf [(50, S_50)]) 35 (anOf an_35) 1000 ti_35 to_35 x).sem = op_Less x := by kernel_rfl
theorem k_35 : SpecOk (calls tbS (ex tbS)) 35 S_35 := plugO (f := 35) (an := anOf an_35) (fuel := 1000) (ti := ti_35) (to := to_35) (F := op_Less) (specsOk_cons k_50 (specsOk_nil)) ⟨rfl, by kernel_rfl, by kernel_rfl, rfl, by kernel_rfl, by kernel_rfl⟩ (by kernel_rfl) rfl e_35
theorem e_76 (x : St ti_76) : (symF tbS (spOf []) 76 (anOf an_76) 1000 ti_76 to_76 x).sem = slices_Equal_int x := by kernel_rfl
theorem k_76 : SpecOk (calls tbS (ex tbS)) 76 S_76 := plugO (f := 76) (an := anOf an_76) (fuel := 1000) (ti := ti_76) (to := to_76) (F := slices_Equal_int) (specsOk_nil) ⟨rfl, by kernel_rfl, by kernel_rfl, rfl, by kernel_rfl, by kernel_rfl⟩ (by kernel_rfl) rfl e_76
theorem e_57 (x : St ti_57) : (symF tbS (spOf [(76, S_76)]) 57 (anOf an_57) 1000 ti_57 to_57 x).sem = op_Same x := by kernel_rfl
theorem k_57 : SpecOk (calls tbS (ex tbS)) 57 S_57 := plugO (f := 57) (an := anOf an_57) (fuel := 1000) (ti := ti_57) (to := to_57) (F := op_Same) (specsOk_cons k_76 (specsOk_nil)) ⟨rfl, by kernel_rfl, by kernel_rfl, rfl, by kernel_rfl, by kernel_rfl⟩ (by kernel_rfl) rfl e_57
theorem e_36 (x : St ti_36) : (symF tbS (spOf [(57, S_57)]) 36 (anOf an_36) 1000 ti_36 to_36 x).sem = tree_same x := by kernel_rfl
theorem k_36 : SpecOk (calls tbS (ex tbS)) 36 S_36 := plugO (f := 36) (an := anOf an_36) (fuel := 1000) (ti := ti_36) (to := to_36) (F := tree_same) (specsOk_cons k_57 (specsOk_nil)) ⟨rfl, by kernel_rfl, by kernel_rfl, rfl, by kernel_rfl, by kernel_rfl⟩ (by kernel_rfl) rfl e_36
theorem e_43 (x : St ti_43) : (symF tbS (spOf [(64, S_64)]) 43 (anOf an_43) 1000 ti_43 to_43 x).sem = op_Own x := by kernel_rfl
theorem k_43 : SpecOk (calls tbS (ex tbS)) 43 S_43 := plugO (f := 43) (an := anOf an_43) (fuel := 1000) (ti := ti_43) (to := to_43) (F := op_Own) (specsOk_cons k_64 (specsOk_nil)) ⟨rfl, by kernel_rfl, by kernel_rfl, rfl, by kernel_rfl, by kernel_rfl⟩ (by kernel_rfl) rfl e_43
theorem e_58 (x : St ti_58) : (symF tbS (spOf [(45, S_45)]) 58 (anOf an_58) 1000 ti_58 to_58 x).sem = tree_work_circle x := by kernel_rfl
theorem k_58 : SpecOk (calls tbS (ex tbS)) 58 S_58 := plugO (f := 58) (an := anOf an_58) (fuel := 1000) (ti := ti_58) (to := to_58) (F := tree_work_circle) (specsOk_cons k_45 (specsOk_nil)) ⟨rfl, by kernel_rfl, by kernel_rfl, rfl, by kernel_rfl, by kernel_rfl⟩ (by kernel_rfl) rfl e_58
theorem e_37 (x : St ti_37) : (symF tbS (spOf [(43, S_43), (45, S_45), (58, S_58), (59, S_59)]) 37 (anOf an_37) 1000 ti_37 to_37 x).sem = tree_work_do x := by kernel_rfl
theorem k_37 : SpecOk (calls tbS (ex tbS)) 37 S_37 := plugK (f := 37) (an := an_37) (fuel := 1000) (ti := ti_37) (to := to_37) (F := tree_work_do) (specsOk_cons k_43 (specsOk_cons k_45 (specsOk_cons k_58 (specsOk_cons k_59 (specsOk_nil))))) ⟨by kernel_rfl, by kernel_rfl, by kernel_rfl, by kernel_rfl⟩ ⟨by kernel_rfl, by kernel_rfl, rfl, by kernel_rfl⟩ (by kernel_rfl) (by kernel_rfl) rfl e_37
theorem e_38 (x : St ti_38) : (symF tbS (spOf []) 38 (anOf an_38) 1000 ti_38 to_38 x).sem = slices_Equal_Node x := by kernel_rfl
theorem k_38 : SpecOk (calls tbS (ex tbS)) 38 S_38 := plugO (f := 38) (an := anOf an_38) (fuel := 1000) (ti := ti_38) (to := to_38) (F := slices_Equal_Node) (specsOk_nil) ⟨rfl, by kernel_rfl, by kernel_rfl, rfl, by kernel_rfl, by kernel_rfl⟩ (by kernel_rfl) rfl e_38
theorem e_23 (x : St ti_23) : (symF tbS (spOf [(24, S_24), (35, S_35), (36, S_36), (37, S_37), (38, S_38)]) 23 (anOf an_23) 1000 ti_23 to_23 x).sem = tree_May x := by kernel_rfl
theorem k_23 : SpecOk (calls tbS (ex tbS)) 23 S_23 := plugO (f := 23) (an := anOf an_23) (fuel := 1000) (ti := ti_23) (to := to_23) (F := tree_May) (specsOk_cons k_24 (specsOk_cons k_35 (specsOk_cons k_36 (specsOk_cons k_37 (specsOk_cons k_38 (specsOk_nil)))))) ⟨rfl, by kernel_rfl, by kernel_rfl, rfl, by kernel_rfl, by kernel_rfl⟩ (by kernel_rfl) rfl e_23
theorem e_40 (x : St ti_40) : (symF tbS (spOf [(45, S_45), (63, S_63)]) 40 (anOf an_40) 1000 ti_40 to_40 x).sem = tree_work_undo x := by kernel_rfl
theorem k_40 : SpecOk (calls tbS (ex tbS)) 40 S_40 := plugK (f := 40) (an := an_40) (fuel := 1000) (ti := ti_40) (to := to_40) (F := tree_work_undo) (specsOk_cons k_45 (specsOk_cons k_63 (specsOk_nil))) ⟨by kernel_rfl, by kernel_rfl, by kernel_rfl, by kernel_rfl⟩ ⟨by kernel_rfl, by kernel_rfl, rfl, by kernel_rfl⟩ (by kernel_rfl) (by kernel_rfl) rfl e_40
theorem e_25 (x : St ti_25) : (symF tbS (spOf [(35, S_35), (37, S_37), (40, S_40), (41, S_41)]) 25 (anOf an_25) 1000 ti_25 to_25 x).sem = tree_Put x := by kernel_rfl
theorem k_25 : SpecOk (calls tbS (ex tbS)) 25 S_25 := plugK (f := 25) (an := an_25) (fuel := 1000) (ti := ti_25) (to := to_25) (F := tree_Put) (specsOk_cons k_35 (specsOk_cons k_37 (specsOk_cons k_40 (specsOk_cons k_41 (specsOk_nil))))) ⟨by kernel_rfl, by kernel_rfl, by kernel_rfl, by kernel_rfl⟩ ⟨by kernel_rfl, by kernel_rfl, rfl, by kernel_rfl⟩ (by kernel_rfl) (by kernel_rfl) rfl e_25
theorem e_26 (x : St ti_26) : (symF tbS (spOf [(41, S_41), (42, S_42), (43, S_43)]) 26 (anOf an_26) 1000 ti_26 to_26 x).sem = tree_Own x := by kernel_rfl
theorem k_26 : SpecOk (calls tbS (ex tbS)) 26 S_26 := plugK (f := 26) (an := an_26) (fuel := 1000) (ti := ti_26) (to := to_26) (F := tree_Own) (specsOk_cons k_41 (specsOk_cons k_42 (specsOk_cons k_43 (specsOk_nil)))) ⟨by kernel_rfl, by kernel_rfl, by kernel_rfl, by kernel_rfl⟩ ⟨by kernel_rfl, by kernel_rfl, rfl, by kernel_rfl⟩ (by kernel_rfl) (by kernel_rfl) rfl e_26
theorem e_8 (x : St ti_8) : (symF tbS (spOf [(23, S_23), (24, S_24), (25, S_25), (26, S_26)]) 8 (anOf an_8) 1000 ti_8 to_8 x).sem = tree_Apply x := by kernel_rfl
theorem k_8 : SpecOk (calls tbS (ex tbS)) 8 S_8 := plugO (f := 8) (an := anOf an_8) (fuel := 1000) (ti := ti_8) (to := to_8) (F := tree_Apply) (specsOk_cons k_23 (specsOk_cons k_24 (specsOk_cons k_25 (specsOk_cons k_26 (specsOk_nil))))) ⟨rfl, by kernel_rfl, by kernel_rfl, rfl, by kernel_rfl, by kernel_rfl⟩ (by kernel_rfl) rfl e_8
theorem se_9 (x : St ti_9) : (symF tbS (spOf []) 9 (anOf an_9) 1000 ti_9 to_9 x).sure = true := by kernel_rfl
theorem e_9 (x : St ti_9) (d : St to_9) : (symF tbS (spOf []) 9 (anOf an_9) 1000 ti_9 to_9 x).pick d = arraslaw16_num x := by kernel_rfl
theorem k_9 : SpecOk (calls tbS (ex tbS)) 9 S_9 := plugT (f := 9) (an := anOf an_9) (fuel := 1000) (ti := ti_9) (to := to_9) (F := arraslaw16_num) (specsOk_nil) ⟨rfl, by kernel_rfl, by kernel_rfl, rfl, by kernel_rfl, by kernel_rfl⟩ (by kernel_rfl) rfl se_9 e_9
theorem e_27 (x : St ti_27) : (symF tbS (spOf []) 27 (anOf an_27) 1000 ti_27 to_27 x).sem = arrasref0_EqNodes x := by kernel_rfl
theorem k_27 : SpecOk (calls tbS (ex tbS)) 27 S_27 := plugO (f := 27) (an := anOf an_27) (fuel := 1000) (ti := ti_27) (to := to_27) (F := arrasref0_EqNodes) (specsOk_nil) ⟨rfl, by kernel_rfl, by kernel_rfl, rfl, by kernel_rfl, by kernel_rfl⟩ (by kernel_rfl) rfl e_27
theorem e_44 (x : St ti_44) : (symF tbS (spOf [(53, S_53)]) 44 (anOf an_44) 1000 ti_44 to_44 x).sem = arrasref0_EqEntry x := by kernel_rfl
theorem k_44 : SpecOk (calls tbS (ex tbS)) 44 S_44 := plugO (f := 44) (an := anOf an_44) (fuel := 1000) (ti := ti_44) (to := to_44) (F := arrasref0_EqEntry) (specsOk_cons k_53 (specsOk_nil)) ⟨rfl, by kernel_rfl, by kernel_rfl, rfl, by kernel_rfl, by kernel_rfl⟩ (by kernel_rfl) rfl e_44
theorem e_28 (x : St ti_28) : (symF tbS (spOf [(44, S_44)]) 28 (anOf an_28) 1000 ti_28 to_28 x).sem = arrasref0_EqMoves x := by kernel_rfl
theorem k_28 : SpecOk (calls tbS (ex tbS)) 28 S_28 := plugO (f := 28) (an := anOf an_28) (fuel := 1000) (ti := ti_28) (to := to_28) (F := arrasref0_EqMoves) (specsOk_cons k_44 (specsOk_nil)) ⟨rfl, by kernel_rfl, by kernel_rfl, rfl, by kernel_rfl, by kernel_rfl⟩ (by kernel_rfl) rfl e_28
theorem e_10 (x : St ti_10) : (symF tbS (spOf [(27, S_27), (28, S_28)]) 10 (anOf an_10) 1000 ti_10 to_10 x).sem = arrasref0_EqTree x := by kernel_rfl
theorem k_10 : SpecOk (calls tbS (ex tbS)) 10 S_10 := plugO (f := 10) (an := anOf an_10) (fuel := 1000) (ti := ti_10) (to := to_10) (F := arrasref0_EqTree) (specsOk_cons k_27 (specsOk_cons k_28 (specsOk_nil))) ⟨rfl, by kernel_rfl, by kernel_rfl, rfl, by kernel_rfl, by kernel_rfl⟩ (by kernel_rfl) rfl e_10
theorem e_32 (x : St ti_32) : (symF tbS (spOf [(46, S_46)]) 32 (anOf an_32) 1000 ti_32 to_32 x).sem = tree_Children x := by kernel_rfl
theorem k_32 : SpecOk (calls tbS (ex tbS)) 32 S_32 := plugO (f := 32) (an := anOf an_32) (fuel := 1000) (ti := ti_32) (to := to_32) (F := tree_Children) (specsOk_cons k_46 (specsOk_nil)) ⟨rfl, by kernel_rfl, by kernel_rfl, rfl, by kernel_rfl, by kernel_rfl⟩ (by kernel_rfl) rfl e_32
theorem e_15 (x : St ti_15) : (symF tbS (spOf [(23, S_23), (32, S_32)]) 15 (anOf an_15) 1000 ti_15 to_15 x).sem = tree_Kids x := by kernel_rfl
theorem k_15 : SpecOk (calls tbS (ex tbS)) 15 S_15 := plugO (f := 15) (an := anOf an_15) (fuel := 1000) (ti := ti_15) (to := to_15) (F := tree_Kids) (specsOk_cons k_23 (specsOk_cons k_32 (specsOk_nil))) ⟨rfl, by kernel_rfl, by kernel_rfl, rfl, by kernel_rfl, by kernel_rfl⟩ (by kernel_rfl) rfl e_15
theorem se_29 (x : St ti_29) : (symF tbS (spOf []) 29 (anOf an_29) 1000 ti_29 to_29 x).sure = true := by kernel_rfl
theorem e_29 (x : St ti_29) (d : St to_29) : (symF tbS (spOf []) 29 (anOf an_29) 1000 ti_29 to_29 x).pick d = arraslaw10_O x := by kernel_rfl
theorem k_29 : SpecOk (calls tbS (ex tbS)) 29 S_29 := plugT (f := 29) (an := anOf an_29) (fuel := 1000) (ti := ti_29) (to := to_29) (F := arraslaw10_O) (specsOk_nil) ⟨rfl, by kernel_rfl, by kernel_rfl, rfl, by kernel_rfl, by kernel_rfl⟩ (by kernel_rfl) rfl se_29 e_29
theorem e_11 (x : St ti_11) : (symF tbS (spOf [(8, S_8), (9, S_9), (15, S_15), (29, S_29)]) 11 (anOf an_11) 1000 ti_11 to_11 x).sem = arraslaw16_wakes x := by kernel_rfl
theorem k_11 : SpecOk (calls tbS (ex tbS)) 11 S_11 := plugO (f := 11) (an := anOf an_11) (fuel := 1000) (ti := ti_11) (to := to_11) (F := arraslaw16_wakes) (specsOk_cons k_8 (specsOk_cons k_9 (specsOk_cons k_15 (specsOk_cons k_29 (specsOk_nil))))) ⟨rfl, by kernel_rfl, by kernel_rfl, rfl, by kernel_rfl, by kernel_rfl⟩ (by kernel_rfl) rfl e_11
theorem e_3 (x : St ti_3) : (symF tbS (spOf [(6, S_6), (7, S_7), (8, S_8), (9, S_9), (10, S_10), (11, S_11)]) 3 (anOf an_3) 1000 ti_3 to_3 x).sem = arraslaw16_TreeOrders x := by kernel_rfl
theorem k_3 : SpecOk (calls tbS (ex tbS)) 3 S_3 := plugO (f := 3) (an := anOf an_3) (fuel := 1000) (ti := ti_3) (to := to_3) (F := arraslaw16_TreeOrders) (specsOk_cons k_6 (specsOk_cons k_7 (specsOk_cons k_8 (specsOk_cons k_9 (specsOk_cons k_10 (specsOk_cons k_11 (specsOk_nil))))))) ⟨rfl, by kernel_rfl, by kernel_rfl, rfl, by kernel_rfl, by kernel_rfl⟩ (by kernel_rfl) rfl e_3
theorem e_30 (x : St ti_30) : (symF tbS (spOf [(45, S_45)]) 30 (anOf an_30) 1000 ti_30 to_30 x).sem = tree_Node x := by kernel_rfl
theorem k_30 : SpecOk (calls tbS (ex tbS)) 30 S_30 := plugO (f := 30) (an := anOf an_30) (fuel := 1000) (ti := ti_30) (to := to_30) (F := tree_Node) (specsOk_cons k_45 (specsOk_nil)) ⟨rfl, by kernel_rfl, by kernel_rfl, rfl, by kernel_rfl, by kernel_rfl⟩ (by kernel_rfl) rfl e_30
theorem e_31 (x : St ti_31) : (symF tbS (spOf [(30, S_30)]) 31 (anOf an_31) 1000 ti_31 to_31 x).sem = tree_Up x := by kernel_rfl
theorem k_31 : SpecOk (calls tbS (ex tbS)) 31 S_31 := plugO (f := 31) (an := anOf an_31) (fuel := 1000) (ti := ti_31) (to := to_31) (F := tree_Up) (specsOk_cons k_30 (specsOk_nil)) ⟨rfl, by kernel_rfl, by kernel_rfl, rfl, by kernel_rfl, by kernel_rfl⟩ (by kernel_rfl) rfl e_31
theorem e_14 (x : St ti_14) : (symF tbS (spOf [(23, S_23), (30, S_30), (31, S_31)]) 14 (anOf an_14) 1000 ti_14 to_14 x).sem = tree_Above x := by kernel_rfl
theorem k_14 : SpecOk (calls tbS (ex tbS)) 14 S_14 := plugO (f := 14) (an := anOf an_14) (fuel := 1000) (ti := ti_14) (to := to_14) (F := tree_Above) (specsOk_cons k_23 (specsOk_cons k_30 (specsOk_cons k_31 (specsOk_nil)))) ⟨rfl, by kernel_rfl, by kernel_rfl, rfl, by kernel_rfl, by kernel_rfl⟩ (by kernel_rfl) rfl e_14
theorem e_16 (x : St ti_16) : (symF tbS (spOf []) 16 (anOf an_16) 1000 ti_16 to_16 x).sem = arrasref0_InStamps x := by kernel_rfl
theorem k_16 : SpecOk (calls tbS (ex tbS)) 16 S_16 := plugO (f := 16) (an := anOf an_16) (fuel := 1000) (ti := ti_16) (to := to_16) (F := arrasref0_InStamps) (specsOk_nil) ⟨rfl, by kernel_rfl, by kernel_rfl, rfl, by kernel_rfl, by kernel_rfl⟩ (by kernel_rfl) rfl e_16
theorem se_17 (x : St ti_17) : (symF tbS (spOf []) 17 (anOf an_17) 1000 ti_17 to_17 x).sure = true := by kernel_rfl
theorem e_17 (x : St ti_17) (d : St to_17) : (symF tbS (spOf []) 17 (anOf an_17) 1000 ti_17 to_17 x).pick d = arrasref6_Cmp x := by kernel_rfl
theorem k_17 : SpecOk (calls tbS (ex tbS)) 17 S_17 := plugT (f := 17) (an := anOf an_17) (fuel := 1000) (ti := ti_17) (to := to_17) (F := arrasref6_Cmp) (specsOk_nil) ⟨rfl, by kernel_rfl, by kernel_rfl, rfl, by kernel_rfl, by kernel_rfl⟩ (by kernel_rfl) rfl se_17 e_17
theorem e_18 (x : St ti_18) : (symF tbS (spOf [(23, S_23), (30, S_30)]) 18 (anOf an_18) 1000 ti_18 to_18 x).sem = tree_Find x := by kernel_rfl
theorem k_18 : SpecOk (calls tbS (ex tbS)) 18 S_18 := plugO (f := 18) (an := anOf an_18) (fuel := 1000) (ti := ti_18) (to := to_18) (F := tree_Find) (specsOk_cons k_23 (specsOk_cons k_30 (specsOk_nil))) ⟨rfl, by kernel_rfl, by kernel_rfl, rfl, by kernel_rfl, by kernel_rfl⟩ (by kernel_rfl) rfl e_18
theorem e_5 (x : St ti_5) : (symF tbS (spOf [(6, S_6), (7, S_7), (8, S_8), (9, S_9), (11, S_11), (14, S_14), (15, S_15), (16, S_16), (17, S_17), (18, S_18)]) 5 (anOf an_5) 1000 ti_5 to_5 x).sem = arraslaw16_TreeRounds x := by kernel_rfl
theorem k_5 : SpecOk (calls tbS (ex tbS)) 5 S_5 := plugO (f := 5) (an := anOf an_5) (fuel := 1000) (ti := ti_5) (to := to_5) (F := arraslaw16_TreeRounds) (specsOk_cons k_6 (specsOk_cons k_7 (specsOk_cons k_8 (specsOk_cons k_9 (specsOk_cons k_11 (specsOk_cons k_14 (specsOk_cons k_15 (specsOk_cons k_16 (specsOk_cons k_17 (specsOk_cons k_18 (specsOk_nil))))))))))) ⟨rfl, by kernel_rfl, by kernel_rfl, rfl, by kernel_rfl, by kernel_rfl⟩ (by kernel_rfl) rfl e_5
end Go.Dv
