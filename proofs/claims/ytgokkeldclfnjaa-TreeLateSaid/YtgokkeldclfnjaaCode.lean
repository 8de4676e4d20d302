/- What the code comes to: each function of the seat, by the engine. Printed by a tool (seat.py). -/
import Derived.Test.YtgokkeldclfnjaaProg
import Derived.Test.YtgokkeldclfnjaaDvI
import Derived.Test.YtgokkeldclfnjaaNat
import Derived.Test.YtgokkeldclfnjaaTrA
set_option linter.unusedVariables false
set_option linter.unusedSimpArgs false
set_option maxRecDepth 100000
open Go (IntKind)
namespace Go.Dv
abbrev polS : Pol := ⟨(List.range 2000).filter (fun f => !([11,12,17,20,21,22,29,33,34] : List Nat).contains f), fun f => ((([] : List (Nat × List Nat)).lookup f).getD []), fun f => ((([] : List (Nat × List Nat)).lookup f).getD [])⟩
noncomputable abbrev tb0 : Table := ⟨funOf Go.Proofs.Try.prog polS, fun f => List.lookup f [(51, cmpPrim)]⟩
noncomputable abbrev tbS : Table := ⟨funOf Go.Proofs.Try.prog polS, fun f => List.lookup f [(29, insPrim 5 48), (33, cutPrim tb0 33), (35, sortPrim sNode cf_slices_SortFunc_Node 36), (51, cmpPrim)]⟩
noncomputable abbrev KS : Oracle := calls tbS (ex tbS)
noncomputable def S_21 : Spec := cloneS 17 168
noncomputable def S_22 : Spec := cloneS 5 48
noncomputable def S_29 : Spec := insertS 5 48
noncomputable def S_33 : Spec := deleteS 5 48
noncomputable def S_34 : Spec := cloneS 1 8
noncomputable def S_35 : Spec := specI 5 sNode [.fn 36 []] slices_SortFunc_Node
noncomputable def S_51 : Spec := cmpStrS
abbrev ti_37 : Tm := ⟨[(0, .one (.kd (.val (.list sI))))], []⟩
abbrev to_37 : Tm := ⟨[(0, .one (.kd (.val sI)))], []⟩
def an_37 : List (Nat × Ann) := [(57, .loop ⟨[(3, .one (.kd (.val sI))), (6, .one (.kd (.val (.list sI)))), (7, .one (.kd (.val sI))), (8, .one (.kd (.val sI)))], []⟩ [(.exit 0, ⟨[(3, .one (.kd (.val sI)))], []⟩), (.ret, ⟨[(2, .one (.kd (.val sI)))], []⟩)])]
noncomputable def S_37 : Spec := specO ti_37.gs (kinds to_37.gs) cmp_Or_int
abbrev ti_52 : Tm := ⟨[(0, .one (.kd (.val sI)))], []⟩
abbrev to_52 : Tm := ⟨[(0, .one (.kd (.val .bool)))], []⟩
def an_52 : List (Nat × Ann) := []
noncomputable def S_52 : Spec := specT ti_52.gs (kinds to_52.gs) cmp_isNaN_int
abbrev ti_39 : Tm := ⟨[(0, .one (.kd (.val sI))), (1, .one (.kd (.val sI)))], []⟩
abbrev to_39 : Tm := ⟨[(0, .one (.kd (.val sI)))], []⟩
def an_39 : List (Nat × Ann) := []
noncomputable def S_39 : Spec := specT ti_39.gs (kinds to_39.gs) cmp_Compare_int
abbrev ti_25 : Tm := ⟨[(0, .one (.kd (.val sStamp))), (1, .one (.kd (.val sStamp)))], []⟩
abbrev to_25 : Tm := ⟨[(0, .one (.kd (.val sI)))], []⟩
def an_25 : List (Nat × Ann) := []
noncomputable def S_25 : Spec := specO ti_25.gs (kinds to_25.gs) stamp_Cmp
abbrev ti_38 : Tm := ⟨[(0, .one (.kd (.val .str))), (1, .one (.kd (.val .str)))], []⟩
abbrev to_38 : Tm := ⟨[(0, .one (.kd (.val sI)))], []⟩
def an_38 : List (Nat × Ann) := []
noncomputable def S_38 : Spec := specT ti_38.gs (kinds to_38.gs) strings_Compare
abbrev ti_36 : Tm := ⟨[(0, .one (.kd (.val sNode))), (1, .one (.kd (.val sNode)))], []⟩
abbrev to_36 : Tm := ⟨[(0, .one (.kd (.val sI)))], []⟩
def an_36 : List (Nat × Ann) := []
noncomputable def S_36 : Spec := specO ti_36.gs (kinds to_36.gs) tree_Children_1
abbrev ti_42 : Tm := ⟨[(0, .one (.kd (.val sNode))), (1, .one (.kd (.val sStamp)))], []⟩
abbrev to_42 : Tm := ⟨[(0, .one (.kd (.val sI)))], []⟩
def an_42 : List (Nat × Ann) := []
noncomputable def S_42 : Spec := specO ti_42.gs (kinds to_42.gs) tree_find_1
abbrev ti_41 : Tm := ⟨[(0, .one (.kd (.val (.list sNode)))), (1, .one (.kd (.val sStamp))), (2, .one (.fix (.fn 42 [])))], []⟩
abbrev to_41 : Tm := ⟨[(0, .one (.kd (.val sI))), (1, .one (.kd (.val .bool)))], []⟩
def an_41 : List (Nat × Ann) := [(59, .loop ⟨[(0, .one (.kd (.val (.list sNode)))), (2, .one (.fix (.fn 42 []))), (4, .one (.fix (.ptr 0 0))), (8, .one (.kd (.val sI))), (9, .one (.kd (.val sI))), (10, .one (.kd (.val sI)))], [[.kd (.val sStamp)]]⟩ [(.exit 0, ⟨[(0, .one (.kd (.val (.list sNode)))), (2, .one (.fix (.fn 42 []))), (4, .one (.fix (.ptr 0 0))), (8, .one (.kd (.val sI))), (9, .one (.kd (.val sI)))], [[.kd (.val sStamp)]]⟩)]), (61, .join [(6, sI), (7, .bool)])]
noncomputable def S_41 : Spec := specO ti_41.gs (kinds to_41.gs) slices_BinarySearchFunc_Node_Stamp
abbrev ti_28 : Tm := ⟨[(0, .one (.kd (.val (.list sNode)))), (1, .one (.kd (.val sStamp)))], []⟩
abbrev to_28 : Tm := ⟨[(0, .one (.kd (.val sI))), (1, .one (.kd (.val .bool)))], []⟩
def an_28 : List (Nat × Ann) := []
noncomputable def S_28 : Spec := specO ti_28.gs (kinds to_28.gs) tree_find
abbrev ti_7 : Tm := ⟨[(0, .one (.kd (.val sI))), (1, .one (.kd (.val sStamp))), (2, .one (.kd (.val sStamp)))], []⟩
abbrev to_7 : Tm := ⟨[(0, .one (.kd (.val sOp)))], []⟩
def an_7 : List (Nat × Ann) := []
noncomputable def S_7 : Spec := specT ti_7.gs (kinds to_7.gs) arraslaw16_move
abbrev ti_4 : Tm := ⟨[(0, .one (.kd (.val sI)))], []⟩
abbrev to_4 : Tm := ⟨[(0, .one (.kd (.val (.list sOp))))], []⟩
def an_4 : List (Nat × Ann) := [(57, .loop ⟨[(0, .one (.kd (.val sI))), (3, .one (.kd (.own false 12 sOp))), (4, .one (.kd (.val sI)))], []⟩ [(.exit 0, ⟨[(3, .one (.kd (.own false 12 sOp)))], []⟩)])]
noncomputable def S_4 : Spec := specO ti_4.gs (kinds to_4.gs) arraslaw16_made
abbrev ti_30 : Tm := ⟨[(0, .one (.kd (.val sStamp)))], []⟩
abbrev to_30 : Tm := ⟨[(0, .one (.kd (.val .bool)))], []⟩
def an_30 : List (Nat × Ann) := [(5, .join [(2, .bool)])]
noncomputable def S_30 : Spec := specT ti_30.gs (kinds to_30.gs) stamp_Is
abbrev ti_31 : Tm := ⟨[(0, .one (.kd (.val (.list sI))))], []⟩
abbrev to_31 : Tm := ⟨[(0, .one (.kd (.val .bool)))], []⟩
def an_31 : List (Nat × Ann) := [(2, .lab 0 ⟨[(0, .one (.kd (.val (.list sI)))), (3, .one (.kd (.val sI)))], []⟩ [(.ret, ⟨[(2, .one (.kd (.val .bool)))], []⟩)]), (123, .join [(25, .bool)]), (243, .join [(2, .bool)])]
noncomputable def S_31 : Spec := specO ti_31.gs (kinds to_31.gs) have_Is
abbrev ti_48 : Tm := ⟨[], []⟩
abbrev to_48 : Tm := ⟨[(0, .one (.kd (.val sStamp)))], []⟩
def an_48 : List (Nat × Ann) := []
noncomputable def S_48 : Spec := specT ti_48.gs (kinds to_48.gs) stamp_Root
abbrev ti_54 : Tm := ⟨[], []⟩
abbrev to_54 : Tm := ⟨[(0, .one (.kd (.val sStamp)))], []⟩
def an_54 : List (Nat × Ann) := []
noncomputable def S_54 : Spec := specT ti_54.gs (kinds to_54.gs) stamp_Trash
abbrev ti_45 : Tm := ⟨[(0, .one (.kd (.val sStamp)))], []⟩
abbrev to_45 : Tm := ⟨[(0, .one (.kd (.val .bool)))], []⟩
def an_45 : List (Nat × Ann) := [(5, .join [(2, .bool)])]
noncomputable def S_45 : Spec := specT ti_45.gs (kinds to_45.gs) stamp_Place
abbrev ti_46 : Tm := ⟨[(0, .one (.kd (.val .str)))], []⟩
abbrev to_46 : Tm := ⟨[(0, .one (.kd (.val .bool)))], []⟩
def an_46 : List (Nat × Ann) := [(5, .join [(2, .bool)])]
noncomputable def S_46 : Spec := specO ti_46.gs (kinds to_46.gs) key_Is
abbrev ti_55 : Tm := ⟨[(0, .one (.kd (.val sI)))], []⟩
abbrev to_55 : Tm := ⟨[(0, .one (.kd (.val .bool)))], []⟩
def an_55 : List (Nat × Ann) := [(5, .join [(2, .bool)])]
noncomputable def S_55 : Spec := specT ti_55.gs (kinds to_55.gs) prop_Is
abbrev ti_56 : Tm := ⟨[(0, .one (.kd (.val sI)))], []⟩
abbrev to_56 : Tm := ⟨[(0, .one (.kd (.val srule_prop)))], []⟩
def an_56 : List (Nat × Ann) := [(428, .cut [(.normal, ⟨[(2, .one (.fix (.ptr 0 0))), (3, .one (.kd (.val sI))), (7, .one (.kd (.val .bool)))], [[.kd (.val srule_prop)]]⟩)]), (1724, .cut [(.normal, ⟨[(2, .one (.fix (.ptr 0 0))), (3, .one (.kd (.val sI))), (11, .one (.kd (.val .bool)))], [[.kd (.val srule_prop)]]⟩)]), (6902, .cut [(.normal, ⟨[(2, .one (.fix (.ptr 0 0))), (3, .one (.kd (.val sI))), (11, .one (.kd (.val .bool)))], [[.kd (.val srule_prop)]]⟩)]), (6908, .cut [(.normal, ⟨[(2, .one (.fix (.ptr 0 0))), (3, .one (.kd (.val sI))), (18, .one (.kd (.val .bool)))], [[.kd (.val srule_prop)]]⟩)]), (27614, .cut [(.normal, ⟨[(2, .one (.fix (.ptr 0 0))), (3, .one (.kd (.val sI))), (11, .one (.kd (.val .bool)))], [[.kd (.val srule_prop)]]⟩)]), (110462, .cut [(.normal, ⟨[(2, .one (.fix (.ptr 0 0))), (3, .one (.kd (.val sI))), (11, .one (.kd (.val .bool)))], [[.kd (.val srule_prop)]]⟩)])]
noncomputable def S_56 : Spec := specO ti_56.gs (kinds to_56.gs) prop_ruleOf
abbrev ti_47 : Tm := ⟨[(0, .one (.kd (.val sI))), (1, .one (.kd (.val sI)))], []⟩
abbrev to_47 : Tm := ⟨[(0, .one (.kd (.val .bool)))], []⟩
def an_47 : List (Nat × Ann) := [(5, .join [(4, .bool)])]
noncomputable def S_47 : Spec := specO ti_47.gs (kinds to_47.gs) prop_May
abbrev ti_32 : Tm := ⟨[(0, .one (.kd (.val sOp)))], []⟩
abbrev to_32 : Tm := ⟨[(0, .one (.kd (.val .bool)))], []⟩
def an_32 : List (Nat × Ann) := [(211, .join [(2, .bool)]), (859, .join [(2, .bool)])]
noncomputable def S_32 : Spec := specO ti_32.gs (kinds to_32.gs) op_kind
abbrev ti_19 : Tm := ⟨[(0, .one (.kd (.val sOp)))], []⟩
abbrev to_19 : Tm := ⟨[(0, .one (.kd (.val .bool)))], []⟩
def an_19 : List (Nat × Ann) := [(11, .join [(27, .bool)]), (13, .join [(2, .bool)])]
noncomputable def S_19 : Spec := specO ti_19.gs (kinds to_19.gs) op_May
abbrev ti_10 : Tm := ⟨[(0, .one (.kd (.val sOp)))], []⟩
abbrev to_10 : Tm := ⟨[(0, .one (.kd (.val .bool)))], []⟩
def an_10 : List (Nat × Ann) := [(5, .join [(2, .bool)])]
noncomputable def S_10 : Spec := specO ti_10.gs (kinds to_10.gs) tree_move
abbrev ti_15 : Tm := ⟨[(0, .one (.kd (.val sOp))), (1, .one (.kd (.val sOp)))], []⟩
abbrev to_15 : Tm := ⟨[(0, .one (.kd (.val .bool)))], []⟩
def an_15 : List (Nat × Ann) := []
noncomputable def S_15 : Spec := specO ti_15.gs (kinds to_15.gs) op_Less
abbrev ti_40 : Tm := ⟨[(0, .one (.kd (.val (.list sI)))), (1, .one (.kd (.val (.list sI))))], []⟩
abbrev to_40 : Tm := ⟨[(0, .one (.kd (.val .bool)))], []⟩
def an_40 : List (Nat × Ann) := [(57, .loop ⟨[(0, .one (.kd (.val (.list sI)))), (1, .one (.kd (.val (.list sI)))), (12, .one (.kd (.val sI))), (13, .one (.kd (.val sI)))], []⟩ [(.exit 0, ⟨[], []⟩), (.ret, ⟨[(4, .one (.kd (.val .bool)))], []⟩)])]
noncomputable def S_40 : Spec := specO ti_40.gs (kinds to_40.gs) slices_Equal_int
abbrev ti_26 : Tm := ⟨[(0, .one (.kd (.val sOp))), (1, .one (.kd (.val sOp)))], []⟩
abbrev to_26 : Tm := ⟨[(0, .one (.kd (.val .bool)))], []⟩
def an_26 : List (Nat × Ann) := [(5, .join [(4, .bool)])]
noncomputable def S_26 : Spec := specO ti_26.gs (kinds to_26.gs) op_Same
abbrev ti_16 : Tm := ⟨[(0, .one (.kd (.val sEntry))), (1, .one (.kd (.val sEntry)))], []⟩
abbrev to_16 : Tm := ⟨[(0, .one (.kd (.val .bool)))], []⟩
def an_16 : List (Nat × Ann) := [(5, .join [(4, .bool)])]
noncomputable def S_16 : Spec := specO ti_16.gs (kinds to_16.gs) tree_same
abbrev ti_23 : Tm := ⟨[(0, .one (.kd (.val sOp)))], []⟩
abbrev to_23 : Tm := ⟨[(0, .one (.kd (.val sOp)))], []⟩
def an_23 : List (Nat × Ann) := []
noncomputable def S_23 : Spec := specO ti_23.gs (kinds to_23.gs) op_Own
abbrev ti_27 : Tm := ⟨[(0, .one (.kd (.at_ (.list sNode)))), (1, .one (.kd (.val sStamp))), (2, .one (.kd (.val sStamp)))], []⟩
abbrev to_27 : Tm := ⟨[(0, .one (.kd (.val .bool)))], []⟩
def an_27 : List (Nat × Ann) := [(2, .lab 0 ⟨[(0, .one (.kd (.at_ (.list sNode)))), (4, .one (.fix (.ptr 0 0))), (5, .one (.fix (.ptr 1 0)))], [[.kd (.val sStamp)], [.kd (.val sStamp)]]⟩ [(.ret, ⟨[(6, .one (.kd (.val .bool)))], []⟩)])]
noncomputable def S_27 : Spec := specO ti_27.gs (kinds to_27.gs) tree_work_circle
abbrev ti_17 : Tm := ⟨[(0, .one (.fix (.ptr 0 0))), (1, .one (.kd (.val sOp)))], [[.kd (.own false 5 sNode)]]⟩
abbrev to_17 : Tm := ⟨[(0, .one (.kd (.val sEntry)))], [[.kd (.own false 5 sNode)]]⟩
def an_17 : List (Nat × Ann) := [(60, .cut [(.normal, ⟨[(0, .one (.fix (.ptr 0 0))), (3, .one (.fix (.ptr 1 0))), (4, .one (.fix (.ptr 2 0))), (5, .one (.fix (.ptr 3 0))), (6, .one (.kd (.val sI))), (7, .one (.kd (.val .bool)))], [[.kd (.own false 5 sNode)], [.kd (.val sOp)], [.kd (.val sEntry)], [.kd (.val sEntry)]]⟩)])]
noncomputable def S_17 : Spec := specK ti_17 to_17 tree_work_do
abbrev ti_18 : Tm := ⟨[(0, .one (.kd (.val (.list sNode)))), (1, .one (.kd (.val (.list sNode))))], []⟩
abbrev to_18 : Tm := ⟨[(0, .one (.kd (.val .bool)))], []⟩
def an_18 : List (Nat × Ann) := [(57, .loop ⟨[(0, .one (.kd (.val (.list sNode)))), (1, .one (.kd (.val (.list sNode)))), (12, .one (.kd (.val sI))), (13, .one (.kd (.val sI)))], []⟩ [(.exit 0, ⟨[], []⟩), (.ret, ⟨[(4, .one (.kd (.val .bool)))], []⟩)])]
noncomputable def S_18 : Spec := specO ti_18.gs (kinds to_18.gs) slices_Equal_Node
abbrev ti_9 : Tm := ⟨[(0, .one (.kd (.val sTree)))], []⟩
abbrev to_9 : Tm := ⟨[(0, .one (.kd (.val .bool)))], []⟩
def an_9 : List (Nat × Ann) := [(57, .loop ⟨[(1, .one (.fix (.ptr 0 0))), (3, .one (.fix (.ptr 1 0))), (9, .one (.kd (.val (.list sEntry)))), (10, .one (.kd (.val sI))), (11, .one (.kd (.val sI)))], [[.kd (.val sTree)], [.kd (.own false 5 sNode)]]⟩ [(.exit 0, ⟨[(1, .one (.fix (.ptr 0 0))), (3, .one (.fix (.ptr 1 0)))], [[.kd (.val sTree)], [.kd (.own false 5 sNode)]]⟩), (.ret, ⟨[(2, .one (.kd (.val .bool)))], []⟩)])]
noncomputable def S_9 : Spec := specO ti_9.gs (kinds to_9.gs) tree_May
abbrev ti_20 : Tm := ⟨[(0, .one (.fix (.ptr 0 0))), (1, .one (.kd (.val sEntry)))], [[.kd (.own false 5 sNode)]]⟩
abbrev to_20 : Tm := ⟨[], [[.kd (.own false 5 sNode)]]⟩
def an_20 : List (Nat × Ann) := []
noncomputable def S_20 : Spec := specK ti_20 to_20 tree_work_undo
abbrev ti_11 : Tm := ⟨[(0, .agg [.kd (.own false 5 sNode), .kd (.own false 17 sEntry)]), (1, .one (.kd (.val sOp)))], []⟩
abbrev to_11 : Tm := ⟨[(0, .agg [.kd (.own false 5 sNode), .kd (.own false 17 sEntry)]), (1, .one (.kd (.val sI)))], []⟩
def an_11 : List (Nat × Ann) := [(2, .lab 0 ⟨[(2, .one (.fix (.ptr 0 0))), (3, .one (.fix (.ptr 1 0))), (4, .one (.fix (.ptr 2 0))), (6, .one (.fix (.ptr 3 0))), (7, .one (.kd (.val sI)))], [[.fix (.undef), .kd (.own false 17 sEntry)], [.kd (.val sOp)], [.kd (.val sTree)], [.kd (.own false 5 sNode)]]⟩ [(.ret, ⟨[(4, .one (.fix (.ptr 2 0))), (5, .one (.kd (.val sI)))], [[.fix (.undef), .fix (.undef)], [.fix (.undef), .fix (.undef), .fix (.undef), .fix (.undef), .fix (.undef), .fix (.undef), .fix (.undef), .fix (.undef), .fix (.undef), .fix (.undef), .fix (.undef), .fix (.undef)], [.kd (.own false 5 sNode), .kd (.own false 17 sEntry)], [.fix (.undef)]]⟩)]), (59, .join [(32, .bool)]), (251, .join [(60, .bool)]), (2041, .loop ⟨[(4, .one (.fix (.ptr 2 0))), (6, .one (.fix (.ptr 3 0))), (10, .one (.kd (.own false 17 sEntry))), (85, .one (.kd (.view false (.list sEntry)))), (86, .one (.kd (.val sI))), (87, .one (.kd (.val sI)))], [[.fix (.undef), .kd (.view false (.list sEntry))], [.kd (.val sOp)], [.kd (.val sTree)], [.kd (.own false 5 sNode)]]⟩ [(.exit 2, ⟨[(4, .one (.fix (.ptr 2 0))), (6, .one (.fix (.ptr 3 0))), (10, .one (.kd (.own false 17 sEntry)))], [[.fix (.undef), .kd (.view false (.list sEntry))], [.kd (.val sOp)], [.kd (.val sTree)], [.kd (.own false 5 sNode)]]⟩)]), (4049, .loop ⟨[(4, .one (.fix (.ptr 2 0))), (6, .one (.fix (.ptr 3 0))), (8, .one (.kd (.view false (.list sEntry)))), (62, .one (.kd (.val sI))), (63, .one (.kd (.val sI)))], [[.fix (.undef), .kd (.view false (.list sEntry))], [.kd (.val sOp)], [.kd (.val sTree)], [.kd (.own false 5 sNode)]]⟩ [(.exit 0, ⟨[(4, .one (.fix (.ptr 2 0)))], [[.fix (.undef), .kd (.view false (.list sEntry))], [.kd (.val sOp)], [.kd (.val sTree)], [.kd (.own false 5 sNode)]]⟩)])]
noncomputable def S_11 : Spec := specK ti_11 to_11 tree_Put
abbrev ti_12 : Tm := ⟨[(0, .one (.kd (.val sTree)))], []⟩
abbrev to_12 : Tm := ⟨[(0, .agg [.kd (.own false 5 sNode), .kd (.own false 17 sEntry)])], []⟩
def an_12 : List (Nat × Ann) := [(57, .loop ⟨[(1, .one (.fix (.ptr 0 0))), (2, .one (.fix (.ptr 1 0))), (14, .one (.kd (.val sI))), (15, .one (.kd (.val sI)))], [[.kd (.own false 5 sNode), .kd (.own false 17 sEntry)], [.kd (.val sTree)]]⟩ [(.exit 0, ⟨[(1, .one (.fix (.ptr 0 0))), (2, .one (.fix (.ptr 1 0)))], [[.kd (.own false 5 sNode), .kd (.own false 17 sEntry)], [.kd (.val sTree)]]⟩)])]
noncomputable def S_12 : Spec := specK ti_12 to_12 tree_Own
abbrev ti_5 : Tm := ⟨[(0, .one (.kd (.val sTree))), (1, .one (.kd (.val sOp)))], []⟩
abbrev to_5 : Tm := ⟨[(0, .one (.kd (.val sTree))), (1, .one (.kd (.val sI)))], []⟩
def an_5 : List (Nat × Ann) := [(11, .join [(13, .bool)])]
noncomputable def S_5 : Spec := specO ti_5.gs (kinds to_5.gs) tree_Apply
abbrev ti_6 : Tm := ⟨[(0, .one (.kd (.val sI)))], []⟩
abbrev to_6 : Tm := ⟨[(0, .one (.kd (.val sI)))], []⟩
def an_6 : List (Nat × Ann) := []
noncomputable def S_6 : Spec := specT ti_6.gs (kinds to_6.gs) arraslaw16_num
abbrev ti_13 : Tm := ⟨[], []⟩
abbrev to_13 : Tm := ⟨[(0, .one (.kd (.val sOp)))], []⟩
def an_13 : List (Nat × Ann) := []
noncomputable def S_13 : Spec := specT ti_13.gs (kinds to_13.gs) arraslaw10_O
abbrev ti_24 : Tm := ⟨[(0, .one (.kd (.val sTree))), (1, .one (.kd (.val sStamp)))], []⟩
abbrev to_24 : Tm := ⟨[(0, .one (.kd (.val (.list sNode))))], []⟩
def an_24 : List (Nat × Ann) := [(25, .loop ⟨[(3, .one (.fix (.ptr 1 0))), (4, .one (.kd (.own false 5 sNode))), (8, .one (.kd (.val (.list sNode)))), (9, .one (.kd (.val sI))), (10, .one (.kd (.val sI)))], [[.kd (.val sTree)], [.kd (.val sStamp)]]⟩ [(.exit 0, ⟨[(4, .one (.kd (.own false 5 sNode)))], [[.kd (.val sTree)], [.kd (.val sStamp)]]⟩)])]
noncomputable def S_24 : Spec := specO ti_24.gs (kinds to_24.gs) tree_Children
abbrev ti_14 : Tm := ⟨[(0, .one (.kd (.val sTree))), (1, .one (.kd (.val sStamp)))], []⟩
abbrev to_14 : Tm := ⟨[(0, .one (.kd (.val (.list sStamp)))), (1, .one (.kd (.val sI)))], []⟩
def an_14 : List (Nat × Ann) := [(57, .loop ⟨[(4, .one (.kd (.own false 2 sStamp))), (13, .one (.kd (.val (.list sNode)))), (14, .one (.kd (.val sI))), (15, .one (.kd (.val sI)))], [[.kd (.val sTree)], [.kd (.val sStamp)]]⟩ [(.exit 0, ⟨[(4, .one (.kd (.own false 2 sStamp)))], [[.kd (.val sTree)], [.kd (.val sStamp)]]⟩)])]
noncomputable def S_14 : Spec := specO ti_14.gs (kinds to_14.gs) tree_Kids
abbrev ti_8 : Tm := ⟨[], []⟩
abbrev to_8 : Tm := ⟨[(0, .one (.kd (.val .bool)))], []⟩
def an_8 : List (Nat × Ann) := [(29, .join [(0, .bool)])]
noncomputable def S_8 : Spec := specO ti_8.gs (kinds to_8.gs) arraslaw16_wakes
abbrev ti_3 : Tm := ⟨[(0, .one (.kd (.val sScript_arraslaw16)))], []⟩
abbrev to_3 : Tm := ⟨[(0, .one (.kd (.val .bool)))], []⟩
def an_3 : List (Nat × Ann) := [(121, .loop ⟨[(1, .one (.fix (.ptr 0 0))), (3, .one (.kd (.val (.list sOp)))), (4, .one (.fix (.ptr 1 0))), (5, .one (.kd (.val sI)))], [[.kd (.val sScript_arraslaw16)], [.kd (.val sTree)]]⟩ [(.exit 0, ⟨[(1, .one (.fix (.ptr 0 0))), (3, .one (.kd (.val (.list sOp)))), (4, .one (.fix (.ptr 1 0)))], [[.kd (.val sScript_arraslaw16)], [.kd (.val sTree)]]⟩), (.ret, ⟨[(2, .one (.kd (.val .bool)))], []⟩)]), (2043, .join [(96, .bool)]), (4091, .join [(136, .bool)]), (8189, .join [(2, .bool)])]
noncomputable def S_3 : Spec := specO ti_3.gs (kinds to_3.gs) arraslaw16_TreeLate
theorem k_21 : SpecOk KS 21 S_21 := cloneS_ok (zero := [.int .i64 0, .int .i64 0, .int .i64 0, .nils, .int .i64 0, .int .i64 0, .int .i64 0, .int .i64 0, .int .i64 0, .str ⟨#[]⟩, .int .i64 0, .int .i64 0, .bool false, .int .i64 0, .int .i64 0, .str ⟨#[]⟩, .bool false]) (by kernel_rfl) rfl rfl
theorem k_22 : SpecOk KS 22 S_22 := cloneS_ok (zero := [.int .i64 0, .int .i64 0, .int .i64 0, .int .i64 0, .str ⟨#[]⟩]) (by kernel_rfl) rfl rfl
theorem k_29 : SpecOk KS 29 S_29 := insertS_ok rfl
theorem k_33 : SpecOk KS 33 S_33 := deleteS_ok (tb0 := tb0) (zero := [.int .i64 0, .int .i64 0, .int .i64 0, .int .i64 0, .str ⟨#[]⟩]) rfl (by kernel_rfl) rfl (by decide)
theorem k_34 : SpecOk KS 34 S_34 := cloneS_ok (zero := [.int .i64 0]) (by kernel_rfl) rfl rfl
theorem k0_51 : SpecOk (calls tb0 (ex tb0)) 51 S_51 := cmpStrS_ok rfl
theorem e0_37 (x : St ti_37) : (symF tb0 (spOf []) 37 (anOf an_37) 1000 ti_37 to_37 x).sem = cmp_Or_int x := by kernel_rfl
theorem k0_37 : SpecOk (calls tb0 (ex tb0)) 37 S_37 := plugO (f := 37) (an := anOf an_37) (fuel := 1000) (ti := ti_37) (to := to_37) (F := cmp_Or_int) (specsOk_nil) ⟨rfl, by kernel_rfl, by kernel_rfl, rfl, by kernel_rfl, by kernel_rfl⟩ (by kernel_rfl) rfl e0_37
theorem e_37 (x : St ti_37) : (symF tbS (spOf []) 37 (anOf an_37) 1000 ti_37 to_37 x).sem = cmp_Or_int x := by kernel_rfl
theorem k_37 : SpecOk KS 37 S_37 := plugO (f := 37) (an := anOf an_37) (fuel := 1000) (ti := ti_37) (to := to_37) (F := cmp_Or_int) (specsOk_nil) ⟨rfl, by kernel_rfl, by kernel_rfl, rfl, by kernel_rfl, by kernel_rfl⟩ (by kernel_rfl) rfl e_37
theorem se0_52 (x : St ti_52) : (symF tb0 (spOf []) 52 (anOf an_52) 1000 ti_52 to_52 x).sure = true := by kernel_rfl
theorem e0_52 (x : St ti_52) (d : St to_52) : (symF tb0 (spOf []) 52 (anOf an_52) 1000 ti_52 to_52 x).pick d = cmp_isNaN_int x := by kernel_rfl
theorem k0_52 : SpecOk (calls tb0 (ex tb0)) 52 S_52 := plugT (f := 52) (an := anOf an_52) (fuel := 1000) (ti := ti_52) (to := to_52) (F := cmp_isNaN_int) (specsOk_nil) ⟨rfl, by kernel_rfl, by kernel_rfl, rfl, by kernel_rfl, by kernel_rfl⟩ (by kernel_rfl) rfl se0_52 e0_52
theorem se_52 (x : St ti_52) : (symF tbS (spOf []) 52 (anOf an_52) 1000 ti_52 to_52 x).sure = true := by kernel_rfl
theorem e_52 (x : St ti_52) (d : St to_52) : (symF tbS (spOf []) 52 (anOf an_52) 1000 ti_52 to_52 x).pick d = cmp_isNaN_int x := by kernel_rfl
theorem k_52 : SpecOk KS 52 S_52 := plugT (f := 52) (an := anOf an_52) (fuel := 1000) (ti := ti_52) (to := to_52) (F := cmp_isNaN_int) (specsOk_nil) ⟨rfl, by kernel_rfl, by kernel_rfl, rfl, by kernel_rfl, by kernel_rfl⟩ (by kernel_rfl) rfl se_52 e_52
theorem se0_39 (x : St ti_39) : (symF tb0 (spOf [(52, S_52)]) 39 (anOf an_39) 1000 ti_39 to_39 x).sure = true := by kernel_rfl
theorem e0_39 (x : St ti_39) (d : St to_39) : (symF tb0 (spOf [(52, S_52)]) 39 (anOf an_39) 1000 ti_39 to_39 x).pick d = cmp_Compare_int x := by kernel_rfl
theorem k0_39 : SpecOk (calls tb0 (ex tb0)) 39 S_39 := plugT (f := 39) (an := anOf an_39) (fuel := 1000) (ti := ti_39) (to := to_39) (F := cmp_Compare_int) (specsOk_cons k0_52 (specsOk_nil)) ⟨rfl, by kernel_rfl, by kernel_rfl, rfl, by kernel_rfl, by kernel_rfl⟩ (by kernel_rfl) rfl se0_39 e0_39
theorem se_39 (x : St ti_39) : (symF tbS (spOf [(52, S_52)]) 39 (anOf an_39) 1000 ti_39 to_39 x).sure = true := by kernel_rfl
theorem e_39 (x : St ti_39) (d : St to_39) : (symF tbS (spOf [(52, S_52)]) 39 (anOf an_39) 1000 ti_39 to_39 x).pick d = cmp_Compare_int x := by kernel_rfl
theorem k_39 : SpecOk KS 39 S_39 := plugT (f := 39) (an := anOf an_39) (fuel := 1000) (ti := ti_39) (to := to_39) (F := cmp_Compare_int) (specsOk_cons k_52 (specsOk_nil)) ⟨rfl, by kernel_rfl, by kernel_rfl, rfl, by kernel_rfl, by kernel_rfl⟩ (by kernel_rfl) rfl se_39 e_39
theorem e0_25 (x : St ti_25) : (symF tb0 (spOf [(37, S_37), (39, S_39)]) 25 (anOf an_25) 1000 ti_25 to_25 x).sem = stamp_Cmp x := by kernel_rfl
theorem k0_25 : SpecOk (calls tb0 (ex tb0)) 25 S_25 := plugO (f := 25) (an := anOf an_25) (fuel := 1000) (ti := ti_25) (to := to_25) (F := stamp_Cmp) (specsOk_cons k0_37 (specsOk_cons k0_39 (specsOk_nil))) ⟨rfl, by kernel_rfl, by kernel_rfl, rfl, by kernel_rfl, by kernel_rfl⟩ (by kernel_rfl) rfl e0_25
theorem e_25 (x : St ti_25) : (symF tbS (spOf [(37, S_37), (39, S_39)]) 25 (anOf an_25) 1000 ti_25 to_25 x).sem = stamp_Cmp x := by kernel_rfl
theorem k_25 : SpecOk KS 25 S_25 := plugO (f := 25) (an := anOf an_25) (fuel := 1000) (ti := ti_25) (to := to_25) (F := stamp_Cmp) (specsOk_cons k_37 (specsOk_cons k_39 (specsOk_nil))) ⟨rfl, by kernel_rfl, by kernel_rfl, rfl, by kernel_rfl, by kernel_rfl⟩ (by kernel_rfl) rfl e_25
theorem se0_38 (x : St ti_38) : (symF tb0 (spOf [(51, S_51)]) 38 (anOf an_38) 1000 ti_38 to_38 x).sure = true := by kernel_rfl
theorem e0_38 (x : St ti_38) (d : St to_38) : (symF tb0 (spOf [(51, S_51)]) 38 (anOf an_38) 1000 ti_38 to_38 x).pick d = strings_Compare x := by kernel_rfl
theorem k0_38 : SpecOk (calls tb0 (ex tb0)) 38 S_38 := plugT (f := 38) (an := anOf an_38) (fuel := 1000) (ti := ti_38) (to := to_38) (F := strings_Compare) (specsOk_cons k0_51 (specsOk_nil)) ⟨rfl, by kernel_rfl, by kernel_rfl, rfl, by kernel_rfl, by kernel_rfl⟩ (by kernel_rfl) rfl se0_38 e0_38
theorem e0_36 (x : St ti_36) : (symF tb0 (spOf [(25, S_25), (37, S_37), (38, S_38)]) 36 (anOf an_36) 1000 ti_36 to_36 x).sem = tree_Children_1 x := by kernel_rfl
theorem k0_36 : SpecOk (calls tb0 (ex tb0)) 36 S_36 := plugO (f := 36) (an := anOf an_36) (fuel := 1000) (ti := ti_36) (to := to_36) (F := tree_Children_1) (specsOk_cons k0_25 (specsOk_cons k0_37 (specsOk_cons k0_38 (specsOk_nil)))) ⟨rfl, by kernel_rfl, by kernel_rfl, rfl, by kernel_rfl, by kernel_rfl⟩ (by kernel_rfl) rfl e0_36
theorem k_35 : SpecOk KS 35 S_35 := sortS_ok rfl swo_slices_SortFunc_Node rfl
theorem e_42 (x : St ti_42) : (symF tbS (spOf [(25, S_25)]) 42 (anOf an_42) 1000 ti_42 to_42 x).sem = tree_find_1 x := by kernel_rfl
theorem k_42 : SpecOk KS 42 S_42 := plugO (f := 42) (an := anOf an_42) (fuel := 1000) (ti := ti_42) (to := to_42) (F := tree_find_1) (specsOk_cons k_25 (specsOk_nil)) ⟨rfl, by kernel_rfl, by kernel_rfl, rfl, by kernel_rfl, by kernel_rfl⟩ (by kernel_rfl) rfl e_42
theorem e_41 (x : St ti_41) : (symF tbS (spOf [(42, S_42)]) 41 (anOf an_41) 1000 ti_41 to_41 x).sem = slices_BinarySearchFunc_Node_Stamp x := by kernel_rfl
theorem k_41 : SpecOk KS 41 S_41 := plugO (f := 41) (an := anOf an_41) (fuel := 1000) (ti := ti_41) (to := to_41) (F := slices_BinarySearchFunc_Node_Stamp) (specsOk_cons k_42 (specsOk_nil)) ⟨rfl, by kernel_rfl, by kernel_rfl, rfl, by kernel_rfl, by kernel_rfl⟩ (by kernel_rfl) rfl e_41
theorem e_28 (x : St ti_28) : (symF tbS (spOf [(41, S_41)]) 28 (anOf an_28) 1000 ti_28 to_28 x).sem = tree_find x := by kernel_rfl
theorem k_28 : SpecOk KS 28 S_28 := plugO (f := 28) (an := anOf an_28) (fuel := 1000) (ti := ti_28) (to := to_28) (F := tree_find) (specsOk_cons k_41 (specsOk_nil)) ⟨rfl, by kernel_rfl, by kernel_rfl, rfl, by kernel_rfl, by kernel_rfl⟩ (by kernel_rfl) rfl e_28
theorem se_7 (x : St ti_7) : (symF tbS (spOf []) 7 (anOf an_7) 1000 ti_7 to_7 x).sure = true := by kernel_rfl
theorem e_7 (x : St ti_7) (d : St to_7) : (symF tbS (spOf []) 7 (anOf an_7) 1000 ti_7 to_7 x).pick d = arraslaw16_move x := by kernel_rfl
theorem k_7 : SpecOk KS 7 S_7 := plugT (f := 7) (an := anOf an_7) (fuel := 1000) (ti := ti_7) (to := to_7) (F := arraslaw16_move) (specsOk_nil) ⟨rfl, by kernel_rfl, by kernel_rfl, rfl, by kernel_rfl, by kernel_rfl⟩ (by kernel_rfl) rfl se_7 e_7
theorem e_4 (x : St ti_4) : (symF tbS (spOf [(7, S_7)]) 4 (anOf an_4) 1000 ti_4 to_4 x).sem = arraslaw16_made x := by kernel_rfl
theorem k_4 : SpecOk KS 4 S_4 := plugO (f := 4) (an := anOf an_4) (fuel := 1000) (ti := ti_4) (to := to_4) (F := arraslaw16_made) (specsOk_cons k_7 (specsOk_nil)) ⟨rfl, by kernel_rfl, by kernel_rfl, rfl, by kernel_rfl, by kernel_rfl⟩ (by kernel_rfl) rfl e_4
theorem se_30 (x : St ti_30) : (symF tbS (spOf []) 30 (anOf an_30) 1000 ti_30 to_30 x).sure = true := by kernel_rfl
theorem e_30 (x : St ti_30) (d : St to_30) : (symF tbS (spOf []) 30 (anOf an_30) 1000 ti_30 to_30 x).pick d = stamp_Is x := by kernel_rfl
theorem k_30 : SpecOk KS 30 S_30 := plugT (f := 30) (an := anOf an_30) (fuel := 1000) (ti := ti_30) (to := to_30) (F := stamp_Is) (specsOk_nil) ⟨rfl, by kernel_rfl, by kernel_rfl, rfl, by kernel_rfl, by kernel_rfl⟩ (by kernel_rfl) rfl se_30 e_30
theorem e_31 (x : St ti_31) : (symF tbS (spOf []) 31 (anOf an_31) 1000 ti_31 to_31 x).sem = have_Is x := by kernel_rfl
theorem k_31 : SpecOk KS 31 S_31 := plugO (f := 31) (an := anOf an_31) (fuel := 1000) (ti := ti_31) (to := to_31) (F := have_Is) (specsOk_nil) ⟨rfl, by kernel_rfl, by kernel_rfl, rfl, by kernel_rfl, by kernel_rfl⟩ (by kernel_rfl) rfl e_31
theorem se_48 (x : St ti_48) : (symF tbS (spOf []) 48 (anOf an_48) 1000 ti_48 to_48 x).sure = true := by kernel_rfl
theorem e_48 (x : St ti_48) (d : St to_48) : (symF tbS (spOf []) 48 (anOf an_48) 1000 ti_48 to_48 x).pick d = stamp_Root x := by kernel_rfl
theorem k_48 : SpecOk KS 48 S_48 := plugT (f := 48) (an := anOf an_48) (fuel := 1000) (ti := ti_48) (to := to_48) (F := stamp_Root) (specsOk_nil) ⟨rfl, by kernel_rfl, by kernel_rfl, rfl, by kernel_rfl, by kernel_rfl⟩ (by kernel_rfl) rfl se_48 e_48
theorem se_54 (x : St ti_54) : (symF tbS (spOf []) 54 (anOf an_54) 1000 ti_54 to_54 x).sure = true := by kernel_rfl
theorem e_54 (x : St ti_54) (d : St to_54) : (symF tbS (spOf []) 54 (anOf an_54) 1000 ti_54 to_54 x).pick d = stamp_Trash x := by kernel_rfl
theorem k_54 : SpecOk KS 54 S_54 := plugT (f := 54) (an := anOf an_54) (fuel := 1000) (ti := ti_54) (to := to_54) (F := stamp_Trash) (specsOk_nil) ⟨rfl, by kernel_rfl, by kernel_rfl, rfl, by kernel_rfl, by kernel_rfl⟩ (by kernel_rfl) rfl se_54 e_54
theorem se_45 (x : St ti_45) : (symF tbS (spOf [(30, S_30), (48, S_48), (54, S_54)]) 45 (anOf an_45) 1000 ti_45 to_45 x).sure = true := by kernel_rfl
theorem e_45 (x : St ti_45) (d : St to_45) : (symF tbS (spOf [(30, S_30), (48, S_48), (54, S_54)]) 45 (anOf an_45) 1000 ti_45 to_45 x).pick d = stamp_Place x := by kernel_rfl
theorem k_45 : SpecOk KS 45 S_45 := plugT (f := 45) (an := anOf an_45) (fuel := 1000) (ti := ti_45) (to := to_45) (F := stamp_Place) (specsOk_cons k_30 (specsOk_cons k_48 (specsOk_cons k_54 (specsOk_nil)))) ⟨rfl, by kernel_rfl, by kernel_rfl, rfl, by kernel_rfl, by kernel_rfl⟩ (by kernel_rfl) rfl se_45 e_45
theorem e_46 (x : St ti_46) : (symF tbS (spOf []) 46 (anOf an_46) 1000 ti_46 to_46 x).sem = key_Is x := by kernel_rfl
theorem k_46 : SpecOk KS 46 S_46 := plugO (f := 46) (an := anOf an_46) (fuel := 1000) (ti := ti_46) (to := to_46) (F := key_Is) (specsOk_nil) ⟨rfl, by kernel_rfl, by kernel_rfl, rfl, by kernel_rfl, by kernel_rfl⟩ (by kernel_rfl) rfl e_46
theorem se_55 (x : St ti_55) : (symF tbS (spOf []) 55 (anOf an_55) 1000 ti_55 to_55 x).sure = true := by kernel_rfl
theorem e_55 (x : St ti_55) (d : St to_55) : (symF tbS (spOf []) 55 (anOf an_55) 1000 ti_55 to_55 x).pick d = prop_Is x := by kernel_rfl
theorem k_55 : SpecOk KS 55 S_55 := plugT (f := 55) (an := anOf an_55) (fuel := 1000) (ti := ti_55) (to := to_55) (F := prop_Is) (specsOk_nil) ⟨rfl, by kernel_rfl, by kernel_rfl, rfl, by kernel_rfl, by kernel_rfl⟩ (by kernel_rfl) rfl se_55 e_55
theorem e_56 (x : St ti_56) : (symF tbS (spOf []) 56 (anOf an_56) 1000 ti_56 to_56 x).sem = prop_ruleOf x := by kernel_rfl
theorem k_56 : SpecOk KS 56 S_56 := plugO (f := 56) (an := anOf an_56) (fuel := 1000) (ti := ti_56) (to := to_56) (F := prop_ruleOf) (specsOk_nil) ⟨rfl, by kernel_rfl, by kernel_rfl, rfl, by kernel_rfl, by kernel_rfl⟩ (by kernel_rfl) rfl e_56
theorem e_47 (x : St ti_47) : (symF tbS (spOf [(55, S_55), (56, S_56)]) 47 (anOf an_47) 1000 ti_47 to_47 x).sem = prop_May x := by kernel_rfl
theorem k_47 : SpecOk KS 47 S_47 := plugO (f := 47) (an := anOf an_47) (fuel := 1000) (ti := ti_47) (to := to_47) (F := prop_May) (specsOk_cons k_55 (specsOk_cons k_56 (specsOk_nil))) ⟨rfl, by kernel_rfl, by kernel_rfl, rfl, by kernel_rfl, by kernel_rfl⟩ (by kernel_rfl) rfl e_47
theorem e_32 (x : St ti_32) : (symF tbS (spOf [(45, S_45), (46, S_46), (47, S_47), (48, S_48)]) 32 (anOf an_32) 1000 ti_32 to_32 x).sem = op_kind x := by kernel_rfl
theorem k_32 : SpecOk KS 32 S_32 := plugO (f := 32) (an := anOf an_32) (fuel := 1000) (ti := ti_32) (to := to_32) (F := op_kind) (specsOk_cons k_45 (specsOk_cons k_46 (specsOk_cons k_47 (specsOk_cons k_48 (specsOk_nil))))) ⟨rfl, by kernel_rfl, by kernel_rfl, rfl, by kernel_rfl, by kernel_rfl⟩ (by kernel_rfl) rfl e_32
theorem e_19 (x : St ti_19) : (symF tbS (spOf [(30, S_30), (31, S_31), (32, S_32)]) 19 (anOf an_19) 1000 ti_19 to_19 x).sem = op_May x := by kernel_rfl
theorem k_19 : SpecOk KS 19 S_19 := plugO (f := 19) (an := anOf an_19) (fuel := 1000) (ti := ti_19) (to := to_19) (F := op_May) (specsOk_cons k_30 (specsOk_cons k_31 (specsOk_cons k_32 (specsOk_nil)))) ⟨rfl, by kernel_rfl, by kernel_rfl, rfl, by kernel_rfl, by kernel_rfl⟩ (by kernel_rfl) rfl e_19
theorem e_10 (x : St ti_10) : (symF tbS (spOf [(19, S_19)]) 10 (anOf an_10) 1000 ti_10 to_10 x).sem = tree_move x := by kernel_rfl
theorem k_10 : SpecOk KS 10 S_10 := plugO (f := 10) (an := anOf an_10) (fuel := 1000) (ti := ti_10) (to := to_10) (F := tree_move) (specsOk_cons k_19 (specsOk_nil)) ⟨rfl, by kernel_rfl, by kernel_rfl, rfl, by kernel_rfl, by kernel_rfl⟩ (by kernel_rfl) rfl e_10
theorem e_15 (x : St ti_15) : (symF tbS (spOf [(25, S_25)]) 15 (anOf an_15) 1000 ti_15 to_15 x).sem = op_Less x := by kernel_rfl
theorem k_15 : SpecOk KS 15 S_15 := plugO (f := 15) (an := anOf an_15) (fuel := 1000) (ti := ti_15) (to := to_15) (F := op_Less) (specsOk_cons k_25 (specsOk_nil)) ⟨rfl, by kernel_rfl, by kernel_rfl, rfl, by kernel_rfl, by kernel_rfl⟩ (by kernel_rfl) rfl e_15
theorem e_40 (x : St ti_40) : (symF tbS (spOf []) 40 (anOf an_40) 1000 ti_40 to_40 x).sem = slices_Equal_int x := by kernel_rfl
theorem k_40 : SpecOk KS 40 S_40 := plugO (f := 40) (an := anOf an_40) (fuel := 1000) (ti := ti_40) (to := to_40) (F := slices_Equal_int) (specsOk_nil) ⟨rfl, by kernel_rfl, by kernel_rfl, rfl, by kernel_rfl, by kernel_rfl⟩ (by kernel_rfl) rfl e_40
theorem e_26 (x : St ti_26) : (symF tbS (spOf [(40, S_40)]) 26 (anOf an_26) 1000 ti_26 to_26 x).sem = op_Same x := by kernel_rfl
theorem k_26 : SpecOk KS 26 S_26 := plugO (f := 26) (an := anOf an_26) (fuel := 1000) (ti := ti_26) (to := to_26) (F := op_Same) (specsOk_cons k_40 (specsOk_nil)) ⟨rfl, by kernel_rfl, by kernel_rfl, rfl, by kernel_rfl, by kernel_rfl⟩ (by kernel_rfl) rfl e_26
theorem e_16 (x : St ti_16) : (symF tbS (spOf [(26, S_26)]) 16 (anOf an_16) 1000 ti_16 to_16 x).sem = tree_same x := by kernel_rfl
theorem k_16 : SpecOk KS 16 S_16 := plugO (f := 16) (an := anOf an_16) (fuel := 1000) (ti := ti_16) (to := to_16) (F := tree_same) (specsOk_cons k_26 (specsOk_nil)) ⟨rfl, by kernel_rfl, by kernel_rfl, rfl, by kernel_rfl, by kernel_rfl⟩ (by kernel_rfl) rfl e_16
theorem e_23 (x : St ti_23) : (symF tbS (spOf [(34, S_34)]) 23 (anOf an_23) 1000 ti_23 to_23 x).sem = op_Own x := by kernel_rfl
theorem k_23 : SpecOk KS 23 S_23 := plugO (f := 23) (an := anOf an_23) (fuel := 1000) (ti := ti_23) (to := to_23) (F := op_Own) (specsOk_cons k_34 (specsOk_nil)) ⟨rfl, by kernel_rfl, by kernel_rfl, rfl, by kernel_rfl, by kernel_rfl⟩ (by kernel_rfl) rfl e_23
theorem e_27 (x : St ti_27) : (symF tbS (spOf [(28, S_28)]) 27 (anOf an_27) 1000 ti_27 to_27 x).sem = tree_work_circle x := by kernel_rfl
theorem k_27 : SpecOk KS 27 S_27 := plugO (f := 27) (an := anOf an_27) (fuel := 1000) (ti := ti_27) (to := to_27) (F := tree_work_circle) (specsOk_cons k_28 (specsOk_nil)) ⟨rfl, by kernel_rfl, by kernel_rfl, rfl, by kernel_rfl, by kernel_rfl⟩ (by kernel_rfl) rfl e_27
theorem e_17 (x : St ti_17) : (symF tbS (spOf [(23, S_23), (27, S_27), (28, S_28), (29, S_29)]) 17 (anOf an_17) 1000 ti_17 to_17 x).sem = tree_work_do x := by kernel_rfl
theorem k_17 : SpecOk KS 17 S_17 := plugK (f := 17) (an := an_17) (fuel := 1000) (ti := ti_17) (to := to_17) (F := tree_work_do) (specsOk_cons k_23 (specsOk_cons k_27 (specsOk_cons k_28 (specsOk_cons k_29 (specsOk_nil))))) ⟨by kernel_rfl, by kernel_rfl, by kernel_rfl, by kernel_rfl⟩ ⟨by kernel_rfl, by kernel_rfl, rfl, by kernel_rfl⟩ (by kernel_rfl) (by kernel_rfl) rfl e_17
theorem e_18 (x : St ti_18) : (symF tbS (spOf []) 18 (anOf an_18) 1000 ti_18 to_18 x).sem = slices_Equal_Node x := by kernel_rfl
theorem k_18 : SpecOk KS 18 S_18 := plugO (f := 18) (an := anOf an_18) (fuel := 1000) (ti := ti_18) (to := to_18) (F := slices_Equal_Node) (specsOk_nil) ⟨rfl, by kernel_rfl, by kernel_rfl, rfl, by kernel_rfl, by kernel_rfl⟩ (by kernel_rfl) rfl e_18
theorem e_9 (x : St ti_9) : (symF tbS (spOf [(10, S_10), (15, S_15), (16, S_16), (17, S_17), (18, S_18)]) 9 (anOf an_9) 1000 ti_9 to_9 x).sem = tree_May x := by kernel_rfl
theorem k_9 : SpecOk KS 9 S_9 := plugO (f := 9) (an := anOf an_9) (fuel := 1000) (ti := ti_9) (to := to_9) (F := tree_May) (specsOk_cons k_10 (specsOk_cons k_15 (specsOk_cons k_16 (specsOk_cons k_17 (specsOk_cons k_18 (specsOk_nil)))))) ⟨rfl, by kernel_rfl, by kernel_rfl, rfl, by kernel_rfl, by kernel_rfl⟩ (by kernel_rfl) rfl e_9
theorem e_20 (x : St ti_20) : (symF tbS (spOf [(28, S_28), (33, S_33)]) 20 (anOf an_20) 1000 ti_20 to_20 x).sem = tree_work_undo x := by kernel_rfl
theorem k_20 : SpecOk KS 20 S_20 := plugK (f := 20) (an := an_20) (fuel := 1000) (ti := ti_20) (to := to_20) (F := tree_work_undo) (specsOk_cons k_28 (specsOk_cons k_33 (specsOk_nil))) ⟨by kernel_rfl, by kernel_rfl, by kernel_rfl, by kernel_rfl⟩ ⟨by kernel_rfl, by kernel_rfl, rfl, by kernel_rfl⟩ (by kernel_rfl) (by kernel_rfl) rfl e_20
theorem e_11 (x : St ti_11) : (symF tbS (spOf [(15, S_15), (17, S_17), (20, S_20), (21, S_21)]) 11 (anOf an_11) 1000 ti_11 to_11 x).sem = tree_Put x := by kernel_rfl
theorem k_11 : SpecOk KS 11 S_11 := plugK (f := 11) (an := an_11) (fuel := 1000) (ti := ti_11) (to := to_11) (F := tree_Put) (specsOk_cons k_15 (specsOk_cons k_17 (specsOk_cons k_20 (specsOk_cons k_21 (specsOk_nil))))) ⟨by kernel_rfl, by kernel_rfl, by kernel_rfl, by kernel_rfl⟩ ⟨by kernel_rfl, by kernel_rfl, rfl, by kernel_rfl⟩ (by kernel_rfl) (by kernel_rfl) rfl e_11
theorem e_12 (x : St ti_12) : (symF tbS (spOf [(21, S_21), (22, S_22), (23, S_23)]) 12 (anOf an_12) 1000 ti_12 to_12 x).sem = tree_Own x := by kernel_rfl
theorem k_12 : SpecOk KS 12 S_12 := plugK (f := 12) (an := an_12) (fuel := 1000) (ti := ti_12) (to := to_12) (F := tree_Own) (specsOk_cons k_21 (specsOk_cons k_22 (specsOk_cons k_23 (specsOk_nil)))) ⟨by kernel_rfl, by kernel_rfl, by kernel_rfl, by kernel_rfl⟩ ⟨by kernel_rfl, by kernel_rfl, rfl, by kernel_rfl⟩ (by kernel_rfl) (by kernel_rfl) rfl e_12
theorem e_5 (x : St ti_5) : (symF tbS (spOf [(9, S_9), (10, S_10), (11, S_11), (12, S_12)]) 5 (anOf an_5) 1000 ti_5 to_5 x).sem = tree_Apply x := by kernel_rfl
theorem k_5 : SpecOk KS 5 S_5 := plugO (f := 5) (an := anOf an_5) (fuel := 1000) (ti := ti_5) (to := to_5) (F := tree_Apply) (specsOk_cons k_9 (specsOk_cons k_10 (specsOk_cons k_11 (specsOk_cons k_12 (specsOk_nil))))) ⟨rfl, by kernel_rfl, by kernel_rfl, rfl, by kernel_rfl, by kernel_rfl⟩ (by kernel_rfl) rfl e_5
theorem se_6 (x : St ti_6) : (symF tbS (spOf []) 6 (anOf an_6) 1000 ti_6 to_6 x).sure = true := by kernel_rfl
theorem e_6 (x : St ti_6) (d : St to_6) : (symF tbS (spOf []) 6 (anOf an_6) 1000 ti_6 to_6 x).pick d = arraslaw16_num x := by kernel_rfl
theorem k_6 : SpecOk KS 6 S_6 := plugT (f := 6) (an := anOf an_6) (fuel := 1000) (ti := ti_6) (to := to_6) (F := arraslaw16_num) (specsOk_nil) ⟨rfl, by kernel_rfl, by kernel_rfl, rfl, by kernel_rfl, by kernel_rfl⟩ (by kernel_rfl) rfl se_6 e_6
theorem se_13 (x : St ti_13) : (symF tbS (spOf []) 13 (anOf an_13) 1000 ti_13 to_13 x).sure = true := by kernel_rfl
theorem e_13 (x : St ti_13) (d : St to_13) : (symF tbS (spOf []) 13 (anOf an_13) 1000 ti_13 to_13 x).pick d = arraslaw10_O x := by kernel_rfl
theorem k_13 : SpecOk KS 13 S_13 := plugT (f := 13) (an := anOf an_13) (fuel := 1000) (ti := ti_13) (to := to_13) (F := arraslaw10_O) (specsOk_nil) ⟨rfl, by kernel_rfl, by kernel_rfl, rfl, by kernel_rfl, by kernel_rfl⟩ (by kernel_rfl) rfl se_13 e_13
theorem e_24 (x : St ti_24) : (symF tbS (spOf [(35, S_35)]) 24 (anOf an_24) 1000 ti_24 to_24 x).sem = tree_Children x := by kernel_rfl
theorem k_24 : SpecOk KS 24 S_24 := plugO (f := 24) (an := anOf an_24) (fuel := 1000) (ti := ti_24) (to := to_24) (F := tree_Children) (specsOk_cons k_35 (specsOk_nil)) ⟨rfl, by kernel_rfl, by kernel_rfl, rfl, by kernel_rfl, by kernel_rfl⟩ (by kernel_rfl) rfl e_24
theorem e_14 (x : St ti_14) : (symF tbS (spOf [(9, S_9), (24, S_24)]) 14 (anOf an_14) 1000 ti_14 to_14 x).sem = tree_Kids x := by kernel_rfl
theorem k_14 : SpecOk KS 14 S_14 := plugO (f := 14) (an := anOf an_14) (fuel := 1000) (ti := ti_14) (to := to_14) (F := tree_Kids) (specsOk_cons k_9 (specsOk_cons k_24 (specsOk_nil))) ⟨rfl, by kernel_rfl, by kernel_rfl, rfl, by kernel_rfl, by kernel_rfl⟩ (by kernel_rfl) rfl e_14
theorem e_8 (x : St ti_8) : (symF tbS (spOf [(5, S_5), (6, S_6), (13, S_13), (14, S_14)]) 8 (anOf an_8) 1000 ti_8 to_8 x).sem = arraslaw16_wakes x := by kernel_rfl
theorem k_8 : SpecOk KS 8 S_8 := plugO (f := 8) (an := anOf an_8) (fuel := 1000) (ti := ti_8) (to := to_8) (F := arraslaw16_wakes) (specsOk_cons k_5 (specsOk_cons k_6 (specsOk_cons k_13 (specsOk_cons k_14 (specsOk_nil))))) ⟨rfl, by kernel_rfl, by kernel_rfl, rfl, by kernel_rfl, by kernel_rfl⟩ (by kernel_rfl) rfl e_8
theorem e_3 (x : St ti_3) : (symF tbS (spOf [(4, S_4), (5, S_5), (6, S_6), (7, S_7), (8, S_8)]) 3 (anOf an_3) 1000 ti_3 to_3 x).sem = arraslaw16_TreeLate x := by kernel_rfl
theorem k_3 : SpecOk KS 3 S_3 := plugO (f := 3) (an := anOf an_3) (fuel := 1000) (ti := ti_3) (to := to_3) (F := arraslaw16_TreeLate) (specsOk_cons k_4 (specsOk_cons k_5 (specsOk_cons k_6 (specsOk_cons k_7 (specsOk_cons k_8 (specsOk_nil)))))) ⟨rfl, by kernel_rfl, by kernel_rfl, rfl, by kernel_rfl, by kernel_rfl⟩ (by kernel_rfl) rfl e_3
end Go.Dv
