/- What the code comes to: each function of the seat, by the engine. Printed by a tool (seat.py). -/
import Derived.Test.YtjjhppjdnbahjaaGreatProg
import Derived.Test.YtjjhppjdnbahjaaGreatDvI
import Derived.Test.YtjjhppjdnbahjaaGreatNat
import Derived.Test.YtjjhppjdnbahjaaGreatTrA
import Derived.Test.YtjjhppjdnbahjaaGreatScr
set_option linter.unusedVariables false
set_option linter.unusedSimpArgs false
set_option maxRecDepth 100000
open Go (IntKind)
namespace Go.Dv
noncomputable section
abbrev polS : Pol := ⟨[0, 1, 2, 3, 4, 5, 6, 7, 8, 9, 10, 11, 13, 14, 15, 16, 18, 19, 20, 22, 23, 24, 25, 26, 27, 28, 29, 30, 32, 33, 35, 36, 38, 39, 40, 42, 43, 44, 46, 47, 48, 51, 52, 53, 55, 56, 57, 58, 59, 61, 62, 63, 64, 65, 66, 67, 68, 69, 71, 74, 75, 76, 77, 78, 80, 81, 82, 84, 85, 87, 92, 93, 94, 95, 97, 99, 100, 101, 102, 103, 104, 105, 106, 107, 108, 113, 114, 115, 116, 117, 118, 119, 120, 121, 125, 126, 127, 128, 129, 130, 132, 133, 134, 135, 136, 137, 138, 139, 140, 141, 142, 143, 144, 145, 147, 148, 149, 150, 151, 152, 153, 154, 155, 156, 157, 158, 159, 161, 162, 163, 164, 165, 166, 167, 168, 169, 170, 171, 172, 173, 174, 175, 176, 177, 178, 179, 180, 181, 182, 183, 184, 185, 186, 187, 188, 189, 190, 191, 192, 193, 194, 195, 196, 197, 198, 199, 200, 201, 202, 203, 204, 205, 206, 207, 208, 209, 210] ++ [1000012, 1000034], fun f => ((([(70, [14]), (79, [16])] : List (Nat × List Nat)).lookup f).getD []), fun f => ((([(38, [34])] : List (Nat × List Nat)).lookup f).getD [])⟩
abbrev tb0 : Table := ⟨funOf Go.Proofs.Tryz.prog polS, fun f => List.lookup f [(159, cmpPrim)]⟩
abbrev tbS : Table := ⟨funOf Go.Proofs.Tryz.prog polS, fun f => List.lookup f [(109, u3n 3 40), (122, u3n 5 48), (123, u3K tb0 123), (125, u2W sNode u01 126), (146, u3n 4 32), (159, cmpPrim)]⟩
abbrev KS : Oracle := calls tbS (ex tbS)
abbrev vK (s : Sh) : G := .kd (.val s)
abbrev vS (s : Sh) : SG := .one (.kd (.val s))
abbrev pS (b o : Nat) : SG := .one (.fix (.ptr b o))
abbrev sy (l : List (Nat × Spec)) (f : FuncId) (an : List (Nat × Ann)) (ti to : Tm) (x : St ti) := (symF tbS (spOf l) f (anOf an) 1000 ti to x).sem
theorem sN : u0F KS (spOf []) := u08
theorem sC {f : FuncId} {s : Spec} {l : List (Nat × Spec)} (h : u00 KS f s) (t : u0F KS (spOf l)) : u0F KS (spOf ((f, s) :: l)) := u0c h t
theorem pO {l : List (Nat × Spec)} {f : FuncId} {an : List (Nat × Ann)} {ti to : Tm} {F : St ti → Option (St to)} (SO : u0F KS (spOf l)) (hF : ∀ x, sy l f an ti to x = F x) (S : QSig ti to := by exact ⟨rfl, by kernel_rfl, by kernel_rfl, rfl, by kernel_rfl, by kernel_rfl⟩) (hp : ((funOf Go.Proofs.Tryz.prog polS f).any DF.pure) = true := by kernel_rfl) (hr : tbS.prim f = none := by rfl) : u00 KS f (specO ti.gs (kinds to.gs) F) := plugO SO S hp hr hF
theorem pK {l : List (Nat × Spec)} {f : FuncId} {an : List (Nat × Ann)} {ti to : Tm} {F : St ti → Option (St to)} (SO : u0F KS (spOf l)) (hF : ∀ x, sy l f an ti to x = F x) (KI : KIn ti := by exact ⟨by kernel_rfl, by kernel_rfl, by kernel_rfl, by kernel_rfl⟩) (KO : KOut ti to := by exact ⟨by kernel_rfl, by kernel_rfl, rfl, by kernel_rfl⟩) (AN : annsN ti.boxes.length an = true := by kernel_rfl) (hp : ((funOf Go.Proofs.Tryz.prog polS f).any (fun d => !d.pure)) = true := by kernel_rfl) (hr : tbS.prim f = none := by rfl) (NW : ∀ (f : FuncId) (s : Sh), spOf l f ≠ some (.w s) := by exact noW_of rfl) : u00 KS f (specK ti to F) := plugK SO KI KO AN hp hr hF NW
def S_37 : Spec := .w sShape
def S_89 : Spec := cloneS 17 168
def S_90 : Spec := cloneS 5 48
def S_109 : Spec := insertS 3 40
def S_111 : Spec := cloneS 3 40
def S_112 : Spec := cloneS 4 32
def S_122 : Spec := insertS 5 48
def S_123 : Spec := deleteS 5 48
def S_124 : Spec := cloneS 1 8
def S_125 : Spec := specI 5 sNode [.fn 126 []] u25
def S_146 : Spec := insertS 4 32
def S_159 : Spec := cmpStrS
abbrev ti_127 : Tm := ⟨[(0, vS (.list sI))], []⟩
abbrev to_127 : Tm := ⟨[(0, vS sI)], []⟩
def an_127 : List (Nat × Ann) := [(57, .loop ⟨[(3, vS sI), (6, vS (.list sI)), (7, vS sI), (8, vS sI)], []⟩ [(.exit 0, ⟨[(3, vS sI)], []⟩), (.ret, ⟨[(2, vS sI)], []⟩)])]
def S_127 : Spec := specO ti_127.gs (kinds to_127.gs) u2n
abbrev u3V : Tm := ⟨[(0, vS sI)], []⟩
abbrev u4O : Tm := ⟨[(0, vS .bool)], []⟩
def an_171 : List (Nat × Ann) := []
def S_171 : Spec := specT u3V.gs (kinds u4O.gs) cmp_isNaN_int
abbrev u3W : Tm := ⟨[(0, vS sI), (1, vS sI)], []⟩
abbrev u4P : Tm := ⟨[(0, vS sI)], []⟩
def an_151 : List (Nat × Ann) := []
def S_151 : Spec := specT u3W.gs (kinds u4P.gs) u0r
abbrev ti_118 : Tm := ⟨[(0, vS u05), (1, vS u05)], []⟩
abbrev to_118 : Tm := ⟨[(0, vS sI)], []⟩
def an_118 : List (Nat × Ann) := []
def S_118 : Spec := specO ti_118.gs (kinds to_118.gs) u1G
abbrev ti_128 : Tm := ⟨[(0, vS .str), (1, vS .str)], []⟩
abbrev to_128 : Tm := ⟨[(0, vS sI)], []⟩
def an_128 : List (Nat × Ann) := []
def S_128 : Spec := specT ti_128.gs (kinds to_128.gs) u1Q
abbrev ti_126 : Tm := ⟨[(0, vS sNode), (1, vS sNode)], []⟩
abbrev to_126 : Tm := ⟨[(0, vS sI)], []⟩
def an_126 : List (Nat × Ann) := []
def S_126 : Spec := specO ti_126.gs (kinds to_126.gs) u0J
abbrev ti_154 : Tm := ⟨[(0, vS sNode), (1, vS u05)], []⟩
abbrev to_154 : Tm := ⟨[(0, vS sI)], []⟩
def an_154 : List (Nat × Ann) := []
def S_154 : Spec := specO ti_154.gs (kinds to_154.gs) u2D
abbrev ti_153 : Tm := ⟨[(0, vS (.list sNode)), (1, vS u05), (2, .one (.fix (.fn 154 [])))], []⟩
abbrev to_153 : Tm := ⟨[(0, vS sI), (1, vS .bool)], []⟩
def an_153 : List (Nat × Ann) := [(59, .loop ⟨[(0, vS (.list sNode)), (2, .one (.fix (.fn 154 []))), (4, pS 0 0), (8, vS sI), (9, vS sI), (10, vS sI)], [[vK u05]]⟩ [(.exit 0, ⟨[(0, vS (.list sNode)), (2, .one (.fix (.fn 154 []))), (4, pS 0 0), (8, vS sI), (9, vS sI)], [[vK u05]]⟩)]), (61, .join [(6, sI), (7, .bool)])]
def S_153 : Spec := specO ti_153.gs (kinds to_153.gs) u0g
abbrev ti_121 : Tm := ⟨[(0, vS (.list sNode)), (1, vS u05)], []⟩
abbrev to_121 : Tm := ⟨[(0, vS sI), (1, vS .bool)], []⟩
def an_121 : List (Nat × Ann) := []
def S_121 : Spec := specO ti_121.gs (kinds to_121.gs) u2Q
abbrev ti_142 : Tm := ⟨[(0, vS sLook), (1, vS u05)], []⟩
abbrev to_142 : Tm := ⟨[(0, vS sI)], []⟩
def an_142 : List (Nat × Ann) := []
def S_142 : Spec := specO ti_142.gs (kinds to_142.gs) u2j
abbrev ti_141 : Tm := ⟨[(0, vS (.list sLook)), (1, vS u05), (2, .one (.fix (.fn 142 [])))], []⟩
abbrev to_141 : Tm := ⟨[(0, vS sI), (1, vS .bool)], []⟩
def an_141 : List (Nat × Ann) := [(59, .loop ⟨[(0, vS (.list sLook)), (2, .one (.fix (.fn 142 []))), (4, pS 0 0), (8, vS sI), (9, vS sI), (10, vS sI)], [[vK u05]]⟩ [(.exit 0, ⟨[(0, vS (.list sLook)), (2, .one (.fix (.fn 142 []))), (4, pS 0 0), (8, vS sI), (9, vS sI)], [[vK u05]]⟩)]), (61, .join [(6, sI), (7, .bool)])]
def S_141 : Spec := specO ti_141.gs (kinds to_141.gs) u0h
abbrev ti_108 : Tm := ⟨[(0, vS (.list sLook)), (1, vS u05)], []⟩
abbrev to_108 : Tm := ⟨[(0, vS sI), (1, vS .bool)], []⟩
def an_108 : List (Nat × Ann) := []
def S_108 : Spec := specO ti_108.gs (kinds to_108.gs) u3q
abbrev ti_47 : Tm := ⟨[(0, vS (.list sI))], []⟩
abbrev to_47 : Tm := ⟨[(0, vS (.list sI))], []⟩
def an_47 : List (Nat × Ann) := [(57, .loop ⟨[(0, vS (.list sI)), (3, .one (.kd (.own false 1 sI))), (4, vS sI)], []⟩ [(.exit 0, ⟨[(3, .one (.kd (.own false 1 sI)))], []⟩)])]
def S_47 : Spec := specO ti_47.gs (kinds to_47.gs) u0K
abbrev ti_11 : Tm := ⟨[(0, vS sOp)], []⟩
abbrev to_11 : Tm := ⟨[(0, vS sOp)], []⟩
def an_11 : List (Nat × Ann) := []
def S_11 : Spec := specO ti_11.gs (kinds to_11.gs) u0Q
abbrev ti_53 : Tm := ⟨[(0, vS (.list sI)), (1, vS (.list sI))], []⟩
abbrev to_53 : Tm := ⟨[(0, vS .bool)], []⟩
def an_53 : List (Nat × Ann) := [(57, .loop ⟨[(0, vS (.list sI)), (1, vS (.list sI)), (5, vS sI)], []⟩ [(.exit 0, ⟨[], []⟩), (.ret, ⟨[(4, vS .bool)], []⟩)])]
def S_53 : Spec := specO ti_53.gs (kinds to_53.gs) u0Z
abbrev ti_14 : Tm := ⟨[(0, vS sOp), (1, vS sOp)], []⟩
abbrev to_14 : Tm := ⟨[(0, vS .bool)], []⟩
def an_14 : List (Nat × Ann) := [(5, .join [(4, .bool)])]
def S_14 : Spec := specO ti_14.gs (kinds to_14.gs) u0I
abbrev ti_81 : Tm := ⟨[(0, vS sOp)], []⟩
abbrev to_81 : Tm := ⟨[(0, vS sI)], []⟩
def an_81 : List (Nat × Ann) := []
def S_81 : Spec := specT ti_81.gs (kinds to_81.gs) u0b
abbrev ti_40 : Tm := ⟨[(0, vS (.list sOp))], []⟩
abbrev to_40 : Tm := ⟨[(0, vS sI)], []⟩
def an_40 : List (Nat × Ann) := [(57, .loop ⟨[(0, vS (.list sOp)), (3, vS sI), (4, vS sI)], []⟩ [(.exit 0, ⟨[(3, vS sI)], []⟩)]), (463, .join [(14, .bool)])]
def S_40 : Spec := specO ti_40.gs (kinds to_40.gs) u13
abbrev ti_39 : Tm := ⟨[(0, vS sTree)], []⟩
abbrev to_39 : Tm := ⟨[(0, vS sI)], []⟩
def an_39 : List (Nat × Ann) := [(57, .loop ⟨[(1, pS 0 0), (3, vS sI), (4, vS sI)], [[vK sTree]]⟩ [(.exit 0, ⟨[(1, pS 0 0), (3, vS sI)], [[vK sTree]]⟩)]), (121, .loop ⟨[(1, pS 0 0), (3, vS sI), (5, vS sI)], [[vK sTree]]⟩ [(.exit 2, ⟨[(3, vS sI)], [[vK sTree]]⟩)]), (463, .join [(21, .bool)]), (975, .join [(41, .bool)])]
def S_39 : Spec := specO ti_39.gs (kinds to_39.gs) u0R
abbrev ti_57 : Tm := ⟨[(0, vS sShape)], []⟩
abbrev to_57 : Tm := ⟨[(0, vS sI)], []⟩
def an_57 : List (Nat × Ann) := [(57, .loop ⟨[(1, pS 0 0), (3, vS sI), (4, vS sI)], [[vK sShape]]⟩ [(.exit 0, ⟨[(3, vS sI)], [[vK sShape]]⟩)]), (463, .join [(20, .bool)])]
def S_57 : Spec := specO ti_57.gs (kinds to_57.gs) u0L
abbrev ti_19 : Tm := ⟨[(0, vS u0v)], []⟩
abbrev to_19 : Tm := ⟨[(0, vS .bool)], []⟩
def an_19 : List (Nat × Ann) := [(5, .join [(2, .bool)])]
def S_19 : Spec := specO ti_19.gs (kinds to_19.gs) u1O
abbrev ti_41 : Tm := ⟨[(0, .one (.kd (.view false (.list sNode))))], []⟩
abbrev to_41 : Tm := ⟨[(0, .one (.kd (.own false 5 sNode)))], []⟩
def an_41 : List (Nat × Ann) := [(57, .loop ⟨[(0, .one (.kd (.view false (.list sNode)))), (3, .one (.kd (.own false 5 sNode))), (4, vS sI)], []⟩ [(.exit 0, ⟨[(3, .one (.kd (.own false 5 sNode)))], []⟩)])]
def S_41 : Spec := specK ti_41 to_41 u0E
abbrev ti_82 : Tm := ⟨[(0, vS u0d)], []⟩
abbrev to_82 : Tm := ⟨[(0, vS u0d)], []⟩
def an_82 : List (Nat × Ann) := []
def S_82 : Spec := specO ti_82.gs (kinds to_82.gs) u12
abbrev ti_42 : Tm := ⟨[(0, vS (.list u0d))], []⟩
abbrev to_42 : Tm := ⟨[(0, vS (.list u0d))], []⟩
def an_42 : List (Nat × Ann) := [(57, .loop ⟨[(0, vS (.list u0d)), (3, .one (.kd (.own false 17 u0d))), (4, vS sI)], []⟩ [(.exit 0, ⟨[(3, .one (.kd (.own false 17 u0d)))], []⟩)])]
def S_42 : Spec := specO ti_42.gs (kinds to_42.gs) u10
abbrev ti_7 : Tm := ⟨[(0, vS sTree)], []⟩
abbrev to_7 : Tm := ⟨[(0, vS sTree)], []⟩
def an_7 : List (Nat × Ann) := []
def S_7 : Spec := specO ti_7.gs (kinds to_7.gs) u0N
abbrev ti_129 : Tm := ⟨[(0, vS (.list sReg))], []⟩
abbrev to_129 : Tm := ⟨[(0, vS (.list sReg))], []⟩
def an_129 : List (Nat × Ann) := [(57, .loop ⟨[(0, vS (.list sReg)), (3, .one (.kd (.own false 4 sReg))), (4, vS sI)], []⟩ [(.exit 0, ⟨[(3, .one (.kd (.own false 4 sReg)))], []⟩)])]
def S_129 : Spec := specO ti_129.gs (kinds to_129.gs) u1f
abbrev ti_94 : Tm := ⟨[(0, vS sLook)], []⟩
abbrev to_94 : Tm := ⟨[(0, vS sLook)], []⟩
def an_94 : List (Nat × Ann) := []
def S_94 : Spec := specO ti_94.gs (kinds to_94.gs) u1g
abbrev ti_58 : Tm := ⟨[(0, vS (.list sLook))], []⟩
abbrev to_58 : Tm := ⟨[(0, vS (.list sLook))], []⟩
def an_58 : List (Nat × Ann) := [(57, .loop ⟨[(0, vS (.list sLook)), (3, .one (.kd (.own false 3 sLook))), (4, vS sI)], []⟩ [(.exit 0, ⟨[(3, .one (.kd (.own false 3 sLook)))], []⟩)])]
def S_58 : Spec := specO ti_58.gs (kinds to_58.gs) u11
abbrev ti_20 : Tm := ⟨[(0, vS sShape)], []⟩
abbrev to_20 : Tm := ⟨[(0, vS sShape)], []⟩
def an_20 : List (Nat × Ann) := []
def S_20 : Spec := specO ti_20.gs (kinds to_20.gs) u0n
abbrev ti_51 : Tm := ⟨[(0, vS (.list sNode)), (1, vS (.list sNode))], []⟩
abbrev to_51 : Tm := ⟨[(0, vS .bool)], []⟩
def an_51 : List (Nat × Ann) := [(57, .loop ⟨[(0, vS (.list sNode)), (1, vS (.list sNode)), (5, vS sI)], []⟩ [(.exit 0, ⟨[], []⟩), (.ret, ⟨[(4, vS .bool)], []⟩)])]
def S_51 : Spec := specO ti_51.gs (kinds to_51.gs) u1t
abbrev ti_92 : Tm := ⟨[(0, vS u0d), (1, vS u0d)], []⟩
abbrev to_92 : Tm := ⟨[(0, vS .bool)], []⟩
def an_92 : List (Nat × Ann) := [(5, .join [(4, .bool)])]
def S_92 : Spec := specO ti_92.gs (kinds to_92.gs) u1w
abbrev ti_52 : Tm := ⟨[(0, vS (.list u0d)), (1, vS (.list u0d))], []⟩
abbrev to_52 : Tm := ⟨[(0, vS .bool)], []⟩
def an_52 : List (Nat × Ann) := [(57, .loop ⟨[(0, vS (.list u0d)), (1, vS (.list u0d)), (5, vS sI)], []⟩ [(.exit 0, ⟨[], []⟩), (.ret, ⟨[(4, vS .bool)], []⟩)])]
def S_52 : Spec := specO ti_52.gs (kinds to_52.gs) u1u
abbrev ti_13 : Tm := ⟨[(0, vS sTree), (1, vS sTree)], []⟩
abbrev to_13 : Tm := ⟨[(0, vS .bool)], []⟩
def an_13 : List (Nat × Ann) := [(5, .join [(4, .bool)])]
def S_13 : Spec := specO ti_13.gs (kinds to_13.gs) u18
abbrev ti_99 : Tm := ⟨[(0, vS sI), (1, vS sI)], []⟩
abbrev to_99 : Tm := ⟨[(0, vS .bool)], []⟩
def an_99 : List (Nat × Ann) := [(5, .join [(4, .bool)])]
def S_99 : Spec := specT ti_99.gs (kinds to_99.gs) u1e
abbrev ti_61 : Tm := ⟨[(0, vS u05)], []⟩
abbrev to_61 : Tm := ⟨[(0, vS .bool)], []⟩
def an_61 : List (Nat × Ann) := [(5, .join [(2, .bool)])]
def S_61 : Spec := specT ti_61.gs (kinds to_61.gs) u0s
abbrev ti_74 : Tm := ⟨[(0, vS (.list sI))], []⟩
abbrev to_74 : Tm := ⟨[(0, vS .bool)], []⟩
def an_74 : List (Nat × Ann) := [(13, .join [(2, .bool)]), (25, .loop ⟨[(0, vS (.list sI)), (3, vS sI)], []⟩ [(.exit 0, ⟨[(0, vS (.list sI))], []⟩), (.ret, ⟨[(2, vS .bool)], []⟩)])]
def S_74 : Spec := specO ti_74.gs (kinds to_74.gs) u1I
abbrev ti_64 : Tm := ⟨[], []⟩
abbrev to_64 : Tm := ⟨[(0, vS u05)], []⟩
def an_64 : List (Nat × Ann) := []
def S_64 : Spec := specT ti_64.gs (kinds to_64.gs) u1P
abbrev ti_113 : Tm := ⟨[], []⟩
abbrev to_113 : Tm := ⟨[(0, vS u05)], []⟩
def an_113 : List (Nat × Ann) := []
def S_113 : Spec := specT ti_113.gs (kinds to_113.gs) u1p
abbrev ti_75 : Tm := ⟨[(0, vS u05)], []⟩
abbrev to_75 : Tm := ⟨[(0, vS .bool)], []⟩
def an_75 : List (Nat × Ann) := [(5, .join [(2, .bool)])]
def S_75 : Spec := specT ti_75.gs (kinds to_75.gs) u1q
abbrev ti_76 : Tm := ⟨[(0, vS .str)], []⟩
abbrev to_76 : Tm := ⟨[(0, vS .bool)], []⟩
def an_76 : List (Nat × Ann) := [(5, .join [(2, .bool)])]
def S_76 : Spec := specO ti_76.gs (kinds to_76.gs) u2Z
abbrev ti_114 : Tm := ⟨[(0, vS sI)], []⟩
abbrev to_114 : Tm := ⟨[(0, vS sI), (1, vS sI), (2, vS sI), (3, vS .bool)], []⟩
def an_114 : List (Nat × Ann) := [(428, .cut [(.normal, ⟨[(6, vS sI), (9, vS .bool)], []⟩)]), (1724, .cut [(.normal, ⟨[(6, vS sI), (12, vS .bool)], []⟩)]), (6902, .cut [(.normal, ⟨[(6, vS sI), (12, vS .bool)], []⟩)]), (6908, .cut [(.normal, ⟨[(6, vS sI), (18, vS .bool)], []⟩)]), (27614, .cut [(.normal, ⟨[(6, vS sI), (12, vS .bool)], []⟩)]), (110462, .cut [(.normal, ⟨[(6, vS sI), (12, vS .bool)], []⟩)]), (442364, .cut [(.normal, ⟨[(6, vS sI), (25, vS .bool)], []⟩)]), (1769462, .cut [(.normal, ⟨[(6, vS sI), (25, vS .bool)], []⟩)])]
def S_114 : Spec := specO ti_114.gs (kinds to_114.gs) u1o
abbrev ti_77 : Tm := ⟨[(0, vS sI), (1, vS sI)], []⟩
abbrev to_77 : Tm := ⟨[(0, vS sI)], []⟩
def an_77 : List (Nat × Ann) := [(59, .join [(25, .bool)])]
def S_77 : Spec := specO ti_77.gs (kinds to_77.gs) u0X
abbrev ti_35 : Tm := ⟨[(0, vS sOp)], []⟩
abbrev to_35 : Tm := ⟨[(0, vS .bool)], []⟩
def an_35 : List (Nat × Ann) := [(11, .join [(51, .bool)]), (1961, .join [(2, .bool)]), (7865, .join [(2, .bool)])]
def S_35 : Spec := specO ti_35.gs (kinds to_35.gs) u1E
abbrev ti_15 : Tm := ⟨[(0, vS sOp)], []⟩
abbrev to_15 : Tm := ⟨[(0, vS .bool)], []⟩
def an_15 : List (Nat × Ann) := [(5, .join [(2, .bool)])]
def S_15 : Spec := specO ti_15.gs (kinds to_15.gs) u1r
abbrev ti_43 : Tm := ⟨[(0, vS sTree)], []⟩
abbrev to_43 : Tm := ⟨[(0, vS (.list sOp))], []⟩
def an_43 : List (Nat × Ann) := [(57, .loop ⟨[(1, pS 0 0), (3, .one (.kd (.own false 12 sOp))), (4, vS sI)], [[vK sTree]]⟩ [(.exit 0, ⟨[(3, .one (.kd (.own false 12 sOp)))], [[vK sTree]]⟩)])]
def S_43 : Spec := specO ti_43.gs (kinds to_43.gs) u0P
abbrev ti_44 : Tm := ⟨[(0, vS u05), (1, vS u05)], []⟩
abbrev to_44 : Tm := ⟨[(0, vS sI)], []⟩
def an_44 : List (Nat × Ann) := [(11, .join [(23, .bool)])]
def S_44 : Spec := specT ti_44.gs (kinds to_44.gs) u0k
abbrev ti_116 : Tm := ⟨[(0, vS (.list sNode)), (1, vS u05)], []⟩
abbrev to_116 : Tm := ⟨[(0, vS sI)], []⟩
def an_116 : List (Nat × Ann) := [(25, .loop ⟨[(0, vS (.list sNode)), (3, pS 0 0), (5, vS sI)], [[vK u05]]⟩ [(.exit 0, ⟨[], [[vK u05]]⟩), (.ret, ⟨[(4, vS sI)], []⟩)])]
def S_116 : Spec := specO ti_116.gs (kinds to_116.gs) u1s
abbrev ti_117 : Tm := ⟨[(0, vS (.list sNode)), (1, vS u05), (2, vS u05)], []⟩
abbrev to_117 : Tm := ⟨[(0, vS .bool)], []⟩
def an_117 : List (Nat × Ann) := [(25, .loop ⟨[(0, vS (.list sNode)), (4, pS 0 0), (5, pS 1 0), (7, vS sI)], [[vK u05], [vK u05]]⟩ [(.exit 0, ⟨[], [[vK u05], [vK u05]]⟩), (.ret, ⟨[(6, vS .bool)], []⟩)])]
def S_117 : Spec := specO ti_117.gs (kinds to_117.gs) u1W
abbrev ti_83 : Tm := ⟨[(0, .one (.kd (.own false 5 sNode))), (1, vS sOp)], []⟩
abbrev to_83 : Tm := ⟨[(0, .one (.kd (.own false 5 sNode))), (1, vS u0d)], []⟩
def an_83 : List (Nat × Ann) := [(60, .cut [(.normal, ⟨[(0, .one (.kd (.own false 5 sNode))), (3, pS 0 0), (5, pS 1 0), (6, pS 2 0), (7, vS sI)], [[vK sOp], [vK u0d], [vK u0d]]⟩)]), (8185, .loop ⟨[(0, .one (.kd (.own false 5 sNode))), (3, pS 0 0), (5, pS 1 0), (6, pS 2 0), (8, pS 3 0), (10, .one (.kd (.own false 5 sNode))), (11, vS .bool), (12, vS sI)], [[vK sOp], [vK u0d], [vK u0d], [vK sNode]]⟩ [(.exit 0, ⟨[(5, pS 1 0), (6, pS 2 0), (8, pS 3 0), (10, .one (.kd (.own false 5 sNode))), (11, vS .bool)], [[vK sOp], [vK u0d], [vK u0d], [vK sNode]]⟩)]), (523919, .join [(79, .bool)])]
def S_83 : Spec := specK ti_83 to_83 u1X
abbrev ti_45 : Tm := ⟨[(0, .one (.kd (.view false (.list sOp))))], []⟩
abbrev to_45 : Tm := ⟨[(0, .agg [.kd (.own false 5 sNode), .kd (.own false 17 u0d)])], []⟩
def an_45 : List (Nat × Ann) := [(57, .loop ⟨[(0, .one (.kd (.view false (.list sOp)))), (2, pS 0 0), (3, pS 1 0), (4, vS sI)], [[.fix (.nil), .fix (.nil)], [.kd (.own false 5 sNode), .kd (.own false 17 u0d)]]⟩ [(.exit 0, ⟨[(2, pS 0 0), (3, pS 1 0)], [[.fix (.nil), .fix (.nil)], [.kd (.own false 5 sNode), .kd (.own false 17 u0d)]]⟩)])]
def S_45 : Spec := specK ti_45 to_45 u0Y
abbrev ti_8 : Tm := ⟨[(0, vS sTree)], []⟩
abbrev to_8 : Tm := ⟨[(0, vS .bool)], []⟩
def an_8 : List (Nat × Ann) := [(57, .loop ⟨[(1, pS 0 0), (3, vS (.list sOp)), (4, vS sI)], [[vK sTree]]⟩ [(.exit 0, ⟨[(1, pS 0 0), (3, vS (.list sOp))], [[vK sTree]]⟩), (.ret, ⟨[(2, vS .bool)], []⟩)]), (1863, .join [(37, .bool)])]
def S_8 : Spec := specO ti_8.gs (kinds to_8.gs) u1Y
abbrev ti_62 : Tm := ⟨[(0, vS (.list sReg))], []⟩
abbrev to_62 : Tm := ⟨[(0, vS .bool)], []⟩
def an_62 : List (Nat × Ann) := [(25, .loop ⟨[(0, vS (.list sReg)), (3, vS sI)], []⟩ [(.exit 0, ⟨[], []⟩), (.ret, ⟨[(2, vS .bool)], []⟩)]), (839, .join [(48, .bool)])]
def S_62 : Spec := specO ti_62.gs (kinds to_62.gs) u20
abbrev ti_22 : Tm := ⟨[(0, vS sShape)], []⟩
abbrev to_22 : Tm := ⟨[(0, vS .bool)], []⟩
def an_22 : List (Nat × Ann) := [(25, .loop ⟨[(1, pS 0 0), (3, vS sI)], [[vK sShape]]⟩ [(.exit 0, ⟨[(1, pS 0 0)], [[vK sShape]]⟩), (.ret, ⟨[(2, vS .bool)], []⟩)]), (839, .join [(59, .bool)])]
def S_22 : Spec := specO ti_22.gs (kinds to_22.gs) u1J
abbrev ti_137 : Tm := ⟨[(0, vS (.list sReg)), (1, vS (.list sReg))], []⟩
abbrev to_137 : Tm := ⟨[(0, vS .bool)], []⟩
def an_137 : List (Nat × Ann) := [(57, .loop ⟨[(0, vS (.list sReg)), (1, vS (.list sReg)), (5, vS sI)], []⟩ [(.exit 0, ⟨[], []⟩), (.ret, ⟨[(4, vS .bool)], []⟩)])]
def S_137 : Spec := specO ti_137.gs (kinds to_137.gs) u1L
abbrev ti_104 : Tm := ⟨[(0, vS sLook), (1, vS sLook)], []⟩
abbrev to_104 : Tm := ⟨[(0, vS .bool)], []⟩
def an_104 : List (Nat × Ann) := [(5, .join [(4, .bool)])]
def S_104 : Spec := specO ti_104.gs (kinds to_104.gs) u1M
abbrev ti_69 : Tm := ⟨[(0, vS (.list sLook)), (1, vS (.list sLook))], []⟩
abbrev to_69 : Tm := ⟨[(0, vS .bool)], []⟩
def an_69 : List (Nat × Ann) := [(57, .loop ⟨[(0, vS (.list sLook)), (1, vS (.list sLook)), (5, vS sI)], []⟩ [(.exit 0, ⟨[], []⟩), (.ret, ⟨[(4, vS .bool)], []⟩)])]
def S_69 : Spec := specO ti_69.gs (kinds to_69.gs) u1v
abbrev ti_28 : Tm := ⟨[(0, vS sShape), (1, vS sShape)], []⟩
abbrev to_28 : Tm := ⟨[(0, vS .bool)], []⟩
def an_28 : List (Nat × Ann) := [(5, .join [(4, .bool)])]
def S_28 : Spec := specO ti_28.gs (kinds to_28.gs) u0D
abbrev ti_32 : Tm := ⟨[(0, vS sI)], []⟩
abbrev to_32 : Tm := ⟨[(0, vS sI)], []⟩
def an_32 : List (Nat × Ann) := []
def S_32 : Spec := specT ti_32.gs (kinds to_32.gs) u0t
abbrev ti_105 : Tm := ⟨[(0, vS u05)], []⟩
abbrev to_105 : Tm := ⟨[(0, vS .bool)], []⟩
def an_105 : List (Nat × Ann) := [(5, .join [(2, .bool)])]
def S_105 : Spec := specT ti_105.gs (kinds to_105.gs) u2L
abbrev ti_106 : Tm := ⟨[(0, vS (.list sI))], []⟩
abbrev to_106 : Tm := ⟨[(0, vS .bool)], []⟩
def an_106 : List (Nat × Ann) := [(2, .lab 0 ⟨[(0, vS (.list sI)), (3, vS sI)], []⟩ [(.ret, ⟨[(2, vS .bool)], []⟩)]), (123, .join [(25, .bool)]), (243, .join [(2, .bool)])]
def S_106 : Spec := specO ti_106.gs (kinds to_106.gs) have_Is
abbrev ti_97 : Tm := ⟨[], []⟩
abbrev to_97 : Tm := ⟨[(0, vS u05)], []⟩
def an_97 : List (Nat × Ann) := []
def S_97 : Spec := specT ti_97.gs (kinds to_97.gs) u0i
abbrev ti_162 : Tm := ⟨[], []⟩
abbrev to_162 : Tm := ⟨[(0, vS u05)], []⟩
def an_162 : List (Nat × Ann) := []
def S_162 : Spec := specT ti_162.gs (kinds to_162.gs) u2E
abbrev ti_138 : Tm := ⟨[(0, vS u05)], []⟩
abbrev to_138 : Tm := ⟨[(0, vS .bool)], []⟩
def an_138 : List (Nat × Ann) := [(5, .join [(2, .bool)])]
def S_138 : Spec := specT ti_138.gs (kinds to_138.gs) u2F
abbrev ti_139 : Tm := ⟨[(0, vS .str)], []⟩
abbrev to_139 : Tm := ⟨[(0, vS .bool)], []⟩
def an_139 : List (Nat × Ann) := [(5, .join [(2, .bool)])]
def S_139 : Spec := specO ti_139.gs (kinds to_139.gs) u3P
abbrev ti_132 : Tm := ⟨[(0, vS sI)], []⟩
abbrev to_132 : Tm := ⟨[(0, vS u2G)], []⟩
def an_132 : List (Nat × Ann) := [(428, .cut [(.normal, ⟨[(2, pS 0 0), (3, vS sI), (7, vS .bool)], [[vK u2G]]⟩)]), (1724, .cut [(.normal, ⟨[(2, pS 0 0), (3, vS sI), (11, vS .bool)], [[vK u2G]]⟩)]), (6902, .cut [(.normal, ⟨[(2, pS 0 0), (3, vS sI), (11, vS .bool)], [[vK u2G]]⟩)]), (6908, .cut [(.normal, ⟨[(2, pS 0 0), (3, vS sI), (18, vS .bool)], [[vK u2G]]⟩)]), (27614, .cut [(.normal, ⟨[(2, pS 0 0), (3, vS sI), (11, vS .bool)], [[vK u2G]]⟩)]), (110462, .cut [(.normal, ⟨[(2, pS 0 0), (3, vS sI), (11, vS .bool)], [[vK u2G]]⟩)])]
def S_132 : Spec := specO ti_132.gs (kinds to_132.gs) u2g
abbrev ti_163 : Tm := ⟨[(0, vS sI)], []⟩
abbrev to_163 : Tm := ⟨[(0, vS .bool)], []⟩
def an_163 : List (Nat × Ann) := [(5, .join [(2, .bool)])]
def S_163 : Spec := specT ti_163.gs (kinds to_163.gs) u5w
abbrev ti_140 : Tm := ⟨[(0, vS sI), (1, vS sI)], []⟩
abbrev to_140 : Tm := ⟨[(0, vS .bool)], []⟩
def an_140 : List (Nat × Ann) := [(5, .join [(4, .bool)])]
def S_140 : Spec := specO ti_140.gs (kinds to_140.gs) u2X
abbrev ti_107 : Tm := ⟨[(0, vS sOp)], []⟩
abbrev to_107 : Tm := ⟨[(0, vS .bool)], []⟩
def an_107 : List (Nat × Ann) := [(211, .join [(2, .bool)]), (859, .join [(2, .bool)])]
def S_107 : Spec := specO ti_107.gs (kinds to_107.gs) u6H
abbrev ti_71 : Tm := ⟨[(0, vS sOp)], []⟩
abbrev to_71 : Tm := ⟨[(0, vS .bool)], []⟩
def an_71 : List (Nat × Ann) := [(11, .join [(27, .bool)]), (13, .join [(2, .bool)])]
def S_71 : Spec := specO ti_71.gs (kinds to_71.gs) u5W
abbrev ti_48 : Tm := ⟨[(0, vS sOp)], []⟩
abbrev to_48 : Tm := ⟨[(0, vS .bool)], []⟩
def an_48 : List (Nat × Ann) := [(5, .join [(2, .bool)])]
def S_48 : Spec := specO ti_48.gs (kinds to_48.gs) u3S
abbrev ti_84 : Tm := ⟨[(0, vS sOp), (1, vS sOp)], []⟩
abbrev to_84 : Tm := ⟨[(0, vS .bool)], []⟩
def an_84 : List (Nat × Ann) := []
def S_84 : Spec := specO ti_84.gs (kinds to_84.gs) u4F
abbrev ti_152 : Tm := ⟨[(0, vS (.list sI)), (1, vS (.list sI))], []⟩
abbrev to_152 : Tm := ⟨[(0, vS .bool)], []⟩
def an_152 : List (Nat × Ann) := [(57, .loop ⟨[(0, vS (.list sI)), (1, vS (.list sI)), (12, vS sI), (13, vS sI)], []⟩ [(.exit 0, ⟨[], []⟩), (.ret, ⟨[(4, vS .bool)], []⟩)])]
def S_152 : Spec := specO ti_152.gs (kinds to_152.gs) u1H
abbrev ti_119 : Tm := ⟨[(0, vS sOp), (1, vS sOp)], []⟩
abbrev to_119 : Tm := ⟨[(0, vS .bool)], []⟩
def an_119 : List (Nat × Ann) := [(5, .join [(4, .bool)])]
def S_119 : Spec := specO ti_119.gs (kinds to_119.gs) u6I
abbrev ti_85 : Tm := ⟨[(0, vS u0d), (1, vS u0d)], []⟩
abbrev to_85 : Tm := ⟨[(0, vS .bool)], []⟩
def an_85 : List (Nat × Ann) := [(5, .join [(4, .bool)])]
def S_85 : Spec := specO ti_85.gs (kinds to_85.gs) u34
abbrev ti_91 : Tm := ⟨[(0, .one (.kd (.view false sOp)))], []⟩
abbrev to_91 : Tm := ⟨[(0, .agg [vK u05, vK sI, .kd (.own false 1 sI), vK (.pair sI (.pair u05 (.pair u05 (.pair .str u05))))])], []⟩
def an_91 : List (Nat × Ann) := []
def S_91 : Spec := specK ti_91 to_91 op_Own
abbrev ti_120 : Tm := ⟨[(0, .one (.kd (.at_ (.list sNode)))), (1, vS u05), (2, vS u05)], []⟩
abbrev to_120 : Tm := ⟨[(0, vS .bool)], []⟩
def an_120 : List (Nat × Ann) := [(2, .lab 0 ⟨[(0, .one (.kd (.at_ (.list sNode)))), (4, pS 0 0), (5, pS 1 0)], [[vK u05], [vK u05]]⟩ [(.ret, ⟨[(6, vS .bool)], []⟩)])]
def S_120 : Spec := specO ti_120.gs (kinds to_120.gs) u1F
abbrev ti_86 : Tm := ⟨[(0, pS 0 0), (1, .one (.kd (.view false sOp)))], [[.kd (.own false 5 sNode)]]⟩
abbrev to_86 : Tm := ⟨[(0, .agg [vK u05, vK sI, .kd (.own false 1 sI), vK (.pair sI (.pair u05 (.pair u05 (.pair .str u05)))), vK (.pair .bool (.pair u05 (.pair .str .bool)))])], [[.kd (.own false 5 sNode)]]⟩
def an_86 : List (Nat × Ann) := [(60, .cut [(.normal, ⟨[(0, pS 0 0), (3, pS 1 0), (4, pS 2 0), (5, pS 3 0), (6, vS sI), (7, vS .bool)], [[.kd (.own false 5 sNode)], [.kd (.view false sOp)], [vK u0d], [vK u05, vK sI, .kd (.own false 1 sI), vK (.pair sI (.pair u05 (.pair u05 (.pair .str u05)))), vK (.pair .bool (.pair u05 (.pair .str .bool)))]]⟩)])]
def S_86 : Spec := specK ti_86 to_86 u19
abbrev ti_87 : Tm := ⟨[(0, vS (.list sNode)), (1, vS (.list sNode))], []⟩
abbrev to_87 : Tm := ⟨[(0, vS .bool)], []⟩
def an_87 : List (Nat × Ann) := [(57, .loop ⟨[(0, vS (.list sNode)), (1, vS (.list sNode)), (12, vS sI), (13, vS sI)], []⟩ [(.exit 0, ⟨[], []⟩), (.ret, ⟨[(4, vS .bool)], []⟩)])]
def S_87 : Spec := specO ti_87.gs (kinds to_87.gs) u1m
abbrev ti_46 : Tm := ⟨[(0, vS sTree)], []⟩
abbrev to_46 : Tm := ⟨[(0, vS .bool)], []⟩
def an_46 : List (Nat × Ann) := [(57, .loop ⟨[(1, pS 0 0), (3, pS 1 0), (9, vS (.list u0d)), (10, vS sI), (11, vS sI)], [[vK sTree], [.kd (.own false 5 sNode)]]⟩ [(.exit 0, ⟨[(1, pS 0 0), (3, pS 1 0)], [[vK sTree], [.kd (.own false 5 sNode)]]⟩), (.ret, ⟨[(2, vS .bool)], []⟩)])]
def S_46 : Spec := specO ti_46.gs (kinds to_46.gs) u4M
abbrev ti_130 : Tm := ⟨[(0, vS (.list sReg))], []⟩
abbrev to_130 : Tm := ⟨[(0, vS .bool)], []⟩
def an_130 : List (Nat × Ann) := [(2, .lab 0 ⟨[(0, vS (.list sReg)), (3, vS sI)], []⟩ [(.ret, ⟨[(2, vS .bool)], []⟩)]), (123, .join [(44, .bool)])]
def S_130 : Spec := specO ti_130.gs (kinds to_130.gs) u6B
abbrev ti_95 : Tm := ⟨[(0, vS (.list sLook))], []⟩
abbrev to_95 : Tm := ⟨[(0, vS .bool)], []⟩
def an_95 : List (Nat × Ann) := [(2, .lab 0 ⟨[(0, vS (.list sLook)), (3, vS sI)], []⟩ [(.ret, ⟨[(2, vS .bool)], []⟩)]), (123, .join [(49, .bool)])]
def S_95 : Spec := specO ti_95.gs (kinds to_95.gs) u36
abbrev ti_59 : Tm := ⟨[(0, vS sShape)], []⟩
abbrev to_59 : Tm := ⟨[(0, vS .bool)], []⟩
def an_59 : List (Nat × Ann) := [(5, .join [(2, .bool)])]
def S_59 : Spec := specO ti_59.gs (kinds to_59.gs) u1a
abbrev ti_33 : Tm := ⟨[(0, vS sShape)], []⟩
abbrev to_33 : Tm := ⟨[(0, vS sI)], []⟩
def an_33 : List (Nat × Ann) := []
def S_33 : Spec := specO ti_33.gs (kinds to_33.gs) u37
abbrev ti_88 : Tm := ⟨[(0, pS 0 0), (1, .one (.kd (.view true u0d)))], [[.kd (.own false 5 sNode)]]⟩
abbrev to_88 : Tm := ⟨[], [[.kd (.own false 5 sNode)]]⟩
def an_88 : List (Nat × Ann) := []
def S_88 : Spec := specK ti_88 to_88 u28
abbrev ti_49 : Tm := ⟨[(0, .agg [.kd (.own false 5 sNode), .kd (.own true 17 u0d)]), (1, vS sOp)], []⟩
abbrev to_49 : Tm := ⟨[(0, .agg [.kd (.own false 5 sNode), .kd (.own true 17 u0d)]), (1, vS sI)], []⟩
def an_49 : List (Nat × Ann) := [(2, .lab 0 ⟨[(2, pS 0 0), (3, pS 1 0), (4, pS 2 0), (6, pS 3 0), (7, vS sI)], [[.fix (.undef), .kd (.own true 17 u0d)], [vK sOp], [vK sTree], [.kd (.own false 5 sNode)]]⟩ [(.ret, ⟨[(4, pS 2 0), (5, vS sI)], [[.fix (.undef), .fix (.undef)], [.fix (.undef), .fix (.undef), .fix (.undef), .fix (.undef), .fix (.undef), .fix (.undef), .fix (.undef), .fix (.undef), .fix (.undef), .fix (.undef), .fix (.undef), .fix (.undef)], [.kd (.own false 5 sNode), .kd (.own true 17 u0d)], [.fix (.undef)]]⟩)]), (59, .join [(32, .bool)]), (251, .join [(60, .bool)]), (2041, .loop ⟨[(4, pS 2 0), (6, pS 3 0), (10, .one (.kd (.own true 17 u0d))), (85, .one (.kd (.view true (.list u0d)))), (86, vS sI), (87, vS sI)], [[.fix (.undef), .kd (.view true (.list u0d))], [vK sOp], [vK sTree], [.kd (.own false 5 sNode)]]⟩ [(.exit 2, ⟨[(4, pS 2 0), (6, pS 3 0), (10, .one (.kd (.own true 17 u0d)))], [[.fix (.undef), .kd (.view true (.list u0d))], [vK sOp], [vK sTree], [.kd (.own false 5 sNode)]]⟩)]), (4049, .loop ⟨[(4, pS 2 0), (6, pS 3 0), (8, .one (.kd (.view true (.list u0d)))), (62, vS sI), (63, vS sI)], [[.fix (.undef), .kd (.view true (.list u0d))], [vK sOp], [vK sTree], [.kd (.own false 5 sNode)]]⟩ [(.exit 0, ⟨[(4, pS 2 0)], [[.fix (.undef), .kd (.view true (.list u0d))], [vK sOp], [vK sTree], [.kd (.own false 5 sNode)]]⟩)])]
def S_49 : Spec := specK ti_49 to_49 u4K
abbrev ti_166 : Tm := ⟨[(0, vS sReg), (1, vS sI)], []⟩
abbrev to_166 : Tm := ⟨[(0, vS sI)], []⟩
def an_166 : List (Nat × Ann) := []
def S_166 : Spec := specT ti_166.gs (kinds to_166.gs) u2H
abbrev ti_165 : Tm := ⟨[(0, vS (.list sReg)), (1, vS sI), (2, .one (.fix (.fn 166 [])))], []⟩
abbrev to_165 : Tm := ⟨[(0, vS sI), (1, vS .bool)], []⟩
def an_165 : List (Nat × Ann) := [(59, .loop ⟨[(0, vS (.list sReg)), (1, vS sI), (2, .one (.fix (.fn 166 []))), (8, vS sI), (9, vS sI), (10, vS sI)], []⟩ [(.exit 0, ⟨[(0, vS (.list sReg)), (1, vS sI), (2, .one (.fix (.fn 166 []))), (8, vS sI), (9, vS sI)], []⟩)]), (61, .join [(6, sI), (7, .bool)])]
def S_165 : Spec := specO ti_165.gs (kinds to_165.gs) u0o
abbrev ti_145 : Tm := ⟨[(0, vS (.list sReg)), (1, vS sI)], []⟩
abbrev to_145 : Tm := ⟨[(0, vS sI), (1, vS .bool)], []⟩
def an_145 : List (Nat × Ann) := []
def S_145 : Spec := specO ti_145.gs (kinds to_145.gs) u4Y
abbrev ti_110 : Tm := ⟨[(0, .one (.kd (.view false (.list sReg)))), (1, vS sReg)], []⟩
abbrev to_110 : Tm := ⟨[(0, .one (.kd (.own false 4 sReg)))], []⟩
def an_110 : List (Nat × Ann) := []
def S_110 : Spec := specK ti_110 to_110 u5u
abbrev ti_72 : Tm := ⟨[(0, .agg [.kd (.own false 5 sNode), .kd (.own true 17 u0d), .kd (.own true 3 sLook)]), (1, vS sOp)], []⟩
abbrev to_72 : Tm := ⟨[(0, .agg [.kd (.own false 5 sNode), .kd (.own true 17 u0d), .kd (.own true 3 sLook)]), (1, vS sI)], []⟩
def an_72 : List (Nat × Ann) := [(60, .cut [(.normal, ⟨[(2, pS 0 0), (3, pS 1 0), (4, pS 2 0), (8, vS sI)], [[.kd (.own false 5 sNode), .kd (.own true 17 u0d), .kd (.own true 3 sLook)], [vK sOp], [vK sShape]]⟩)])]
def S_72 : Spec := specK ti_72 to_72 u2S
abbrev ti_50 : Tm := ⟨[(0, vS sTree)], []⟩
abbrev to_50 : Tm := ⟨[(0, .agg [.kd (.own false 5 sNode), .kd (.own true 17 u0d)])], []⟩
def an_50 : List (Nat × Ann) := [(14, .thaw), (57, .loop ⟨[(1, pS 0 0), (2, pS 1 0), (14, vS sI), (15, vS sI)], [[.kd (.own false 5 sNode), .kd (.own true 17 (.mark u0d))], [vK sTree]]⟩ [(.exit 0, ⟨[(1, pS 0 0), (2, pS 1 0)], [[.kd (.own false 5 sNode), .kd (.own true 17 (.mark u0d))], [vK sTree]]⟩)])]
def S_50 : Spec := specK ti_50 to_50 u4L
abbrev ti_73 : Tm := ⟨[(0, vS sShape)], []⟩
abbrev to_73 : Tm := ⟨[(0, .agg [.kd (.own false 5 sNode), .kd (.own true 17 u0d), .kd (.own true 3 sLook)])], []⟩
def an_73 : List (Nat × Ann) := [(14, .thaw), (57, .loop ⟨[(1, pS 0 0), (2, pS 1 0), (14, vS sI), (15, vS sI)], [[.kd (.own false 5 sNode), .kd (.own true 17 u0d), .kd (.own true 3 (.mark sLook))], [vK sShape]]⟩ [(.exit 0, ⟨[(1, pS 0 0), (2, pS 1 0)], [[.kd (.own false 5 sNode), .kd (.own true 17 u0d), .kd (.own true 3 (.mark sLook))], [vK sShape]]⟩)])]
def S_73 : Spec := specK ti_73 to_73 u3s
abbrev ti_34 : Tm := ⟨[(0, vS sShape), (1, vS sOp)], []⟩
abbrev to_34 : Tm := ⟨[(0, .agg [.kd (.own false 5 sNode), .kd (.own true 17 u0d), .kd (.own true 3 sLook)]), (1, vS sI)], []⟩
def an_34 : List (Nat × Ann) := [(11, .join [(13, .bool)])]
def S_34 : Spec := specK ti_34 to_34 u2f
abbrev ti_16 : Tm := ⟨[(0, vS sTree), (1, vS sOp)], []⟩
abbrev to_16 : Tm := ⟨[(0, vS sTree), (1, vS .bool)], []⟩
def an_16 : List (Nat × Ann) := [(249, .loop ⟨[(2, pS 0 0), (3, pS 1 0), (4, pS 2 0), (6, .one (.kd (.own false 12 sOp))), (7, vS .bool), (8, vS (.list sOp)), (9, vS sI)], [[vK sTree], [vK sOp], [vK sTree]]⟩ [(.exit 0, ⟨[(3, pS 1 0), (4, pS 2 0), (6, .one (.kd (.own false 12 sOp))), (7, vS .bool)], [[vK sTree], [vK sOp], [vK sTree]]⟩), (.ret, ⟨[(4, pS 2 0), (5, vS .bool)], [[.fix (.undef), .fix (.undef)], [.fix (.undef), .fix (.undef), .fix (.undef), .fix (.undef), .fix (.undef), .fix (.undef), .fix (.undef), .fix (.undef), .fix (.undef), .fix (.undef), .fix (.undef), .fix (.undef)], [vK sTree]]⟩)]), (64075, .join [(35, .bool)])]
def S_16 : Spec := specO ti_16.gs (kinds to_16.gs) u1K
abbrev ti_78 : Tm := ⟨[(0, vS (.list sReg)), (1, vS sI), (2, vS sI), (3, vS u05)], []⟩
abbrev to_78 : Tm := ⟨[(0, vS (.list sReg))], []⟩
def an_78 : List (Nat × Ann) := [(249, .loop ⟨[(0, vS (.list sReg)), (1, vS sI), (7, pS 0 0), (9, .one (.kd (.own false 4 sReg))), (10, vS .bool), (11, pS 1 0), (12, vS sI)], [[vK u05], [vK sReg]]⟩ [(.exit 0, ⟨[(9, .one (.kd (.own false 4 sReg))), (10, vS .bool), (11, pS 1 0)], [[vK u05], [vK sReg]]⟩)]), (32035, .join [(59, .bool)]), (256276, .cut [(.normal, ⟨[(0, vS (.list sReg)), (1, vS sI), (7, pS 0 0), (9, .one (.kd (.own false 4 sReg))), (10, vS .bool), (11, pS 1 0), (12, vS sI)], [[vK u05], [vK sReg]]⟩)])]
def S_78 : Spec := specO ti_78.gs (kinds to_78.gs) u1h
abbrev ti_36 : Tm := ⟨[(0, vS sShape), (1, vS sOp)], []⟩
abbrev to_36 : Tm := ⟨[(0, vS sShape), (1, vS .bool)], []⟩
def an_36 : List (Nat × Ann) := [(505, .loop ⟨[(3, pS 1 0), (4, pS 2 0), (6, pS 3 0), (9, vS .bool), (10, .one (.kd (.own false 3 sLook))), (11, vS sI)], [[vK sShape], [vK sOp], [vK sShape], [vK sShape]]⟩ [(.exit 0, ⟨[(3, pS 1 0), (4, pS 2 0), (6, pS 3 0), (9, vS .bool), (10, .one (.kd (.own false 3 sLook)))], [[vK sShape], [vK sOp], [vK sShape], [vK sShape]]⟩)]), (129611, .join [(53, .bool)]), (129612, .cut [(.normal, ⟨[(3, pS 1 0), (4, pS 2 0), (6, pS 3 0), (9, vS .bool), (10, .one (.kd (.own false 3 sLook))), (11, vS sI), (12, pS 4 0), (13, vS sI)], [[vK sShape], [vK sOp], [vK sShape], [vK sShape], [vK sLook]]⟩)])]
def S_36 : Spec := specO ti_36.gs (kinds to_36.gs) u1Z
abbrev ti_55 : Tm := ⟨[], []⟩
abbrev to_55 : Tm := ⟨[(0, vS sOp)], []⟩
def an_55 : List (Nat × Ann) := []
def S_55 : Spec := specT ti_55.gs (kinds to_55.gs) u06
abbrev ti_93 : Tm := ⟨[(0, vS sTree), (1, vS u05)], []⟩
abbrev to_93 : Tm := ⟨[(0, vS (.list sNode))], []⟩
def an_93 : List (Nat × Ann) := [(25, .loop ⟨[(3, pS 1 0), (4, .one (.kd (.own false 5 sNode))), (8, vS (.list sNode)), (9, vS sI), (10, vS sI)], [[vK sTree], [vK u05]]⟩ [(.exit 0, ⟨[(4, .one (.kd (.own false 5 sNode)))], [[vK sTree], [vK u05]]⟩)])]
def S_93 : Spec := specO ti_93.gs (kinds to_93.gs) u2q
abbrev ti_186 : Tm := ⟨[(0, vS sTree), (1, vS u05)], []⟩
abbrev to_186 : Tm := ⟨[(0, vS sNode), (1, vS .bool)], []⟩
def an_186 : List (Nat × Ann) := []
def S_186 : Spec := specO ti_186.gs (kinds to_186.gs) u3T
abbrev ti_169 : Tm := ⟨[(0, vS sTree), (1, vS u05)], []⟩
abbrev to_169 : Tm := ⟨[(0, vS (.list u05))], []⟩
def an_169 : List (Nat × Ann) := [(2, .lab 0 ⟨[(2, pS 0 0), (3, pS 1 0), (4, .one (.kd (.own false 2 u05))), (5, pS 2 0)], [[vK sTree], [vK u05], [vK sNode]]⟩ [(.ret, ⟨[(4, .one (.kd (.own false 2 u05)))], []⟩)])]
def S_169 : Spec := specO ti_169.gs (kinds to_169.gs) u6o
abbrev ti_147 : Tm := ⟨[(0, vS sTree), (1, vS u05)], []⟩
abbrev to_147 : Tm := ⟨[(0, vS .bool)], []⟩
def an_147 : List (Nat × Ann) := [(13, .join [(4, .bool)])]
def S_147 : Spec := specO ti_147.gs (kinds to_147.gs) u31
abbrev ti_149 : Tm := ⟨[(0, vS sNode), (1, .one (.kd (.at_ u05)))], []⟩
abbrev to_149 : Tm := ⟨[(0, vS .bool)], []⟩
def an_149 : List (Nat × Ann) := []
def S_149 : Spec := specT ti_149.gs (kinds to_149.gs) u3B
abbrev ti_148 : Tm := ⟨[(0, vS (.list sNode)), (1, .one (.kd (.clo 149 u05)))], []⟩
abbrev to_148 : Tm := ⟨[(0, vS sI)], []⟩
def an_148 : List (Nat × Ann) := [(25, .loop ⟨[(0, vS (.list sNode)), (1, .one (.kd (.clo 149 u05))), (7, vS sI), (8, vS sI)], []⟩ [(.exit 0, ⟨[], []⟩), (.ret, ⟨[(4, vS sI)], []⟩)])]
def S_148 : Spec := specO ti_148.gs (kinds to_148.gs) u1T
abbrev ti_170 : Tm := ⟨[(0, vS .str), (1, vS sI), (2, vS sI)], []⟩
abbrev to_170 : Tm := ⟨[(0, vS sI)], []⟩
def an_170 : List (Nat × Ann) := []
def S_170 : Spec := specO ti_170.gs (kinds to_170.gs) key_at
abbrev ti_150 : Tm := ⟨[(0, vS .str), (1, vS .str)], []⟩
abbrev to_150 : Tm := ⟨[(0, vS .str), (1, vS sI)], []⟩
def an_150 : List (Nat × Ann) := [(2, .lab 0 ⟨[(0, vS .str), (1, vS .str), (6, .one (.kd (.own false 1 (.int .u8)))), (7, vS sI), (8, vS .bool)], []⟩ [(.ret, ⟨[(4, vS .str), (5, vS sI)], []⟩)]), (23, .join [(31, .bool)]), (252, .cut [(.normal, ⟨[(0, vS .str), (1, vS .str), (6, .one (.kd (.own false 1 (.int .u8)))), (7, vS sI), (8, vS .bool), (9, vS sI), (10, vS sI)], []⟩)]), (1021, .join [(8, .bool)])]
def S_150 : Spec := specO ti_150.gs (kinds to_150.gs) u3b
abbrev ti_115 : Tm := ⟨[(0, vS sShape), (1, vS u05), (2, vS u05)], []⟩
abbrev to_115 : Tm := ⟨[(0, vS .str), (1, vS sI)], []⟩
def an_115 : List (Nat × Ann) := [(124, .cut [(.normal, ⟨[(8, vS (.list sNode)), (9, vS sI)], [[vK sShape], [vK u05], [vK u05]]⟩)]), (1020, .cut [(.normal, ⟨[(8, vS (.list sNode)), (9, vS sI), (10, vS .str), (11, vS .str)], [[vK sShape], [vK u05], [vK u05]]⟩)]), (2044, .cut [(.normal, ⟨[(10, vS .str), (11, vS .str)], [[vK sShape], [vK u05], [vK u05]]⟩)]), (4091, .join [(54, .bool)])]
def S_115 : Spec := specO ti_115.gs (kinds to_115.gs) u4T
abbrev ti_80 : Tm := ⟨[(0, vS sShape), (1, vS u05), (2, vS u05)], []⟩
abbrev to_80 : Tm := ⟨[(0, vS .str), (1, vS sI)], []⟩
def an_80 : List (Nat × Ann) := []
def S_80 : Spec := specO ti_80.gs (kinds to_80.gs) u3r
abbrev ti_1000034 : Tm := ⟨[(0, vS sShape), (1, vS sOp)], []⟩
abbrev to_1000034 : Tm := ⟨[(0, vS sShape), (1, vS sI)], []⟩
def an_1000034 : List (Nat × Ann) := [(11, .join [(13, .bool)])]
def S_1000034 : Spec := specO ti_1000034.gs (kinds to_1000034.gs) u2t
abbrev ti_38 : Tm := ⟨[], []⟩
abbrev to_38 : Tm := ⟨[(0, vS .bool)], []⟩
def an_38 : List (Nat × Ann) := [(29, .join [(0, .bool)])]
def S_38 : Spec := specO ti_38.gs (kinds to_38.gs) u1N
abbrev ti_5 : Tm := ⟨[(0, vS u0v)], []⟩
abbrev to_5 : Tm := ⟨[(0, vS .bool)], []⟩
def an_5 : List (Nat × Ann) := [(121, .loop ⟨[(1, pS 0 0), (3, pS 1 0), (4, vS sI)], [[vK u0v], [vK sShape]]⟩ [(.exit 0, ⟨[], [[vK u0v], [vK sShape]]⟩), (.ret, ⟨[(2, vS .bool)], []⟩)]), (975, .join [(26, .bool)]), (31307, .join [(45, .bool)]), (250491, .join [(73, .bool)]), (500987, .join [(84, .bool)]), (4007931, .join [(111, .bool)]), (16031739, .join [(127, .bool)])]
def S_5 : Spec := specO ti_5.gs (kinds to_5.gs) u0T
theorem k_37 : u00 KS 37 S_37 := by
  have h : WOk KS 37 sShape := shape_w (t := 17) (g := 54) (num := 70) (rg := 79) rfl (by kernel_rfl) rfl (by kernel_rfl) rfl (by kernel_rfl) rfl (by kernel_rfl) rfl (by kernel_rfl)
  exact h
theorem k_89 : u00 KS 89 S_89 := u48 (zero := [.int .i64 0, .int .i64 0, .int .i64 0, .nils, .int .i64 0, .int .i64 0, .int .i64 0, .int .i64 0, .int .i64 0, .str ⟨#[]⟩, .int .i64 0, .int .i64 0, .bool false, .int .i64 0, .int .i64 0, .str ⟨#[]⟩, .bool false]) (by kernel_rfl) rfl rfl
theorem k_90 : u00 KS 90 S_90 := u48 (zero := [.int .i64 0, .int .i64 0, .int .i64 0, .int .i64 0, .str ⟨#[]⟩]) (by kernel_rfl) rfl rfl
theorem k_109 : u00 KS 109 S_109 := u5I rfl
theorem k_111 : u00 KS 111 S_111 := u48 (zero := [.int .i64 0, .int .i64 0, .nils]) (by kernel_rfl) rfl rfl
theorem k_112 : u00 KS 112 S_112 := u48 (zero := [.int .i64 0, .int .i64 0, .int .i64 0, .int .i64 0]) (by kernel_rfl) rfl rfl
theorem k_122 : u00 KS 122 S_122 := u5I rfl
theorem k_123 : u00 KS 123 S_123 := deleteS_ok (tb0 := tb0) (zero := [.int .i64 0, .int .i64 0, .int .i64 0, .int .i64 0, .str ⟨#[]⟩]) rfl (by kernel_rfl) rfl (by decide)
theorem k_124 : u00 KS 124 S_124 := u48 (zero := [.int .i64 0]) (by kernel_rfl) rfl rfl
theorem k_146 : u00 KS 146 S_146 := u5I rfl
theorem k0_159 : u00 (calls tb0 (ex tb0)) 159 S_159 := cmpStrS_ok rfl
theorem e0_127 (x : St ti_127) : (symF tb0 (spOf []) 127 (anOf an_127) 1000 ti_127 to_127 x).sem = u2n x := by kernel_rfl
theorem k0_127 : u00 (calls tb0 (ex tb0)) 127 S_127 := plugO (f := 127) (an := anOf an_127) (fuel := 1000) (ti := ti_127) (to := to_127) (F := u2n) (u08) ⟨rfl, by kernel_rfl, by kernel_rfl, rfl, by kernel_rfl, by kernel_rfl⟩ (by kernel_rfl) rfl e0_127
theorem e_127 (x) : sy [] 127 an_127 ti_127 to_127 x = u2n x := by kernel_rfl
theorem k_127 : u00 KS 127 S_127 := pO sN e_127
theorem se0_171 (x : St u3V) : (symF tb0 (spOf []) 171 (anOf an_171) 1000 u3V u4O x).sure = true := by kernel_rfl
theorem e0_171 (x : St u3V) (d : St u4O) : (symF tb0 (spOf []) 171 (anOf an_171) 1000 u3V u4O x).pick d = cmp_isNaN_int x := by kernel_rfl
theorem k0_171 : u00 (calls tb0 (ex tb0)) 171 S_171 := plugT (f := 171) (an := anOf an_171) (fuel := 1000) (ti := u3V) (to := u4O) (F := cmp_isNaN_int) (u08) ⟨rfl, by kernel_rfl, by kernel_rfl, rfl, by kernel_rfl, by kernel_rfl⟩ (by kernel_rfl) rfl se0_171 e0_171
theorem se_171 (x : St u3V) : (symF tbS (spOf []) 171 (anOf an_171) 1000 u3V u4O x).sure = true := by kernel_rfl
theorem e_171 (x : St u3V) (d : St u4O) : (symF tbS (spOf []) 171 (anOf an_171) 1000 u3V u4O x).pick d = cmp_isNaN_int x := by kernel_rfl
theorem k_171 : u00 KS 171 S_171 := plugT (f := 171) (an := anOf an_171) (fuel := 1000) (ti := u3V) (to := u4O) (F := cmp_isNaN_int) (u08) ⟨rfl, by kernel_rfl, by kernel_rfl, rfl, by kernel_rfl, by kernel_rfl⟩ (by kernel_rfl) rfl se_171 e_171
theorem se0_151 (x : St u3W) : (symF tb0 (spOf [(171, S_171)]) 151 (anOf an_151) 1000 u3W u4P x).sure = true := by kernel_rfl
theorem e0_151 (x : St u3W) (d : St u4P) : (symF tb0 (spOf [(171, S_171)]) 151 (anOf an_151) 1000 u3W u4P x).pick d = u0r x := by kernel_rfl
theorem k0_151 : u00 (calls tb0 (ex tb0)) 151 S_151 := plugT (f := 151) (an := anOf an_151) (fuel := 1000) (ti := u3W) (to := u4P) (F := u0r) (u0c k0_171 (u08)) ⟨rfl, by kernel_rfl, by kernel_rfl, rfl, by kernel_rfl, by kernel_rfl⟩ (by kernel_rfl) rfl se0_151 e0_151
theorem se_151 (x : St u3W) : (symF tbS (spOf [(171, S_171)]) 151 (anOf an_151) 1000 u3W u4P x).sure = true := by kernel_rfl
theorem e_151 (x : St u3W) (d : St u4P) : (symF tbS (spOf [(171, S_171)]) 151 (anOf an_151) 1000 u3W u4P x).pick d = u0r x := by kernel_rfl
theorem k_151 : u00 KS 151 S_151 := plugT (f := 151) (an := anOf an_151) (fuel := 1000) (ti := u3W) (to := u4P) (F := u0r) (u0c k_171 (u08)) ⟨rfl, by kernel_rfl, by kernel_rfl, rfl, by kernel_rfl, by kernel_rfl⟩ (by kernel_rfl) rfl se_151 e_151
theorem e0_118 (x : St ti_118) : (symF tb0 (spOf [(127, S_127), (151, S_151)]) 118 (anOf an_118) 1000 ti_118 to_118 x).sem = u1G x := by kernel_rfl
theorem k0_118 : u00 (calls tb0 (ex tb0)) 118 S_118 := plugO (f := 118) (an := anOf an_118) (fuel := 1000) (ti := ti_118) (to := to_118) (F := u1G) (u0c k0_127 (u0c k0_151 (u08))) ⟨rfl, by kernel_rfl, by kernel_rfl, rfl, by kernel_rfl, by kernel_rfl⟩ (by kernel_rfl) rfl e0_118
theorem e_118 (x) : sy [(127, S_127), (151, S_151)] 118 an_118 ti_118 to_118 x = u1G x := by kernel_rfl
theorem k_118 : u00 KS 118 S_118 := pO (sC k_127 (sC k_151 sN)) e_118
theorem se0_128 (x : St ti_128) : (symF tb0 (spOf [(159, S_159)]) 128 (anOf an_128) 1000 ti_128 to_128 x).sure = true := by kernel_rfl
theorem e0_128 (x : St ti_128) (d : St to_128) : (symF tb0 (spOf [(159, S_159)]) 128 (anOf an_128) 1000 ti_128 to_128 x).pick d = u1Q x := by kernel_rfl
theorem k0_128 : u00 (calls tb0 (ex tb0)) 128 S_128 := plugT (f := 128) (an := anOf an_128) (fuel := 1000) (ti := ti_128) (to := to_128) (F := u1Q) (u0c k0_159 (u08)) ⟨rfl, by kernel_rfl, by kernel_rfl, rfl, by kernel_rfl, by kernel_rfl⟩ (by kernel_rfl) rfl se0_128 e0_128
theorem e0_126 (x : St ti_126) : (symF tb0 (spOf [(118, S_118), (127, S_127), (128, S_128)]) 126 (anOf an_126) 1000 ti_126 to_126 x).sem = u0J x := by kernel_rfl
theorem k0_126 : u00 (calls tb0 (ex tb0)) 126 S_126 := plugO (f := 126) (an := anOf an_126) (fuel := 1000) (ti := ti_126) (to := to_126) (F := u0J) (u0c k0_118 (u0c k0_127 (u0c k0_128 (u08)))) ⟨rfl, by kernel_rfl, by kernel_rfl, rfl, by kernel_rfl, by kernel_rfl⟩ (by kernel_rfl) rfl e0_126
theorem k_125 : u00 KS 125 S_125 := sortS_ok rfl u1k rfl
theorem e_154 (x) : sy [(118, S_118)] 154 an_154 ti_154 to_154 x = u2D x := by kernel_rfl
theorem k_154 : u00 KS 154 S_154 := pO (sC k_118 sN) e_154
theorem e_153 (x) : sy [(154, S_154)] 153 an_153 ti_153 to_153 x = u0g x := by kernel_rfl
theorem k_153 : u00 KS 153 S_153 := pO (sC k_154 sN) e_153
theorem e_121 (x) : sy [(153, S_153)] 121 an_121 ti_121 to_121 x = u2Q x := by kernel_rfl
theorem k_121 : u00 KS 121 S_121 := pO (sC k_153 sN) e_121
theorem e_142 (x) : sy [(118, S_118)] 142 an_142 ti_142 to_142 x = u2j x := by kernel_rfl
theorem k_142 : u00 KS 142 S_142 := pO (sC k_118 sN) e_142
theorem e_141 (x) : sy [(142, S_142)] 141 an_141 ti_141 to_141 x = u0h x := by kernel_rfl
theorem k_141 : u00 KS 141 S_141 := pO (sC k_142 sN) e_141
theorem e_108 (x) : sy [(141, S_141)] 108 an_108 ti_108 to_108 x = u3q x := by kernel_rfl
theorem k_108 : u00 KS 108 S_108 := pO (sC k_141 sN) e_108
theorem e_47 (x) : sy [] 47 an_47 ti_47 to_47 x = u0K x := by kernel_rfl
theorem k_47 : u00 KS 47 S_47 := pO sN e_47
theorem e_11 (x) : sy [(47, S_47)] 11 an_11 ti_11 to_11 x = u0Q x := by kernel_rfl
theorem k_11 : u00 KS 11 S_11 := pO (sC k_47 sN) e_11
theorem e_53 (x) : sy [] 53 an_53 ti_53 to_53 x = u0Z x := by kernel_rfl
theorem k_53 : u00 KS 53 S_53 := pO sN e_53
theorem e_14 (x) : sy [(53, S_53)] 14 an_14 ti_14 to_14 x = u0I x := by kernel_rfl
theorem k_14 : u00 KS 14 S_14 := pO (sC k_53 sN) e_14
theorem se_81 (x : St ti_81) : (symF tbS (spOf []) 81 (anOf an_81) 1000 ti_81 to_81 x).sure = true := by kernel_rfl
theorem e_81 (x : St ti_81) (d : St to_81) : (symF tbS (spOf []) 81 (anOf an_81) 1000 ti_81 to_81 x).pick d = u0b x := by kernel_rfl
theorem k_81 : u00 KS 81 S_81 := plugT (f := 81) (an := anOf an_81) (fuel := 1000) (ti := ti_81) (to := to_81) (F := u0b) (u08) ⟨rfl, by kernel_rfl, by kernel_rfl, rfl, by kernel_rfl, by kernel_rfl⟩ (by kernel_rfl) rfl se_81 e_81
theorem e_40 (x) : sy [(81, S_81)] 40 an_40 ti_40 to_40 x = u13 x := by kernel_rfl
theorem k_40 : u00 KS 40 S_40 := pO (sC k_81 sN) e_40
theorem e_39 (x) : sy [(81, S_81)] 39 an_39 ti_39 to_39 x = u0R x := by kernel_rfl
theorem k_39 : u00 KS 39 S_39 := pO (sC k_81 sN) e_39
theorem e_57 (x) : sy [(39, S_39)] 57 an_57 ti_57 to_57 x = u0L x := by kernel_rfl
theorem k_57 : u00 KS 57 S_57 := pO (sC k_39 sN) e_57
theorem e_19 (x) : sy [(40, S_40), (57, S_57)] 19 an_19 ti_19 to_19 x = u1O x := by kernel_rfl
theorem k_19 : u00 KS 19 S_19 := pO (sC k_40 (sC k_57 sN)) e_19
theorem e_41 (x) : sy [] 41 an_41 ti_41 to_41 x = u0E x := by kernel_rfl
theorem k_41 : u00 KS 41 S_41 := pK sN e_41
theorem e_82 (x) : sy [(11, S_11)] 82 an_82 ti_82 to_82 x = u12 x := by kernel_rfl
theorem k_82 : u00 KS 82 S_82 := pO (sC k_11 sN) e_82
theorem e_42 (x) : sy [(82, S_82)] 42 an_42 ti_42 to_42 x = u10 x := by kernel_rfl
theorem k_42 : u00 KS 42 S_42 := pO (sC k_82 sN) e_42
theorem e_7 (x) : sy [(41, S_41), (42, S_42)] 7 an_7 ti_7 to_7 x = u0N x := by kernel_rfl
theorem k_7 : u00 KS 7 S_7 := pO (sC k_41 (sC k_42 sN)) e_7
theorem e_129 (x) : sy [] 129 an_129 ti_129 to_129 x = u1f x := by kernel_rfl
theorem k_129 : u00 KS 129 S_129 := pO sN e_129
theorem e_94 (x) : sy [(129, S_129)] 94 an_94 ti_94 to_94 x = u1g x := by kernel_rfl
theorem k_94 : u00 KS 94 S_94 := pO (sC k_129 sN) e_94
theorem e_58 (x) : sy [(94, S_94)] 58 an_58 ti_58 to_58 x = u11 x := by kernel_rfl
theorem k_58 : u00 KS 58 S_58 := pO (sC k_94 sN) e_58
theorem e_20 (x) : sy [(7, S_7), (58, S_58)] 20 an_20 ti_20 to_20 x = u0n x := by kernel_rfl
theorem k_20 : u00 KS 20 S_20 := pO (sC k_7 (sC k_58 sN)) e_20
theorem e_51 (x) : sy [] 51 an_51 ti_51 to_51 x = u1t x := by kernel_rfl
theorem k_51 : u00 KS 51 S_51 := pO sN e_51
theorem e_92 (x) : sy [(14, S_14)] 92 an_92 ti_92 to_92 x = u1w x := by kernel_rfl
theorem k_92 : u00 KS 92 S_92 := pO (sC k_14 sN) e_92
theorem e_52 (x) : sy [(92, S_92)] 52 an_52 ti_52 to_52 x = u1u x := by kernel_rfl
theorem k_52 : u00 KS 52 S_52 := pO (sC k_92 sN) e_52
theorem e_13 (x) : sy [(51, S_51), (52, S_52)] 13 an_13 ti_13 to_13 x = u18 x := by kernel_rfl
theorem k_13 : u00 KS 13 S_13 := pO (sC k_51 (sC k_52 sN)) e_13
theorem se_99 (x : St ti_99) : (symF tbS (spOf []) 99 (anOf an_99) 1000 ti_99 to_99 x).sure = true := by kernel_rfl
theorem e_99 (x : St ti_99) (d : St to_99) : (symF tbS (spOf []) 99 (anOf an_99) 1000 ti_99 to_99 x).pick d = u1e x := by kernel_rfl
theorem k_99 : u00 KS 99 S_99 := plugT (f := 99) (an := anOf an_99) (fuel := 1000) (ti := ti_99) (to := to_99) (F := u1e) (u08) ⟨rfl, by kernel_rfl, by kernel_rfl, rfl, by kernel_rfl, by kernel_rfl⟩ (by kernel_rfl) rfl se_99 e_99
theorem se_61 (x : St ti_61) : (symF tbS (spOf [(99, S_99)]) 61 (anOf an_61) 1000 ti_61 to_61 x).sure = true := by kernel_rfl
theorem e_61 (x : St ti_61) (d : St to_61) : (symF tbS (spOf [(99, S_99)]) 61 (anOf an_61) 1000 ti_61 to_61 x).pick d = u0s x := by kernel_rfl
theorem k_61 : u00 KS 61 S_61 := plugT (f := 61) (an := anOf an_61) (fuel := 1000) (ti := ti_61) (to := to_61) (F := u0s) (u0c k_99 (u08)) ⟨rfl, by kernel_rfl, by kernel_rfl, rfl, by kernel_rfl, by kernel_rfl⟩ (by kernel_rfl) rfl se_61 e_61
theorem e_74 (x) : sy [(99, S_99)] 74 an_74 ti_74 to_74 x = u1I x := by kernel_rfl
theorem k_74 : u00 KS 74 S_74 := pO (sC k_99 sN) e_74
theorem se_64 (x : St ti_64) : (symF tbS (spOf []) 64 (anOf an_64) 1000 ti_64 to_64 x).sure = true := by kernel_rfl
theorem e_64 (x : St ti_64) (d : St to_64) : (symF tbS (spOf []) 64 (anOf an_64) 1000 ti_64 to_64 x).pick d = u1P x := by kernel_rfl
theorem k_64 : u00 KS 64 S_64 := plugT (f := 64) (an := anOf an_64) (fuel := 1000) (ti := ti_64) (to := to_64) (F := u1P) (u08) ⟨rfl, by kernel_rfl, by kernel_rfl, rfl, by kernel_rfl, by kernel_rfl⟩ (by kernel_rfl) rfl se_64 e_64
theorem se_113 (x : St ti_113) : (symF tbS (spOf []) 113 (anOf an_113) 1000 ti_113 to_113 x).sure = true := by kernel_rfl
theorem e_113 (x : St ti_113) (d : St to_113) : (symF tbS (spOf []) 113 (anOf an_113) 1000 ti_113 to_113 x).pick d = u1p x := by kernel_rfl
theorem k_113 : u00 KS 113 S_113 := plugT (f := 113) (an := anOf an_113) (fuel := 1000) (ti := ti_113) (to := to_113) (F := u1p) (u08) ⟨rfl, by kernel_rfl, by kernel_rfl, rfl, by kernel_rfl, by kernel_rfl⟩ (by kernel_rfl) rfl se_113 e_113
theorem se_75 (x : St ti_75) : (symF tbS (spOf [(61, S_61), (64, S_64), (113, S_113)]) 75 (anOf an_75) 1000 ti_75 to_75 x).sure = true := by kernel_rfl
theorem e_75 (x : St ti_75) (d : St to_75) : (symF tbS (spOf [(61, S_61), (64, S_64), (113, S_113)]) 75 (anOf an_75) 1000 ti_75 to_75 x).pick d = u1q x := by kernel_rfl
theorem k_75 : u00 KS 75 S_75 := plugT (f := 75) (an := anOf an_75) (fuel := 1000) (ti := ti_75) (to := to_75) (F := u1q) (u0c k_61 (u0c k_64 (u0c k_113 (u08)))) ⟨rfl, by kernel_rfl, by kernel_rfl, rfl, by kernel_rfl, by kernel_rfl⟩ (by kernel_rfl) rfl se_75 e_75
theorem e_76 (x) : sy [] 76 an_76 ti_76 to_76 x = u2Z x := by kernel_rfl
theorem k_76 : u00 KS 76 S_76 := pO sN e_76
theorem e_114 (x) : sy [] 114 an_114 ti_114 to_114 x = u1o x := by kernel_rfl
theorem k_114 : u00 KS 114 S_114 := pO sN e_114
theorem e_77 (x) : sy [(114, S_114)] 77 an_77 ti_77 to_77 x = u0X x := by kernel_rfl
theorem k_77 : u00 KS 77 S_77 := pO (sC k_114 sN) e_77
theorem e_35 (x) : sy [(14, S_14), (61, S_61), (74, S_74), (75, S_75), (76, S_76), (77, S_77)] 35 an_35 ti_35 to_35 x = u1E x := by kernel_rfl
theorem k_35 : u00 KS 35 S_35 := pO (sC k_14 (sC k_61 (sC k_74 (sC k_75 (sC k_76 (sC k_77 sN)))))) e_35
theorem e_15 (x) : sy [(35, S_35)] 15 an_15 ti_15 to_15 x = u1r x := by kernel_rfl
theorem k_15 : u00 KS 15 S_15 := pO (sC k_35 sN) e_15
theorem e_43 (x) : sy [] 43 an_43 ti_43 to_43 x = u0P x := by kernel_rfl
theorem k_43 : u00 KS 43 S_43 := pO sN e_43
theorem se_44 (x : St ti_44) : (symF tbS (spOf []) 44 (anOf an_44) 1000 ti_44 to_44 x).sure = true := by kernel_rfl
theorem e_44 (x : St ti_44) (d : St to_44) : (symF tbS (spOf []) 44 (anOf an_44) 1000 ti_44 to_44 x).pick d = u0k x := by kernel_rfl
theorem k_44 : u00 KS 44 S_44 := plugT (f := 44) (an := anOf an_44) (fuel := 1000) (ti := ti_44) (to := to_44) (F := u0k) (u08) ⟨rfl, by kernel_rfl, by kernel_rfl, rfl, by kernel_rfl, by kernel_rfl⟩ (by kernel_rfl) rfl se_44 e_44
theorem e_116 (x) : sy [] 116 an_116 ti_116 to_116 x = u1s x := by kernel_rfl
theorem k_116 : u00 KS 116 S_116 := pO sN e_116
theorem e_117 (x) : sy [(116, S_116)] 117 an_117 ti_117 to_117 x = u1W x := by kernel_rfl
theorem k_117 : u00 KS 117 S_117 := pO (sC k_116 sN) e_117
theorem e_83 (x) : sy [(11, S_11), (41, S_41), (44, S_44), (116, S_116), (117, S_117)] 83 an_83 ti_83 to_83 x = u1X x := by kernel_rfl
theorem k_83 : u00 KS 83 S_83 := pK (sC k_11 (sC k_41 (sC k_44 (sC k_116 (sC k_117 sN))))) e_83
theorem e_45 (x) : sy [(83, S_83)] 45 an_45 ti_45 to_45 x = u0Y x := by kernel_rfl
theorem k_45 : u00 KS 45 S_45 := pK (sC k_83 sN) e_45
theorem e_8 (x) : sy [(13, S_13), (15, S_15), (43, S_43), (44, S_44), (45, S_45)] 8 an_8 ti_8 to_8 x = u1Y x := by kernel_rfl
theorem k_8 : u00 KS 8 S_8 := pO (sC k_13 (sC k_15 (sC k_43 (sC k_44 (sC k_45 sN))))) e_8
theorem e_62 (x) : sy [(61, S_61), (77, S_77)] 62 an_62 ti_62 to_62 x = u20 x := by kernel_rfl
theorem k_62 : u00 KS 62 S_62 := pO (sC k_61 (sC k_77 sN)) e_62
theorem e_22 (x) : sy [(8, S_8), (44, S_44), (61, S_61), (62, S_62)] 22 an_22 ti_22 to_22 x = u1J x := by kernel_rfl
theorem k_22 : u00 KS 22 S_22 := pO (sC k_8 (sC k_44 (sC k_61 (sC k_62 sN)))) e_22
theorem e_137 (x) : sy [] 137 an_137 ti_137 to_137 x = u1L x := by kernel_rfl
theorem k_137 : u00 KS 137 S_137 := pO sN e_137
theorem e_104 (x) : sy [(137, S_137)] 104 an_104 ti_104 to_104 x = u1M x := by kernel_rfl
theorem k_104 : u00 KS 104 S_104 := pO (sC k_137 sN) e_104
theorem e_69 (x) : sy [(104, S_104)] 69 an_69 ti_69 to_69 x = u1v x := by kernel_rfl
theorem k_69 : u00 KS 69 S_69 := pO (sC k_104 sN) e_69
theorem e_28 (x) : sy [(13, S_13), (69, S_69)] 28 an_28 ti_28 to_28 x = u0D x := by kernel_rfl
theorem k_28 : u00 KS 28 S_28 := pO (sC k_13 (sC k_69 sN)) e_28
theorem se_32 (x : St ti_32) : (symF tbS (spOf []) 32 (anOf an_32) 1000 ti_32 to_32 x).sure = true := by kernel_rfl
theorem e_32 (x : St ti_32) (d : St to_32) : (symF tbS (spOf []) 32 (anOf an_32) 1000 ti_32 to_32 x).pick d = u0t x := by kernel_rfl
theorem k_32 : u00 KS 32 S_32 := plugT (f := 32) (an := anOf an_32) (fuel := 1000) (ti := ti_32) (to := to_32) (F := u0t) (u08) ⟨rfl, by kernel_rfl, by kernel_rfl, rfl, by kernel_rfl, by kernel_rfl⟩ (by kernel_rfl) rfl se_32 e_32
theorem se_105 (x : St ti_105) : (symF tbS (spOf []) 105 (anOf an_105) 1000 ti_105 to_105 x).sure = true := by kernel_rfl
theorem e_105 (x : St ti_105) (d : St to_105) : (symF tbS (spOf []) 105 (anOf an_105) 1000 ti_105 to_105 x).pick d = u2L x := by kernel_rfl
theorem k_105 : u00 KS 105 S_105 := plugT (f := 105) (an := anOf an_105) (fuel := 1000) (ti := ti_105) (to := to_105) (F := u2L) (u08) ⟨rfl, by kernel_rfl, by kernel_rfl, rfl, by kernel_rfl, by kernel_rfl⟩ (by kernel_rfl) rfl se_105 e_105
theorem e_106 (x) : sy [] 106 an_106 ti_106 to_106 x = have_Is x := by kernel_rfl
theorem k_106 : u00 KS 106 S_106 := pO sN e_106
theorem se_97 (x : St ti_97) : (symF tbS (spOf []) 97 (anOf an_97) 1000 ti_97 to_97 x).sure = true := by kernel_rfl
theorem e_97 (x : St ti_97) (d : St to_97) : (symF tbS (spOf []) 97 (anOf an_97) 1000 ti_97 to_97 x).pick d = u0i x := by kernel_rfl
theorem k_97 : u00 KS 97 S_97 := plugT (f := 97) (an := anOf an_97) (fuel := 1000) (ti := ti_97) (to := to_97) (F := u0i) (u08) ⟨rfl, by kernel_rfl, by kernel_rfl, rfl, by kernel_rfl, by kernel_rfl⟩ (by kernel_rfl) rfl se_97 e_97
theorem se_162 (x : St ti_162) : (symF tbS (spOf []) 162 (anOf an_162) 1000 ti_162 to_162 x).sure = true := by kernel_rfl
theorem e_162 (x : St ti_162) (d : St to_162) : (symF tbS (spOf []) 162 (anOf an_162) 1000 ti_162 to_162 x).pick d = u2E x := by kernel_rfl
theorem k_162 : u00 KS 162 S_162 := plugT (f := 162) (an := anOf an_162) (fuel := 1000) (ti := ti_162) (to := to_162) (F := u2E) (u08) ⟨rfl, by kernel_rfl, by kernel_rfl, rfl, by kernel_rfl, by kernel_rfl⟩ (by kernel_rfl) rfl se_162 e_162
theorem se_138 (x : St ti_138) : (symF tbS (spOf [(97, S_97), (105, S_105), (162, S_162)]) 138 (anOf an_138) 1000 ti_138 to_138 x).sure = true := by kernel_rfl
theorem e_138 (x : St ti_138) (d : St to_138) : (symF tbS (spOf [(97, S_97), (105, S_105), (162, S_162)]) 138 (anOf an_138) 1000 ti_138 to_138 x).pick d = u2F x := by kernel_rfl
theorem k_138 : u00 KS 138 S_138 := plugT (f := 138) (an := anOf an_138) (fuel := 1000) (ti := ti_138) (to := to_138) (F := u2F) (u0c k_97 (u0c k_105 (u0c k_162 (u08)))) ⟨rfl, by kernel_rfl, by kernel_rfl, rfl, by kernel_rfl, by kernel_rfl⟩ (by kernel_rfl) rfl se_138 e_138
theorem e_139 (x) : sy [] 139 an_139 ti_139 to_139 x = u3P x := by kernel_rfl
theorem k_139 : u00 KS 139 S_139 := pO sN e_139
theorem e_132 (x) : sy [] 132 an_132 ti_132 to_132 x = u2g x := by kernel_rfl
theorem k_132 : u00 KS 132 S_132 := pO sN e_132
theorem se_163 (x : St ti_163) : (symF tbS (spOf []) 163 (anOf an_163) 1000 ti_163 to_163 x).sure = true := by kernel_rfl
theorem e_163 (x : St ti_163) (d : St to_163) : (symF tbS (spOf []) 163 (anOf an_163) 1000 ti_163 to_163 x).pick d = u5w x := by kernel_rfl
theorem k_163 : u00 KS 163 S_163 := plugT (f := 163) (an := anOf an_163) (fuel := 1000) (ti := ti_163) (to := to_163) (F := u5w) (u08) ⟨rfl, by kernel_rfl, by kernel_rfl, rfl, by kernel_rfl, by kernel_rfl⟩ (by kernel_rfl) rfl se_163 e_163
theorem e_140 (x) : sy [(132, S_132), (163, S_163)] 140 an_140 ti_140 to_140 x = u2X x := by kernel_rfl
theorem k_140 : u00 KS 140 S_140 := pO (sC k_132 (sC k_163 sN)) e_140
theorem e_107 (x) : sy [(97, S_97), (138, S_138), (139, S_139), (140, S_140)] 107 an_107 ti_107 to_107 x = u6H x := by kernel_rfl
theorem k_107 : u00 KS 107 S_107 := pO (sC k_97 (sC k_138 (sC k_139 (sC k_140 sN)))) e_107
theorem e_71 (x) : sy [(105, S_105), (106, S_106), (107, S_107)] 71 an_71 ti_71 to_71 x = u5W x := by kernel_rfl
theorem k_71 : u00 KS 71 S_71 := pO (sC k_105 (sC k_106 (sC k_107 sN))) e_71
theorem e_48 (x) : sy [(71, S_71)] 48 an_48 ti_48 to_48 x = u3S x := by kernel_rfl
theorem k_48 : u00 KS 48 S_48 := pO (sC k_71 sN) e_48
theorem e_84 (x) : sy [(118, S_118)] 84 an_84 ti_84 to_84 x = u4F x := by kernel_rfl
theorem k_84 : u00 KS 84 S_84 := pO (sC k_118 sN) e_84
theorem e_152 (x) : sy [] 152 an_152 ti_152 to_152 x = u1H x := by kernel_rfl
theorem k_152 : u00 KS 152 S_152 := pO sN e_152
theorem e_119 (x) : sy [(152, S_152)] 119 an_119 ti_119 to_119 x = u6I x := by kernel_rfl
theorem k_119 : u00 KS 119 S_119 := pO (sC k_152 sN) e_119
theorem e_85 (x) : sy [(119, S_119)] 85 an_85 ti_85 to_85 x = u34 x := by kernel_rfl
theorem k_85 : u00 KS 85 S_85 := pO (sC k_119 sN) e_85
theorem e_91 (x) : sy [(124, S_124)] 91 an_91 ti_91 to_91 x = op_Own x := by kernel_rfl
theorem k_91 : u00 KS 91 S_91 := pK (sC k_124 sN) e_91
theorem e_120 (x) : sy [(121, S_121)] 120 an_120 ti_120 to_120 x = u1F x := by kernel_rfl
theorem k_120 : u00 KS 120 S_120 := pO (sC k_121 sN) e_120
theorem e_86 (x) : sy [(91, S_91), (120, S_120), (121, S_121), (122, S_122)] 86 an_86 ti_86 to_86 x = u19 x := by kernel_rfl
theorem k_86 : u00 KS 86 S_86 := pK (sC k_91 (sC k_120 (sC k_121 (sC k_122 sN)))) e_86
theorem e_87 (x) : sy [] 87 an_87 ti_87 to_87 x = u1m x := by kernel_rfl
theorem k_87 : u00 KS 87 S_87 := pO sN e_87
theorem e_46 (x) : sy [(48, S_48), (84, S_84), (85, S_85), (86, S_86), (87, S_87)] 46 an_46 ti_46 to_46 x = u4M x := by kernel_rfl
theorem k_46 : u00 KS 46 S_46 := pO (sC k_48 (sC k_84 (sC k_85 (sC k_86 (sC k_87 sN))))) e_46
theorem e_130 (x) : sy [(105, S_105), (140, S_140)] 130 an_130 ti_130 to_130 x = u6B x := by kernel_rfl
theorem k_130 : u00 KS 130 S_130 := pO (sC k_105 (sC k_140 sN)) e_130
theorem e_95 (x) : sy [(105, S_105), (118, S_118), (130, S_130)] 95 an_95 ti_95 to_95 x = u36 x := by kernel_rfl
theorem k_95 : u00 KS 95 S_95 := pO (sC k_105 (sC k_118 (sC k_130 sN))) e_95
theorem e_59 (x) : sy [(46, S_46), (95, S_95)] 59 an_59 ti_59 to_59 x = u1a x := by kernel_rfl
theorem k_59 : u00 KS 59 S_59 := pO (sC k_46 (sC k_95 sN)) e_59
theorem e_33 (x) : sy [(59, S_59)] 33 an_33 ti_33 to_33 x = u37 x := by kernel_rfl
theorem k_33 : u00 KS 33 S_33 := pO (sC k_59 sN) e_33
theorem e_88 (x) : sy [(121, S_121), (123, S_123)] 88 an_88 ti_88 to_88 x = u28 x := by kernel_rfl
theorem k_88 : u00 KS 88 S_88 := pK (sC k_121 (sC k_123 sN)) e_88
theorem e_49 (x) : sy [(84, S_84), (86, S_86), (88, S_88), (89, S_89)] 49 an_49 ti_49 to_49 x = u4K x := by kernel_rfl
theorem k_49 : u00 KS 49 S_49 := pK (sC k_84 (sC k_86 (sC k_88 (sC k_89 sN)))) e_49
theorem se_166 (x : St ti_166) : (symF tbS (spOf [(151, S_151)]) 166 (anOf an_166) 1000 ti_166 to_166 x).sure = true := by kernel_rfl
theorem e_166 (x : St ti_166) (d : St to_166) : (symF tbS (spOf [(151, S_151)]) 166 (anOf an_166) 1000 ti_166 to_166 x).pick d = u2H x := by kernel_rfl
theorem k_166 : u00 KS 166 S_166 := plugT (f := 166) (an := anOf an_166) (fuel := 1000) (ti := ti_166) (to := to_166) (F := u2H) (u0c k_151 (u08)) ⟨rfl, by kernel_rfl, by kernel_rfl, rfl, by kernel_rfl, by kernel_rfl⟩ (by kernel_rfl) rfl se_166 e_166
theorem e_165 (x) : sy [(166, S_166)] 165 an_165 ti_165 to_165 x = u0o x := by kernel_rfl
theorem k_165 : u00 KS 165 S_165 := pO (sC k_166 sN) e_165
theorem e_145 (x) : sy [(165, S_165)] 145 an_145 ti_145 to_145 x = u4Y x := by kernel_rfl
theorem k_145 : u00 KS 145 S_145 := pO (sC k_165 sN) e_145
theorem e_110 (x) : sy [(112, S_112), (118, S_118), (145, S_145), (146, S_146)] 110 an_110 ti_110 to_110 x = u5u x := by kernel_rfl
theorem k_110 : u00 KS 110 S_110 := pK (sC k_112 (sC k_118 (sC k_145 (sC k_146 sN)))) e_110
theorem e_72 (x) : sy [(49, S_49), (108, S_108), (109, S_109), (110, S_110)] 72 an_72 ti_72 to_72 x = u2S x := by kernel_rfl
theorem k_72 : u00 KS 72 S_72 := pK (sC k_49 (sC k_108 (sC k_109 (sC k_110 sN)))) e_72
theorem e_50 (x) : sy [(89, S_89), (90, S_90), (91, S_91)] 50 an_50 ti_50 to_50 x = u4L x := by kernel_rfl
theorem k_50 : u00 KS 50 S_50 := pK (sC k_89 (sC k_90 (sC k_91 sN))) e_50
theorem e_73 (x) : sy [(50, S_50), (111, S_111), (112, S_112)] 73 an_73 ti_73 to_73 x = u3s x := by kernel_rfl
theorem k_73 : u00 KS 73 S_73 := pK (sC k_50 (sC k_111 (sC k_112 sN))) e_73
theorem e_34 (x) : sy [(59, S_59), (71, S_71), (72, S_72), (73, S_73)] 34 an_34 ti_34 to_34 x = u2f x := by kernel_rfl
theorem k_34 : u00 KS 34 S_34 := pK (sC k_59 (sC k_71 (sC k_72 (sC k_73 sN)))) e_34
theorem e_16 (x) : sy [(43, S_43), (44, S_44), (45, S_45)] 16 an_16 ti_16 to_16 x = u1K x := by kernel_rfl
theorem k_16 : u00 KS 16 S_16 := pO (sC k_43 (sC k_44 (sC k_45 sN))) e_16
theorem e_78 (x) : sy [(44, S_44)] 78 an_78 ti_78 to_78 x = u1h x := by kernel_rfl
theorem k_78 : u00 KS 78 S_78 := pO (sC k_44 sN) e_78
theorem e_36 (x) : sy [(7, S_7), (16, S_16), (20, S_20), (44, S_44), (78, S_78)] 36 an_36 ti_36 to_36 x = u1Z x := by kernel_rfl
theorem k_36 : u00 KS 36 S_36 := pO (sC k_7 (sC k_16 (sC k_20 (sC k_44 (sC k_78 sN))))) e_36
theorem se_55 (x : St ti_55) : (symF tbS (spOf []) 55 (anOf an_55) 1000 ti_55 to_55 x).sure = true := by kernel_rfl
theorem e_55 (x : St ti_55) (d : St to_55) : (symF tbS (spOf []) 55 (anOf an_55) 1000 ti_55 to_55 x).pick d = u06 x := by kernel_rfl
theorem k_55 : u00 KS 55 S_55 := plugT (f := 55) (an := anOf an_55) (fuel := 1000) (ti := ti_55) (to := to_55) (F := u06) (u08) ⟨rfl, by kernel_rfl, by kernel_rfl, rfl, by kernel_rfl, by kernel_rfl⟩ (by kernel_rfl) rfl se_55 e_55
theorem e_93 (x) : sy [(125, S_125)] 93 an_93 ti_93 to_93 x = u2q x := by kernel_rfl
theorem k_93 : u00 KS 93 S_93 := pO (sC k_125 sN) e_93
theorem e_186 (x) : sy [(121, S_121)] 186 an_186 ti_186 to_186 x = u3T x := by kernel_rfl
theorem k_186 : u00 KS 186 S_186 := pO (sC k_121 sN) e_186
theorem e_169 (x) : sy [(186, S_186)] 169 an_169 ti_169 to_169 x = u6o x := by kernel_rfl
theorem k_169 : u00 KS 169 S_169 := pO (sC k_186 sN) e_169
theorem e_147 (x) : sy [(97, S_97), (169, S_169)] 147 an_147 ti_147 to_147 x = u31 x := by kernel_rfl
theorem k_147 : u00 KS 147 S_147 := pO (sC k_97 (sC k_169 sN)) e_147
theorem se_149 (x : St ti_149) : (symF tbS (spOf []) 149 (anOf an_149) 1000 ti_149 to_149 x).sure = true := by kernel_rfl
theorem e_149 (x : St ti_149) (d : St to_149) : (symF tbS (spOf []) 149 (anOf an_149) 1000 ti_149 to_149 x).pick d = u3B x := by kernel_rfl
theorem k_149 : u00 KS 149 S_149 := plugT (f := 149) (an := anOf an_149) (fuel := 1000) (ti := ti_149) (to := to_149) (F := u3B) (u08) ⟨rfl, by kernel_rfl, by kernel_rfl, rfl, by kernel_rfl, by kernel_rfl⟩ (by kernel_rfl) rfl se_149 e_149
theorem e_148 (x) : sy [(149, S_149)] 148 an_148 ti_148 to_148 x = u1T x := by kernel_rfl
theorem k_148 : u00 KS 148 S_148 := pO (sC k_149 sN) e_148
theorem e_170 (x) : sy [] 170 an_170 ti_170 to_170 x = key_at x := by kernel_rfl
theorem k_170 : u00 KS 170 S_170 := pO sN e_170
theorem e_150 (x) : sy [(139, S_139), (170, S_170)] 150 an_150 ti_150 to_150 x = u3b x := by kernel_rfl
theorem k_150 : u00 KS 150 S_150 := pO (sC k_139 (sC k_170 sN)) e_150
theorem e_115 (x) : sy [(93, S_93), (97, S_97), (147, S_147), (148, S_148), (150, S_150)] 115 an_115 ti_115 to_115 x = u4T x := by kernel_rfl
theorem k_115 : u00 KS 115 S_115 := pO (sC k_93 (sC k_97 (sC k_147 (sC k_148 (sC k_150 sN))))) e_115
theorem e_80 (x) : sy [(59, S_59), (115, S_115)] 80 an_80 ti_80 to_80 x = u3r x := by kernel_rfl
theorem k_80 : u00 KS 80 S_80 := pO (sC k_59 (sC k_115 sN)) e_80
theorem e_1000034 (x) : sy [(59, S_59), (71, S_71), (72, S_72), (73, S_73)] 1000034 an_1000034 ti_1000034 to_1000034 x = u2t x := by kernel_rfl
theorem k_1000034 : u00 KS 1000034 S_1000034 := pO (sC k_59 (sC k_71 (sC k_72 (sC k_73 sN)))) e_1000034
theorem e_38 (x) : sy [(32, S_32), (55, S_55), (80, S_80), (1000034, S_1000034)] 38 an_38 ti_38 to_38 x = u1N x := by kernel_rfl
theorem k_38 : u00 KS 38 S_38 := pO (sC k_32 (sC k_55 (sC k_80 (sC k_1000034 sN)))) e_38
theorem e_5 (x) : sy [(11, S_11), (14, S_14), (19, S_19), (20, S_20), (22, S_22), (28, S_28), (32, S_32), (33, S_33), (34, S_34), (35, S_35), (36, S_36), (37, S_37), (38, S_38)] 5 an_5 ti_5 to_5 x = u0T x := by kernel_rfl
theorem k_5 : u00 KS 5 S_5 := pO (sC k_11 (sC k_14 (sC k_19 (sC k_20 (sC k_22 (sC k_28 (sC k_32 (sC k_33 (sC k_34 (sC k_35 (sC k_36 (sC k_37 (sC k_38 sN))))))))))))) e_5
end
end Go.Dv
