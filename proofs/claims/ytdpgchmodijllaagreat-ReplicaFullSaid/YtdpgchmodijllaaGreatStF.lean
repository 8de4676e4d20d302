/- The law ReplicaFull, run part by part (6). -/
import Derived.Test.YtdpgchmodijllaaGreatStE
set_option linter.unusedVariables false
set_option linter.unusedSimpArgs false
set_option maxRecDepth 100000
namespace Go.Dv
def R_453 (y : Nat → DV) : List DV := [I (47), I (0), I (47), .row 1 [[I (46)]], I (1), I (47), I (0), I (0), I (0), .str ⟨#[255, 255, 255, 255, 255, 254]⟩, I (0), I (0)]
def Y_126 (y : Nat → DV) : List (List DV) := Y_123 y ++ [R_453 y]
def V_454 (y : Nat → DV) : DV := .row 12 (Y_126 y)
def R_455 (y : Nat → DV) : List DV := [I (47), I (0), I (0), I (0), .str ⟨#[255, 255, 255, 255, 255, 254]⟩]
def Y_127 (y : Nat → DV) : List (List DV) := Y_124 y ++ [R_455 y]
def V_456 (y : Nat → DV) : DV := .row 5 (Y_127 y)
def R_457 (y : Nat → DV) : List DV := [I (47), I (0), I (47), .row 1 [[I (46)]], I (1), I (47), I (0), I (0), I (0), .str ⟨#[255, 255, 255, 255, 255, 254]⟩, I (0), I (0), .bool false, I (0), I (0), .str ⟨#[]⟩, .bool false]
def Y_128 (y : Nat → DV) : List (List DV) := Y_125 y ++ [R_457 y]
def V_458 (y : Nat → DV) : DV := .row 17 (Y_128 y)
def V_459 (y : Nat → DV) : DV := .agg [I (0), I (47), .row 1 [[I (47)]], V_454 y, .nils, V_456 y, V_458 y, .nils, I (0), I (0), I (0)]
def V_460 (y : Nat → DV) : DV := .agg [I (0), I (47), I (0), .nils, I (0), I (0), .cell, .cell, .nils]
def L_52 (y : Nat → DV) : List DV := setL (L_6 y) [(6, I (47)), (7, .ptr false 95 95 0 0), (8, .ptr false 96 96 0 0), (22, I (46)), (24, I (46)), (25, I (47)), (26, .tup [V_459 y, V_460 y, I (0)]), (27, V_449 y), (29, .tup [V_459 y, V_460 y, I (0)]), (30, V_459 y), (31, V_460 y), (37, .ptr false 96 96 0 0), (57, .ptr false 96 96 0 0), (61, I (46)), (65, V_459 y), (66, .ptr false 96 96 0 0), (69, .ptr false 96 96 0 1), (70, .agg [I (47), I (0)])]
def R_461 (y : Nat → DV) : List DV := [I (0), I (47), .row 1 [[I (47)]], V_454 y, .nils, V_456 y, V_458 y, .nils, I (0), I (0), I (0)]
def R_462 (y : Nat → DV) : List DV := [I (0), I (47), I (0), .nils, I (0), I (0), .cell, .cell, .nils]
def X_44 (y : Nat → DV) : List Blk := X_43 y ++ [⟨95, 11, [R_461 y]⟩, ⟨96, 9, [R_462 y]⟩]
def H_50 (y : Nat → DV) : Hp := ⟨([⟨0, 12, [R_1 y]⟩, ⟨1, 11, [R_461 y]⟩, ⟨2, 2, [[I (47), I (0)]]⟩] ++ X_44 y), [], 97⟩
theorem t_51 (y : Nat → DV) : ex tbX C_16 (L_51 y) (H_49 y) = some (.normal, L_52 y, H_50 y) := st_fast 100000 (by kernel_rfl)
def R_463 (y : Nat → DV) : List DV := [I (48), I (0), I (48), .row 1 [[I (47)]], I (1), I (48), I (0), I (0), I (0), .str ⟨#[255, 255, 255, 255, 255, 255]⟩, I (0), I (0)]
def Y_129 (y : Nat → DV) : List (List DV) := Y_126 y ++ [R_463 y]
def V_464 (y : Nat → DV) : DV := .row 12 (Y_129 y)
def R_465 (y : Nat → DV) : List DV := [I (48), I (0), I (0), I (0), .str ⟨#[255, 255, 255, 255, 255, 255]⟩]
def Y_130 (y : Nat → DV) : List (List DV) := Y_127 y ++ [R_465 y]
def V_466 (y : Nat → DV) : DV := .row 5 (Y_130 y)
def R_467 (y : Nat → DV) : List DV := [I (48), I (0), I (48), .row 1 [[I (47)]], I (1), I (48), I (0), I (0), I (0), .str ⟨#[255, 255, 255, 255, 255, 255]⟩, I (0), I (0), .bool false, I (0), I (0), .str ⟨#[]⟩, .bool false]
def Y_131 (y : Nat → DV) : List (List DV) := Y_128 y ++ [R_467 y]
def V_468 (y : Nat → DV) : DV := .row 17 (Y_131 y)
def V_469 (y : Nat → DV) : DV := .agg [I (0), I (48), .row 1 [[I (48)]], V_464 y, .nils, V_466 y, V_468 y, .nils, I (0), I (0), I (0)]
def V_470 (y : Nat → DV) : DV := .agg [I (0), I (48), I (0), .nils, I (0), I (0), .cell, .cell, .nils]
def L_53 (y : Nat → DV) : List DV := setL (L_6 y) [(6, I (48)), (7, .ptr false 97 97 0 0), (8, .ptr false 98 98 0 0), (22, I (47)), (24, I (47)), (25, I (48)), (26, .tup [V_469 y, V_470 y, I (0)]), (27, V_459 y), (29, .tup [V_469 y, V_470 y, I (0)]), (30, V_469 y), (31, V_470 y), (37, .ptr false 98 98 0 0), (57, .ptr false 98 98 0 0), (61, I (47)), (65, V_469 y), (66, .ptr false 98 98 0 0), (69, .ptr false 98 98 0 1), (70, .agg [I (48), I (0)])]
def R_471 (y : Nat → DV) : List DV := [I (0), I (48), .row 1 [[I (48)]], V_464 y, .nils, V_466 y, V_468 y, .nils, I (0), I (0), I (0)]
def R_472 (y : Nat → DV) : List DV := [I (0), I (48), I (0), .nils, I (0), I (0), .cell, .cell, .nils]
def X_45 (y : Nat → DV) : List Blk := X_44 y ++ [⟨97, 11, [R_471 y]⟩, ⟨98, 9, [R_472 y]⟩]
def H_51 (y : Nat → DV) : Hp := ⟨([⟨0, 12, [R_1 y]⟩, ⟨1, 11, [R_471 y]⟩, ⟨2, 2, [[I (48), I (0)]]⟩] ++ X_45 y), [], 99⟩
theorem t_52 (y : Nat → DV) : ex tbX C_16 (L_52 y) (H_50 y) = some (.normal, L_53 y, H_51 y) := st_fast 100000 (by kernel_rfl)
end Go.Dv
