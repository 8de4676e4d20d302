/- The law ReplicaFull, run part by part (5). -/
import Derived.Test.YtdpgchmodijllaaGreatStD
set_option linter.unusedVariables false
set_option linter.unusedSimpArgs false
set_option maxRecDepth 100000
namespace Go.Dv
def R_413 (y : Nat → DV) : List DV := [I (43), I (0), I (43), .row 1 [[I (42)]], I (1), I (43), I (0), I (0), I (0), .str ⟨#[255, 255, 255, 255, 255, 224]⟩, I (0), I (0)]
def Y_114 (y : Nat → DV) : List (List DV) := Y_111 y ++ [R_413 y]
def V_414 (y : Nat → DV) : DV := .row 12 (Y_114 y)
def R_415 (y : Nat → DV) : List DV := [I (43), I (0), I (0), I (0), .str ⟨#[255, 255, 255, 255, 255, 224]⟩]
def Y_115 (y : Nat → DV) : List (List DV) := Y_112 y ++ [R_415 y]
def V_416 (y : Nat → DV) : DV := .row 5 (Y_115 y)
def R_417 (y : Nat → DV) : List DV := [I (43), I (0), I (43), .row 1 [[I (42)]], I (1), I (43), I (0), I (0), I (0), .str ⟨#[255, 255, 255, 255, 255, 224]⟩, I (0), I (0), .bool false, I (0), I (0), .str ⟨#[]⟩, .bool false]
def Y_116 (y : Nat → DV) : List (List DV) := Y_113 y ++ [R_417 y]
def V_418 (y : Nat → DV) : DV := .row 17 (Y_116 y)
def V_419 (y : Nat → DV) : DV := .agg [I (0), I (43), .row 1 [[I (43)]], V_414 y, .nils, V_416 y, V_418 y, .nils, I (0), I (0), I (0)]
def V_420 (y : Nat → DV) : DV := .agg [I (0), I (43), I (0), .nils, I (0), I (0), .cell, .cell, .nils]
def L_48 (y : Nat → DV) : List DV := setL (L_6 y) [(6, I (43)), (7, .ptr false 87 87 0 0), (8, .ptr false 88 88 0 0), (22, I (42)), (24, I (42)), (25, I (43)), (26, .tup [V_419 y, V_420 y, I (0)]), (27, V_409 y), (29, .tup [V_419 y, V_420 y, I (0)]), (30, V_419 y), (31, V_420 y), (37, .ptr false 88 88 0 0), (57, .ptr false 88 88 0 0), (61, I (42)), (65, V_419 y), (66, .ptr false 88 88 0 0), (69, .ptr false 88 88 0 1), (70, .agg [I (43), I (0)])]
def R_421 (y : Nat → DV) : List DV := [I (0), I (43), .row 1 [[I (43)]], V_414 y, .nils, V_416 y, V_418 y, .nils, I (0), I (0), I (0)]
def R_422 (y : Nat → DV) : List DV := [I (0), I (43), I (0), .nils, I (0), I (0), .cell, .cell, .nils]
def X_40 (y : Nat → DV) : List Blk := X_39 y ++ [⟨87, 11, [R_421 y]⟩, ⟨88, 9, [R_422 y]⟩]
def H_46 (y : Nat → DV) : Hp := ⟨([⟨0, 12, [R_1 y]⟩, ⟨1, 11, [R_421 y]⟩, ⟨2, 2, [[I (43), I (0)]]⟩] ++ X_40 y), [], 89⟩
theorem t_47 (y : Nat → DV) : ex tbX C_16 (L_47 y) (H_45 y) = some (.normal, L_48 y, H_46 y) := st_fast 100000 (by kernel_rfl)
def R_423 (y : Nat → DV) : List DV := [I (44), I (0), I (44), .row 1 [[I (43)]], I (1), I (44), I (0), I (0), I (0), .str ⟨#[255, 255, 255, 255, 255, 240]⟩, I (0), I (0)]
def Y_117 (y : Nat → DV) : List (List DV) := Y_114 y ++ [R_423 y]
def V_424 (y : Nat → DV) : DV := .row 12 (Y_117 y)
def R_425 (y : Nat → DV) : List DV := [I (44), I (0), I (0), I (0), .str ⟨#[255, 255, 255, 255, 255, 240]⟩]
def Y_118 (y : Nat → DV) : List (List DV) := Y_115 y ++ [R_425 y]
def V_426 (y : Nat → DV) : DV := .row 5 (Y_118 y)
def R_427 (y : Nat → DV) : List DV := [I (44), I (0), I (44), .row 1 [[I (43)]], I (1), I (44), I (0), I (0), I (0), .str ⟨#[255, 255, 255, 255, 255, 240]⟩, I (0), I (0), .bool false, I (0), I (0), .str ⟨#[]⟩, .bool false]
def Y_119 (y : Nat → DV) : List (List DV) := Y_116 y ++ [R_427 y]
def V_428 (y : Nat → DV) : DV := .row 17 (Y_119 y)
def V_429 (y : Nat → DV) : DV := .agg [I (0), I (44), .row 1 [[I (44)]], V_424 y, .nils, V_426 y, V_428 y, .nils, I (0), I (0), I (0)]
def V_430 (y : Nat → DV) : DV := .agg [I (0), I (44), I (0), .nils, I (0), I (0), .cell, .cell, .nils]
def L_49 (y : Nat → DV) : List DV := setL (L_6 y) [(6, I (44)), (7, .ptr false 89 89 0 0), (8, .ptr false 90 90 0 0), (22, I (43)), (24, I (43)), (25, I (44)), (26, .tup [V_429 y, V_430 y, I (0)]), (27, V_419 y), (29, .tup [V_429 y, V_430 y, I (0)]), (30, V_429 y), (31, V_430 y), (37, .ptr false 90 90 0 0), (57, .ptr false 90 90 0 0), (61, I (43)), (65, V_429 y), (66, .ptr false 90 90 0 0), (69, .ptr false 90 90 0 1), (70, .agg [I (44), I (0)])]
def R_431 (y : Nat → DV) : List DV := [I (0), I (44), .row 1 [[I (44)]], V_424 y, .nils, V_426 y, V_428 y, .nils, I (0), I (0), I (0)]
def R_432 (y : Nat → DV) : List DV := [I (0), I (44), I (0), .nils, I (0), I (0), .cell, .cell, .nils]
def X_41 (y : Nat → DV) : List Blk := X_40 y ++ [⟨89, 11, [R_431 y]⟩, ⟨90, 9, [R_432 y]⟩]
def H_47 (y : Nat → DV) : Hp := ⟨([⟨0, 12, [R_1 y]⟩, ⟨1, 11, [R_431 y]⟩, ⟨2, 2, [[I (44), I (0)]]⟩] ++ X_41 y), [], 91⟩
theorem t_48 (y : Nat → DV) : ex tbX C_16 (L_48 y) (H_46 y) = some (.normal, L_49 y, H_47 y) := st_fast 100000 (by kernel_rfl)
def R_433 (y : Nat → DV) : List DV := [I (45), I (0), I (45), .row 1 [[I (44)]], I (1), I (45), I (0), I (0), I (0), .str ⟨#[255, 255, 255, 255, 255, 248]⟩, I (0), I (0)]
def Y_120 (y : Nat → DV) : List (List DV) := Y_117 y ++ [R_433 y]
def V_434 (y : Nat → DV) : DV := .row 12 (Y_120 y)
def R_435 (y : Nat → DV) : List DV := [I (45), I (0), I (0), I (0), .str ⟨#[255, 255, 255, 255, 255, 248]⟩]
def Y_121 (y : Nat → DV) : List (List DV) := Y_118 y ++ [R_435 y]
def V_436 (y : Nat → DV) : DV := .row 5 (Y_121 y)
def R_437 (y : Nat → DV) : List DV := [I (45), I (0), I (45), .row 1 [[I (44)]], I (1), I (45), I (0), I (0), I (0), .str ⟨#[255, 255, 255, 255, 255, 248]⟩, I (0), I (0), .bool false, I (0), I (0), .str ⟨#[]⟩, .bool false]
def Y_122 (y : Nat → DV) : List (List DV) := Y_119 y ++ [R_437 y]
def V_438 (y : Nat → DV) : DV := .row 17 (Y_122 y)
def V_439 (y : Nat → DV) : DV := .agg [I (0), I (45), .row 1 [[I (45)]], V_434 y, .nils, V_436 y, V_438 y, .nils, I (0), I (0), I (0)]
def V_440 (y : Nat → DV) : DV := .agg [I (0), I (45), I (0), .nils, I (0), I (0), .cell, .cell, .nils]
def L_50 (y : Nat → DV) : List DV := setL (L_6 y) [(6, I (45)), (7, .ptr false 91 91 0 0), (8, .ptr false 92 92 0 0), (22, I (44)), (24, I (44)), (25, I (45)), (26, .tup [V_439 y, V_440 y, I (0)]), (27, V_429 y), (29, .tup [V_439 y, V_440 y, I (0)]), (30, V_439 y), (31, V_440 y), (37, .ptr false 92 92 0 0), (57, .ptr false 92 92 0 0), (61, I (44)), (65, V_439 y), (66, .ptr false 92 92 0 0), (69, .ptr false 92 92 0 1), (70, .agg [I (45), I (0)])]
def R_441 (y : Nat → DV) : List DV := [I (0), I (45), .row 1 [[I (45)]], V_434 y, .nils, V_436 y, V_438 y, .nils, I (0), I (0), I (0)]
def R_442 (y : Nat → DV) : List DV := [I (0), I (45), I (0), .nils, I (0), I (0), .cell, .cell, .nils]
def X_42 (y : Nat → DV) : List Blk := X_41 y ++ [⟨91, 11, [R_441 y]⟩, ⟨92, 9, [R_442 y]⟩]
def H_48 (y : Nat → DV) : Hp := ⟨([⟨0, 12, [R_1 y]⟩, ⟨1, 11, [R_441 y]⟩, ⟨2, 2, [[I (45), I (0)]]⟩] ++ X_42 y), [], 93⟩
theorem t_49 (y : Nat → DV) : ex tbX C_16 (L_49 y) (H_47 y) = some (.normal, L_50 y, H_48 y) := st_fast 100000 (by kernel_rfl)
def R_443 (y : Nat → DV) : List DV := [I (46), I (0), I (46), .row 1 [[I (45)]], I (1), I (46), I (0), I (0), I (0), .str ⟨#[255, 255, 255, 255, 255, 252]⟩, I (0), I (0)]
def Y_123 (y : Nat → DV) : List (List DV) := Y_120 y ++ [R_443 y]
def V_444 (y : Nat → DV) : DV := .row 12 (Y_123 y)
def R_445 (y : Nat → DV) : List DV := [I (46), I (0), I (0), I (0), .str ⟨#[255, 255, 255, 255, 255, 252]⟩]
def Y_124 (y : Nat → DV) : List (List DV) := Y_121 y ++ [R_445 y]
def V_446 (y : Nat → DV) : DV := .row 5 (Y_124 y)
def R_447 (y : Nat → DV) : List DV := [I (46), I (0), I (46), .row 1 [[I (45)]], I (1), I (46), I (0), I (0), I (0), .str ⟨#[255, 255, 255, 255, 255, 252]⟩, I (0), I (0), .bool false, I (0), I (0), .str ⟨#[]⟩, .bool false]
def Y_125 (y : Nat → DV) : List (List DV) := Y_122 y ++ [R_447 y]
def V_448 (y : Nat → DV) : DV := .row 17 (Y_125 y)
def V_449 (y : Nat → DV) : DV := .agg [I (0), I (46), .row 1 [[I (46)]], V_444 y, .nils, V_446 y, V_448 y, .nils, I (0), I (0), I (0)]
def V_450 (y : Nat → DV) : DV := .agg [I (0), I (46), I (0), .nils, I (0), I (0), .cell, .cell, .nils]
def L_51 (y : Nat → DV) : List DV := setL (L_6 y) [(6, I (46)), (7, .ptr false 93 93 0 0), (8, .ptr false 94 94 0 0), (22, I (45)), (24, I (45)), (25, I (46)), (26, .tup [V_449 y, V_450 y, I (0)]), (27, V_439 y), (29, .tup [V_449 y, V_450 y, I (0)]), (30, V_449 y), (31, V_450 y), (37, .ptr false 94 94 0 0), (57, .ptr false 94 94 0 0), (61, I (45)), (65, V_449 y), (66, .ptr false 94 94 0 0), (69, .ptr false 94 94 0 1), (70, .agg [I (46), I (0)])]
def R_451 (y : Nat → DV) : List DV := [I (0), I (46), .row 1 [[I (46)]], V_444 y, .nils, V_446 y, V_448 y, .nils, I (0), I (0), I (0)]
def R_452 (y : Nat → DV) : List DV := [I (0), I (46), I (0), .nils, I (0), I (0), .cell, .cell, .nils]
def X_43 (y : Nat → DV) : List Blk := X_42 y ++ [⟨93, 11, [R_451 y]⟩, ⟨94, 9, [R_452 y]⟩]
def H_49 (y : Nat → DV) : Hp := ⟨([⟨0, 12, [R_1 y]⟩, ⟨1, 11, [R_451 y]⟩, ⟨2, 2, [[I (46), I (0)]]⟩] ++ X_43 y), [], 95⟩
theorem t_50 (y : Nat → DV) : ex tbX C_16 (L_50 y) (H_48 y) = some (.normal, L_51 y, H_49 y) := st_fast 100000 (by kernel_rfl)
end Go.Dv
