/- The law ReplicaFull, run part by part (4). -/
import Derived.Test.YtdpgchmodijllaaGreatStC
set_option linter.unusedVariables false
set_option linter.unusedSimpArgs false
set_option maxRecDepth 100000
namespace Go.Dv
def R_363 (y : Nat → DV) : List DV := [I (38), I (0), I (38), .row 1 [[I (37)]], I (1), I (38), I (0), I (0), I (0), .str ⟨#[255, 255, 255, 255, 252]⟩, I (0), I (0)]
def Y_99 (y : Nat → DV) : List (List DV) := Y_96 y ++ [R_363 y]
def V_364 (y : Nat → DV) : DV := .row 12 (Y_99 y)
def R_365 (y : Nat → DV) : List DV := [I (38), I (0), I (0), I (0), .str ⟨#[255, 255, 255, 255, 252]⟩]
def Y_100 (y : Nat → DV) : List (List DV) := Y_97 y ++ [R_365 y]
def V_366 (y : Nat → DV) : DV := .row 5 (Y_100 y)
def R_367 (y : Nat → DV) : List DV := [I (38), I (0), I (38), .row 1 [[I (37)]], I (1), I (38), I (0), I (0), I (0), .str ⟨#[255, 255, 255, 255, 252]⟩, I (0), I (0), .bool false, I (0), I (0), .str ⟨#[]⟩, .bool false]
def Y_101 (y : Nat → DV) : List (List DV) := Y_98 y ++ [R_367 y]
def V_368 (y : Nat → DV) : DV := .row 17 (Y_101 y)
def V_369 (y : Nat → DV) : DV := .agg [I (0), I (38), .row 1 [[I (38)]], V_364 y, .nils, V_366 y, V_368 y, .nils, I (0), I (0), I (0)]
def V_370 (y : Nat → DV) : DV := .agg [I (0), I (38), I (0), .nils, I (0), I (0), .cell, .cell, .nils]
def L_43 (y : Nat → DV) : List DV := setL (L_6 y) [(6, I (38)), (7, .ptr false 77 77 0 0), (8, .ptr false 78 78 0 0), (22, I (37)), (24, I (37)), (25, I (38)), (26, .tup [V_369 y, V_370 y, I (0)]), (27, V_359 y), (29, .tup [V_369 y, V_370 y, I (0)]), (30, V_369 y), (31, V_370 y), (37, .ptr false 78 78 0 0), (57, .ptr false 78 78 0 0), (61, I (37)), (65, V_369 y), (66, .ptr false 78 78 0 0), (69, .ptr false 78 78 0 1), (70, .agg [I (38), I (0)])]
def R_371 (y : Nat → DV) : List DV := [I (0), I (38), .row 1 [[I (38)]], V_364 y, .nils, V_366 y, V_368 y, .nils, I (0), I (0), I (0)]
def R_372 (y : Nat → DV) : List DV := [I (0), I (38), I (0), .nils, I (0), I (0), .cell, .cell, .nils]
def X_35 (y : Nat → DV) : List Blk := X_34 y ++ [⟨77, 11, [R_371 y]⟩, ⟨78, 9, [R_372 y]⟩]
def H_41 (y : Nat → DV) : Hp := ⟨([⟨0, 12, [R_1 y]⟩, ⟨1, 11, [R_371 y]⟩, ⟨2, 2, [[I (38), I (0)]]⟩] ++ X_35 y), [], 79⟩
theorem t_42 (y : Nat → DV) : ex tbX C_16 (L_42 y) (H_40 y) = some (.normal, L_43 y, H_41 y) := st_fast 100000 (by kernel_rfl)
def R_373 (y : Nat → DV) : List DV := [I (39), I (0), I (39), .row 1 [[I (38)]], I (1), I (39), I (0), I (0), I (0), .str ⟨#[255, 255, 255, 255, 254]⟩, I (0), I (0)]
def Y_102 (y : Nat → DV) : List (List DV) := Y_99 y ++ [R_373 y]
def V_374 (y : Nat → DV) : DV := .row 12 (Y_102 y)
def R_375 (y : Nat → DV) : List DV := [I (39), I (0), I (0), I (0), .str ⟨#[255, 255, 255, 255, 254]⟩]
def Y_103 (y : Nat → DV) : List (List DV) := Y_100 y ++ [R_375 y]
def V_376 (y : Nat → DV) : DV := .row 5 (Y_103 y)
def R_377 (y : Nat → DV) : List DV := [I (39), I (0), I (39), .row 1 [[I (38)]], I (1), I (39), I (0), I (0), I (0), .str ⟨#[255, 255, 255, 255, 254]⟩, I (0), I (0), .bool false, I (0), I (0), .str ⟨#[]⟩, .bool false]
def Y_104 (y : Nat → DV) : List (List DV) := Y_101 y ++ [R_377 y]
def V_378 (y : Nat → DV) : DV := .row 17 (Y_104 y)
def V_379 (y : Nat → DV) : DV := .agg [I (0), I (39), .row 1 [[I (39)]], V_374 y, .nils, V_376 y, V_378 y, .nils, I (0), I (0), I (0)]
def V_380 (y : Nat → DV) : DV := .agg [I (0), I (39), I (0), .nils, I (0), I (0), .cell, .cell, .nils]
def L_44 (y : Nat → DV) : List DV := setL (L_6 y) [(6, I (39)), (7, .ptr false 79 79 0 0), (8, .ptr false 80 80 0 0), (22, I (38)), (24, I (38)), (25, I (39)), (26, .tup [V_379 y, V_380 y, I (0)]), (27, V_369 y), (29, .tup [V_379 y, V_380 y, I (0)]), (30, V_379 y), (31, V_380 y), (37, .ptr false 80 80 0 0), (57, .ptr false 80 80 0 0), (61, I (38)), (65, V_379 y), (66, .ptr false 80 80 0 0), (69, .ptr false 80 80 0 1), (70, .agg [I (39), I (0)])]
def R_381 (y : Nat → DV) : List DV := [I (0), I (39), .row 1 [[I (39)]], V_374 y, .nils, V_376 y, V_378 y, .nils, I (0), I (0), I (0)]
def R_382 (y : Nat → DV) : List DV := [I (0), I (39), I (0), .nils, I (0), I (0), .cell, .cell, .nils]
def X_36 (y : Nat → DV) : List Blk := X_35 y ++ [⟨79, 11, [R_381 y]⟩, ⟨80, 9, [R_382 y]⟩]
def H_42 (y : Nat → DV) : Hp := ⟨([⟨0, 12, [R_1 y]⟩, ⟨1, 11, [R_381 y]⟩, ⟨2, 2, [[I (39), I (0)]]⟩] ++ X_36 y), [], 81⟩
theorem t_43 (y : Nat → DV) : ex tbX C_16 (L_43 y) (H_41 y) = some (.normal, L_44 y, H_42 y) := st_fast 100000 (by kernel_rfl)
def R_383 (y : Nat → DV) : List DV := [I (40), I (0), I (40), .row 1 [[I (39)]], I (1), I (40), I (0), I (0), I (0), .str ⟨#[255, 255, 255, 255, 255]⟩, I (0), I (0)]
def Y_105 (y : Nat → DV) : List (List DV) := Y_102 y ++ [R_383 y]
def V_384 (y : Nat → DV) : DV := .row 12 (Y_105 y)
def R_385 (y : Nat → DV) : List DV := [I (40), I (0), I (0), I (0), .str ⟨#[255, 255, 255, 255, 255]⟩]
def Y_106 (y : Nat → DV) : List (List DV) := Y_103 y ++ [R_385 y]
def V_386 (y : Nat → DV) : DV := .row 5 (Y_106 y)
def R_387 (y : Nat → DV) : List DV := [I (40), I (0), I (40), .row 1 [[I (39)]], I (1), I (40), I (0), I (0), I (0), .str ⟨#[255, 255, 255, 255, 255]⟩, I (0), I (0), .bool false, I (0), I (0), .str ⟨#[]⟩, .bool false]
def Y_107 (y : Nat → DV) : List (List DV) := Y_104 y ++ [R_387 y]
def V_388 (y : Nat → DV) : DV := .row 17 (Y_107 y)
def V_389 (y : Nat → DV) : DV := .agg [I (0), I (40), .row 1 [[I (40)]], V_384 y, .nils, V_386 y, V_388 y, .nils, I (0), I (0), I (0)]
def V_390 (y : Nat → DV) : DV := .agg [I (0), I (40), I (0), .nils, I (0), I (0), .cell, .cell, .nils]
def L_45 (y : Nat → DV) : List DV := setL (L_6 y) [(6, I (40)), (7, .ptr false 81 81 0 0), (8, .ptr false 82 82 0 0), (22, I (39)), (24, I (39)), (25, I (40)), (26, .tup [V_389 y, V_390 y, I (0)]), (27, V_379 y), (29, .tup [V_389 y, V_390 y, I (0)]), (30, V_389 y), (31, V_390 y), (37, .ptr false 82 82 0 0), (57, .ptr false 82 82 0 0), (61, I (39)), (65, V_389 y), (66, .ptr false 82 82 0 0), (69, .ptr false 82 82 0 1), (70, .agg [I (40), I (0)])]
def R_391 (y : Nat → DV) : List DV := [I (0), I (40), .row 1 [[I (40)]], V_384 y, .nils, V_386 y, V_388 y, .nils, I (0), I (0), I (0)]
def R_392 (y : Nat → DV) : List DV := [I (0), I (40), I (0), .nils, I (0), I (0), .cell, .cell, .nils]
def X_37 (y : Nat → DV) : List Blk := X_36 y ++ [⟨81, 11, [R_391 y]⟩, ⟨82, 9, [R_392 y]⟩]
def H_43 (y : Nat → DV) : Hp := ⟨([⟨0, 12, [R_1 y]⟩, ⟨1, 11, [R_391 y]⟩, ⟨2, 2, [[I (40), I (0)]]⟩] ++ X_37 y), [], 83⟩
theorem t_44 (y : Nat → DV) : ex tbX C_16 (L_44 y) (H_42 y) = some (.normal, L_45 y, H_43 y) := st_fast 100000 (by kernel_rfl)
def R_393 (y : Nat → DV) : List DV := [I (41), I (0), I (41), .row 1 [[I (40)]], I (1), I (41), I (0), I (0), I (0), .str ⟨#[255, 255, 255, 255, 255, 128]⟩, I (0), I (0)]
def Y_108 (y : Nat → DV) : List (List DV) := Y_105 y ++ [R_393 y]
def V_394 (y : Nat → DV) : DV := .row 12 (Y_108 y)
def R_395 (y : Nat → DV) : List DV := [I (41), I (0), I (0), I (0), .str ⟨#[255, 255, 255, 255, 255, 128]⟩]
def Y_109 (y : Nat → DV) : List (List DV) := Y_106 y ++ [R_395 y]
def V_396 (y : Nat → DV) : DV := .row 5 (Y_109 y)
def R_397 (y : Nat → DV) : List DV := [I (41), I (0), I (41), .row 1 [[I (40)]], I (1), I (41), I (0), I (0), I (0), .str ⟨#[255, 255, 255, 255, 255, 128]⟩, I (0), I (0), .bool false, I (0), I (0), .str ⟨#[]⟩, .bool false]
def Y_110 (y : Nat → DV) : List (List DV) := Y_107 y ++ [R_397 y]
def V_398 (y : Nat → DV) : DV := .row 17 (Y_110 y)
def V_399 (y : Nat → DV) : DV := .agg [I (0), I (41), .row 1 [[I (41)]], V_394 y, .nils, V_396 y, V_398 y, .nils, I (0), I (0), I (0)]
def V_400 (y : Nat → DV) : DV := .agg [I (0), I (41), I (0), .nils, I (0), I (0), .cell, .cell, .nils]
def L_46 (y : Nat → DV) : List DV := setL (L_6 y) [(6, I (41)), (7, .ptr false 83 83 0 0), (8, .ptr false 84 84 0 0), (22, I (40)), (24, I (40)), (25, I (41)), (26, .tup [V_399 y, V_400 y, I (0)]), (27, V_389 y), (29, .tup [V_399 y, V_400 y, I (0)]), (30, V_399 y), (31, V_400 y), (37, .ptr false 84 84 0 0), (57, .ptr false 84 84 0 0), (61, I (40)), (65, V_399 y), (66, .ptr false 84 84 0 0), (69, .ptr false 84 84 0 1), (70, .agg [I (41), I (0)])]
def R_401 (y : Nat → DV) : List DV := [I (0), I (41), .row 1 [[I (41)]], V_394 y, .nils, V_396 y, V_398 y, .nils, I (0), I (0), I (0)]
def R_402 (y : Nat → DV) : List DV := [I (0), I (41), I (0), .nils, I (0), I (0), .cell, .cell, .nils]
def X_38 (y : Nat → DV) : List Blk := X_37 y ++ [⟨83, 11, [R_401 y]⟩, ⟨84, 9, [R_402 y]⟩]
def H_44 (y : Nat → DV) : Hp := ⟨([⟨0, 12, [R_1 y]⟩, ⟨1, 11, [R_401 y]⟩, ⟨2, 2, [[I (41), I (0)]]⟩] ++ X_38 y), [], 85⟩
theorem t_45 (y : Nat → DV) : ex tbX C_16 (L_45 y) (H_43 y) = some (.normal, L_46 y, H_44 y) := st_fast 100000 (by kernel_rfl)
def R_403 (y : Nat → DV) : List DV := [I (42), I (0), I (42), .row 1 [[I (41)]], I (1), I (42), I (0), I (0), I (0), .str ⟨#[255, 255, 255, 255, 255, 192]⟩, I (0), I (0)]
def Y_111 (y : Nat → DV) : List (List DV) := Y_108 y ++ [R_403 y]
def V_404 (y : Nat → DV) : DV := .row 12 (Y_111 y)
def R_405 (y : Nat → DV) : List DV := [I (42), I (0), I (0), I (0), .str ⟨#[255, 255, 255, 255, 255, 192]⟩]
def Y_112 (y : Nat → DV) : List (List DV) := Y_109 y ++ [R_405 y]
def V_406 (y : Nat → DV) : DV := .row 5 (Y_112 y)
def R_407 (y : Nat → DV) : List DV := [I (42), I (0), I (42), .row 1 [[I (41)]], I (1), I (42), I (0), I (0), I (0), .str ⟨#[255, 255, 255, 255, 255, 192]⟩, I (0), I (0), .bool false, I (0), I (0), .str ⟨#[]⟩, .bool false]
def Y_113 (y : Nat → DV) : List (List DV) := Y_110 y ++ [R_407 y]
def V_408 (y : Nat → DV) : DV := .row 17 (Y_113 y)
def V_409 (y : Nat → DV) : DV := .agg [I (0), I (42), .row 1 [[I (42)]], V_404 y, .nils, V_406 y, V_408 y, .nils, I (0), I (0), I (0)]
def V_410 (y : Nat → DV) : DV := .agg [I (0), I (42), I (0), .nils, I (0), I (0), .cell, .cell, .nils]
def L_47 (y : Nat → DV) : List DV := setL (L_6 y) [(6, I (42)), (7, .ptr false 85 85 0 0), (8, .ptr false 86 86 0 0), (22, I (41)), (24, I (41)), (25, I (42)), (26, .tup [V_409 y, V_410 y, I (0)]), (27, V_399 y), (29, .tup [V_409 y, V_410 y, I (0)]), (30, V_409 y), (31, V_410 y), (37, .ptr false 86 86 0 0), (57, .ptr false 86 86 0 0), (61, I (41)), (65, V_409 y), (66, .ptr false 86 86 0 0), (69, .ptr false 86 86 0 1), (70, .agg [I (42), I (0)])]
def R_411 (y : Nat → DV) : List DV := [I (0), I (42), .row 1 [[I (42)]], V_404 y, .nils, V_406 y, V_408 y, .nils, I (0), I (0), I (0)]
def R_412 (y : Nat → DV) : List DV := [I (0), I (42), I (0), .nils, I (0), I (0), .cell, .cell, .nils]
def X_39 (y : Nat → DV) : List Blk := X_38 y ++ [⟨85, 11, [R_411 y]⟩, ⟨86, 9, [R_412 y]⟩]
def H_45 (y : Nat → DV) : Hp := ⟨([⟨0, 12, [R_1 y]⟩, ⟨1, 11, [R_411 y]⟩, ⟨2, 2, [[I (42), I (0)]]⟩] ++ X_39 y), [], 87⟩
theorem t_46 (y : Nat → DV) : ex tbX C_16 (L_46 y) (H_44 y) = some (.normal, L_47 y, H_45 y) := st_fast 100000 (by kernel_rfl)
end Go.Dv
