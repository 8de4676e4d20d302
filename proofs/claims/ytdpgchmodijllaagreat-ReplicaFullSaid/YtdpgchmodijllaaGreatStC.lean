/- The law ReplicaFull, run part by part (3). -/
import Derived.Test.YtdpgchmodijllaaGreatStB
set_option linter.unusedVariables false
set_option linter.unusedSimpArgs false
set_option maxRecDepth 100000
namespace Go.Dv
def R_293 (y : Nat → DV) : List DV := [I (31), I (0), I (31), .row 1 [[I (30)]], I (1), I (31), I (0), I (0), I (0), .str ⟨#[255, 255, 255, 254]⟩, I (0), I (0)]
def Y_78 (y : Nat → DV) : List (List DV) := Y_75 y ++ [R_293 y]
def V_294 (y : Nat → DV) : DV := .row 12 (Y_78 y)
def R_295 (y : Nat → DV) : List DV := [I (31), I (0), I (0), I (0), .str ⟨#[255, 255, 255, 254]⟩]
def Y_79 (y : Nat → DV) : List (List DV) := Y_76 y ++ [R_295 y]
def V_296 (y : Nat → DV) : DV := .row 5 (Y_79 y)
def R_297 (y : Nat → DV) : List DV := [I (31), I (0), I (31), .row 1 [[I (30)]], I (1), I (31), I (0), I (0), I (0), .str ⟨#[255, 255, 255, 254]⟩, I (0), I (0), .bool false, I (0), I (0), .str ⟨#[]⟩, .bool false]
def Y_80 (y : Nat → DV) : List (List DV) := Y_77 y ++ [R_297 y]
def V_298 (y : Nat → DV) : DV := .row 17 (Y_80 y)
def V_299 (y : Nat → DV) : DV := .agg [I (0), I (31), .row 1 [[I (31)]], V_294 y, .nils, V_296 y, V_298 y, .nils, I (0), I (0), I (0)]
def V_300 (y : Nat → DV) : DV := .agg [I (0), I (31), I (0), .nils, I (0), I (0), .cell, .cell, .nils]
def L_36 (y : Nat → DV) : List DV := setL (L_6 y) [(6, I (31)), (7, .ptr false 63 63 0 0), (8, .ptr false 64 64 0 0), (22, I (30)), (24, I (30)), (25, I (31)), (26, .tup [V_299 y, V_300 y, I (0)]), (27, V_289 y), (29, .tup [V_299 y, V_300 y, I (0)]), (30, V_299 y), (31, V_300 y), (37, .ptr false 64 64 0 0), (57, .ptr false 64 64 0 0), (61, I (30)), (65, V_299 y), (66, .ptr false 64 64 0 0), (69, .ptr false 64 64 0 1), (70, .agg [I (31), I (0)])]
def R_301 (y : Nat → DV) : List DV := [I (0), I (31), .row 1 [[I (31)]], V_294 y, .nils, V_296 y, V_298 y, .nils, I (0), I (0), I (0)]
def R_302 (y : Nat → DV) : List DV := [I (0), I (31), I (0), .nils, I (0), I (0), .cell, .cell, .nils]
def X_28 (y : Nat → DV) : List Blk := X_27 y ++ [⟨63, 11, [R_301 y]⟩, ⟨64, 9, [R_302 y]⟩]
def H_34 (y : Nat → DV) : Hp := ⟨([⟨0, 12, [R_1 y]⟩, ⟨1, 11, [R_301 y]⟩, ⟨2, 2, [[I (31), I (0)]]⟩] ++ X_28 y), [], 65⟩
theorem t_35 (y : Nat → DV) : ex tbX C_16 (L_35 y) (H_33 y) = some (.normal, L_36 y, H_34 y) := st_fast 100000 (by kernel_rfl)
def R_303 (y : Nat → DV) : List DV := [I (32), I (0), I (32), .row 1 [[I (31)]], I (1), I (32), I (0), I (0), I (0), .str ⟨#[255, 255, 255, 255]⟩, I (0), I (0)]
def Y_81 (y : Nat → DV) : List (List DV) := Y_78 y ++ [R_303 y]
def V_304 (y : Nat → DV) : DV := .row 12 (Y_81 y)
def R_305 (y : Nat → DV) : List DV := [I (32), I (0), I (0), I (0), .str ⟨#[255, 255, 255, 255]⟩]
def Y_82 (y : Nat → DV) : List (List DV) := Y_79 y ++ [R_305 y]
def V_306 (y : Nat → DV) : DV := .row 5 (Y_82 y)
def R_307 (y : Nat → DV) : List DV := [I (32), I (0), I (32), .row 1 [[I (31)]], I (1), I (32), I (0), I (0), I (0), .str ⟨#[255, 255, 255, 255]⟩, I (0), I (0), .bool false, I (0), I (0), .str ⟨#[]⟩, .bool false]
def Y_83 (y : Nat → DV) : List (List DV) := Y_80 y ++ [R_307 y]
def V_308 (y : Nat → DV) : DV := .row 17 (Y_83 y)
def V_309 (y : Nat → DV) : DV := .agg [I (0), I (32), .row 1 [[I (32)]], V_304 y, .nils, V_306 y, V_308 y, .nils, I (0), I (0), I (0)]
def V_310 (y : Nat → DV) : DV := .agg [I (0), I (32), I (0), .nils, I (0), I (0), .cell, .cell, .nils]
def L_37 (y : Nat → DV) : List DV := setL (L_6 y) [(6, I (32)), (7, .ptr false 65 65 0 0), (8, .ptr false 66 66 0 0), (22, I (31)), (24, I (31)), (25, I (32)), (26, .tup [V_309 y, V_310 y, I (0)]), (27, V_299 y), (29, .tup [V_309 y, V_310 y, I (0)]), (30, V_309 y), (31, V_310 y), (37, .ptr false 66 66 0 0), (57, .ptr false 66 66 0 0), (61, I (31)), (65, V_309 y), (66, .ptr false 66 66 0 0), (69, .ptr false 66 66 0 1), (70, .agg [I (32), I (0)])]
def R_311 (y : Nat → DV) : List DV := [I (0), I (32), .row 1 [[I (32)]], V_304 y, .nils, V_306 y, V_308 y, .nils, I (0), I (0), I (0)]
def R_312 (y : Nat → DV) : List DV := [I (0), I (32), I (0), .nils, I (0), I (0), .cell, .cell, .nils]
def X_29 (y : Nat → DV) : List Blk := X_28 y ++ [⟨65, 11, [R_311 y]⟩, ⟨66, 9, [R_312 y]⟩]
def H_35 (y : Nat → DV) : Hp := ⟨([⟨0, 12, [R_1 y]⟩, ⟨1, 11, [R_311 y]⟩, ⟨2, 2, [[I (32), I (0)]]⟩] ++ X_29 y), [], 67⟩
theorem t_36 (y : Nat → DV) : ex tbX C_16 (L_36 y) (H_34 y) = some (.normal, L_37 y, H_35 y) := st_fast 100000 (by kernel_rfl)
def R_313 (y : Nat → DV) : List DV := [I (33), I (0), I (33), .row 1 [[I (32)]], I (1), I (33), I (0), I (0), I (0), .str ⟨#[255, 255, 255, 255, 128]⟩, I (0), I (0)]
def Y_84 (y : Nat → DV) : List (List DV) := Y_81 y ++ [R_313 y]
def V_314 (y : Nat → DV) : DV := .row 12 (Y_84 y)
def R_315 (y : Nat → DV) : List DV := [I (33), I (0), I (0), I (0), .str ⟨#[255, 255, 255, 255, 128]⟩]
def Y_85 (y : Nat → DV) : List (List DV) := Y_82 y ++ [R_315 y]
def V_316 (y : Nat → DV) : DV := .row 5 (Y_85 y)
def R_317 (y : Nat → DV) : List DV := [I (33), I (0), I (33), .row 1 [[I (32)]], I (1), I (33), I (0), I (0), I (0), .str ⟨#[255, 255, 255, 255, 128]⟩, I (0), I (0), .bool false, I (0), I (0), .str ⟨#[]⟩, .bool false]
def Y_86 (y : Nat → DV) : List (List DV) := Y_83 y ++ [R_317 y]
def V_318 (y : Nat → DV) : DV := .row 17 (Y_86 y)
def V_319 (y : Nat → DV) : DV := .agg [I (0), I (33), .row 1 [[I (33)]], V_314 y, .nils, V_316 y, V_318 y, .nils, I (0), I (0), I (0)]
def V_320 (y : Nat → DV) : DV := .agg [I (0), I (33), I (0), .nils, I (0), I (0), .cell, .cell, .nils]
def L_38 (y : Nat → DV) : List DV := setL (L_6 y) [(6, I (33)), (7, .ptr false 67 67 0 0), (8, .ptr false 68 68 0 0), (22, I (32)), (24, I (32)), (25, I (33)), (26, .tup [V_319 y, V_320 y, I (0)]), (27, V_309 y), (29, .tup [V_319 y, V_320 y, I (0)]), (30, V_319 y), (31, V_320 y), (37, .ptr false 68 68 0 0), (57, .ptr false 68 68 0 0), (61, I (32)), (65, V_319 y), (66, .ptr false 68 68 0 0), (69, .ptr false 68 68 0 1), (70, .agg [I (33), I (0)])]
def R_321 (y : Nat → DV) : List DV := [I (0), I (33), .row 1 [[I (33)]], V_314 y, .nils, V_316 y, V_318 y, .nils, I (0), I (0), I (0)]
def R_322 (y : Nat → DV) : List DV := [I (0), I (33), I (0), .nils, I (0), I (0), .cell, .cell, .nils]
def X_30 (y : Nat → DV) : List Blk := X_29 y ++ [⟨67, 11, [R_321 y]⟩, ⟨68, 9, [R_322 y]⟩]
def H_36 (y : Nat → DV) : Hp := ⟨([⟨0, 12, [R_1 y]⟩, ⟨1, 11, [R_321 y]⟩, ⟨2, 2, [[I (33), I (0)]]⟩] ++ X_30 y), [], 69⟩
theorem t_37 (y : Nat → DV) : ex tbX C_16 (L_37 y) (H_35 y) = some (.normal, L_38 y, H_36 y) := st_fast 100000 (by kernel_rfl)
def R_323 (y : Nat → DV) : List DV := [I (34), I (0), I (34), .row 1 [[I (33)]], I (1), I (34), I (0), I (0), I (0), .str ⟨#[255, 255, 255, 255, 192]⟩, I (0), I (0)]
def Y_87 (y : Nat → DV) : List (List DV) := Y_84 y ++ [R_323 y]
def V_324 (y : Nat → DV) : DV := .row 12 (Y_87 y)
def R_325 (y : Nat → DV) : List DV := [I (34), I (0), I (0), I (0), .str ⟨#[255, 255, 255, 255, 192]⟩]
def Y_88 (y : Nat → DV) : List (List DV) := Y_85 y ++ [R_325 y]
def V_326 (y : Nat → DV) : DV := .row 5 (Y_88 y)
def R_327 (y : Nat → DV) : List DV := [I (34), I (0), I (34), .row 1 [[I (33)]], I (1), I (34), I (0), I (0), I (0), .str ⟨#[255, 255, 255, 255, 192]⟩, I (0), I (0), .bool false, I (0), I (0), .str ⟨#[]⟩, .bool false]
def Y_89 (y : Nat → DV) : List (List DV) := Y_86 y ++ [R_327 y]
def V_328 (y : Nat → DV) : DV := .row 17 (Y_89 y)
def V_329 (y : Nat → DV) : DV := .agg [I (0), I (34), .row 1 [[I (34)]], V_324 y, .nils, V_326 y, V_328 y, .nils, I (0), I (0), I (0)]
def V_330 (y : Nat → DV) : DV := .agg [I (0), I (34), I (0), .nils, I (0), I (0), .cell, .cell, .nils]
def L_39 (y : Nat → DV) : List DV := setL (L_6 y) [(6, I (34)), (7, .ptr false 69 69 0 0), (8, .ptr false 70 70 0 0), (22, I (33)), (24, I (33)), (25, I (34)), (26, .tup [V_329 y, V_330 y, I (0)]), (27, V_319 y), (29, .tup [V_329 y, V_330 y, I (0)]), (30, V_329 y), (31, V_330 y), (37, .ptr false 70 70 0 0), (57, .ptr false 70 70 0 0), (61, I (33)), (65, V_329 y), (66, .ptr false 70 70 0 0), (69, .ptr false 70 70 0 1), (70, .agg [I (34), I (0)])]
def R_331 (y : Nat → DV) : List DV := [I (0), I (34), .row 1 [[I (34)]], V_324 y, .nils, V_326 y, V_328 y, .nils, I (0), I (0), I (0)]
def R_332 (y : Nat → DV) : List DV := [I (0), I (34), I (0), .nils, I (0), I (0), .cell, .cell, .nils]
def X_31 (y : Nat → DV) : List Blk := X_30 y ++ [⟨69, 11, [R_331 y]⟩, ⟨70, 9, [R_332 y]⟩]
def H_37 (y : Nat → DV) : Hp := ⟨([⟨0, 12, [R_1 y]⟩, ⟨1, 11, [R_331 y]⟩, ⟨2, 2, [[I (34), I (0)]]⟩] ++ X_31 y), [], 71⟩
theorem t_38 (y : Nat → DV) : ex tbX C_16 (L_38 y) (H_36 y) = some (.normal, L_39 y, H_37 y) := st_fast 100000 (by kernel_rfl)
def R_333 (y : Nat → DV) : List DV := [I (35), I (0), I (35), .row 1 [[I (34)]], I (1), I (35), I (0), I (0), I (0), .str ⟨#[255, 255, 255, 255, 224]⟩, I (0), I (0)]
def Y_90 (y : Nat → DV) : List (List DV) := Y_87 y ++ [R_333 y]
def V_334 (y : Nat → DV) : DV := .row 12 (Y_90 y)
def R_335 (y : Nat → DV) : List DV := [I (35), I (0), I (0), I (0), .str ⟨#[255, 255, 255, 255, 224]⟩]
def Y_91 (y : Nat → DV) : List (List DV) := Y_88 y ++ [R_335 y]
def V_336 (y : Nat → DV) : DV := .row 5 (Y_91 y)
def R_337 (y : Nat → DV) : List DV := [I (35), I (0), I (35), .row 1 [[I (34)]], I (1), I (35), I (0), I (0), I (0), .str ⟨#[255, 255, 255, 255, 224]⟩, I (0), I (0), .bool false, I (0), I (0), .str ⟨#[]⟩, .bool false]
def Y_92 (y : Nat → DV) : List (List DV) := Y_89 y ++ [R_337 y]
def V_338 (y : Nat → DV) : DV := .row 17 (Y_92 y)
def V_339 (y : Nat → DV) : DV := .agg [I (0), I (35), .row 1 [[I (35)]], V_334 y, .nils, V_336 y, V_338 y, .nils, I (0), I (0), I (0)]
def V_340 (y : Nat → DV) : DV := .agg [I (0), I (35), I (0), .nils, I (0), I (0), .cell, .cell, .nils]
def L_40 (y : Nat → DV) : List DV := setL (L_6 y) [(6, I (35)), (7, .ptr false 71 71 0 0), (8, .ptr false 72 72 0 0), (22, I (34)), (24, I (34)), (25, I (35)), (26, .tup [V_339 y, V_340 y, I (0)]), (27, V_329 y), (29, .tup [V_339 y, V_340 y, I (0)]), (30, V_339 y), (31, V_340 y), (37, .ptr false 72 72 0 0), (57, .ptr false 72 72 0 0), (61, I (34)), (65, V_339 y), (66, .ptr false 72 72 0 0), (69, .ptr false 72 72 0 1), (70, .agg [I (35), I (0)])]
def R_341 (y : Nat → DV) : List DV := [I (0), I (35), .row 1 [[I (35)]], V_334 y, .nils, V_336 y, V_338 y, .nils, I (0), I (0), I (0)]
def R_342 (y : Nat → DV) : List DV := [I (0), I (35), I (0), .nils, I (0), I (0), .cell, .cell, .nils]
def X_32 (y : Nat → DV) : List Blk := X_31 y ++ [⟨71, 11, [R_341 y]⟩, ⟨72, 9, [R_342 y]⟩]
def H_38 (y : Nat → DV) : Hp := ⟨([⟨0, 12, [R_1 y]⟩, ⟨1, 11, [R_341 y]⟩, ⟨2, 2, [[I (35), I (0)]]⟩] ++ X_32 y), [], 73⟩
theorem t_39 (y : Nat → DV) : ex tbX C_16 (L_39 y) (H_37 y) = some (.normal, L_40 y, H_38 y) := st_fast 100000 (by kernel_rfl)
def R_343 (y : Nat → DV) : List DV := [I (36), I (0), I (36), .row 1 [[I (35)]], I (1), I (36), I (0), I (0), I (0), .str ⟨#[255, 255, 255, 255, 240]⟩, I (0), I (0)]
def Y_93 (y : Nat → DV) : List (List DV) := Y_90 y ++ [R_343 y]
def V_344 (y : Nat → DV) : DV := .row 12 (Y_93 y)
def R_345 (y : Nat → DV) : List DV := [I (36), I (0), I (0), I (0), .str ⟨#[255, 255, 255, 255, 240]⟩]
def Y_94 (y : Nat → DV) : List (List DV) := Y_91 y ++ [R_345 y]
def V_346 (y : Nat → DV) : DV := .row 5 (Y_94 y)
def R_347 (y : Nat → DV) : List DV := [I (36), I (0), I (36), .row 1 [[I (35)]], I (1), I (36), I (0), I (0), I (0), .str ⟨#[255, 255, 255, 255, 240]⟩, I (0), I (0), .bool false, I (0), I (0), .str ⟨#[]⟩, .bool false]
def Y_95 (y : Nat → DV) : List (List DV) := Y_92 y ++ [R_347 y]
def V_348 (y : Nat → DV) : DV := .row 17 (Y_95 y)
def V_349 (y : Nat → DV) : DV := .agg [I (0), I (36), .row 1 [[I (36)]], V_344 y, .nils, V_346 y, V_348 y, .nils, I (0), I (0), I (0)]
def V_350 (y : Nat → DV) : DV := .agg [I (0), I (36), I (0), .nils, I (0), I (0), .cell, .cell, .nils]
def L_41 (y : Nat → DV) : List DV := setL (L_6 y) [(6, I (36)), (7, .ptr false 73 73 0 0), (8, .ptr false 74 74 0 0), (22, I (35)), (24, I (35)), (25, I (36)), (26, .tup [V_349 y, V_350 y, I (0)]), (27, V_339 y), (29, .tup [V_349 y, V_350 y, I (0)]), (30, V_349 y), (31, V_350 y), (37, .ptr false 74 74 0 0), (57, .ptr false 74 74 0 0), (61, I (35)), (65, V_349 y), (66, .ptr false 74 74 0 0), (69, .ptr false 74 74 0 1), (70, .agg [I (36), I (0)])]
def R_351 (y : Nat → DV) : List DV := [I (0), I (36), .row 1 [[I (36)]], V_344 y, .nils, V_346 y, V_348 y, .nils, I (0), I (0), I (0)]
def R_352 (y : Nat → DV) : List DV := [I (0), I (36), I (0), .nils, I (0), I (0), .cell, .cell, .nils]
def X_33 (y : Nat → DV) : List Blk := X_32 y ++ [⟨73, 11, [R_351 y]⟩, ⟨74, 9, [R_352 y]⟩]
def H_39 (y : Nat → DV) : Hp := ⟨([⟨0, 12, [R_1 y]⟩, ⟨1, 11, [R_351 y]⟩, ⟨2, 2, [[I (36), I (0)]]⟩] ++ X_33 y), [], 75⟩
theorem t_40 (y : Nat → DV) : ex tbX C_16 (L_40 y) (H_38 y) = some (.normal, L_41 y, H_39 y) := st_fast 100000 (by kernel_rfl)
def R_353 (y : Nat → DV) : List DV := [I (37), I (0), I (37), .row 1 [[I (36)]], I (1), I (37), I (0), I (0), I (0), .str ⟨#[255, 255, 255, 255, 248]⟩, I (0), I (0)]
def Y_96 (y : Nat → DV) : List (List DV) := Y_93 y ++ [R_353 y]
def V_354 (y : Nat → DV) : DV := .row 12 (Y_96 y)
def R_355 (y : Nat → DV) : List DV := [I (37), I (0), I (0), I (0), .str ⟨#[255, 255, 255, 255, 248]⟩]
def Y_97 (y : Nat → DV) : List (List DV) := Y_94 y ++ [R_355 y]
def V_356 (y : Nat → DV) : DV := .row 5 (Y_97 y)
def R_357 (y : Nat → DV) : List DV := [I (37), I (0), I (37), .row 1 [[I (36)]], I (1), I (37), I (0), I (0), I (0), .str ⟨#[255, 255, 255, 255, 248]⟩, I (0), I (0), .bool false, I (0), I (0), .str ⟨#[]⟩, .bool false]
def Y_98 (y : Nat → DV) : List (List DV) := Y_95 y ++ [R_357 y]
def V_358 (y : Nat → DV) : DV := .row 17 (Y_98 y)
def V_359 (y : Nat → DV) : DV := .agg [I (0), I (37), .row 1 [[I (37)]], V_354 y, .nils, V_356 y, V_358 y, .nils, I (0), I (0), I (0)]
def V_360 (y : Nat → DV) : DV := .agg [I (0), I (37), I (0), .nils, I (0), I (0), .cell, .cell, .nils]
def L_42 (y : Nat → DV) : List DV := setL (L_6 y) [(6, I (37)), (7, .ptr false 75 75 0 0), (8, .ptr false 76 76 0 0), (22, I (36)), (24, I (36)), (25, I (37)), (26, .tup [V_359 y, V_360 y, I (0)]), (27, V_349 y), (29, .tup [V_359 y, V_360 y, I (0)]), (30, V_359 y), (31, V_360 y), (37, .ptr false 76 76 0 0), (57, .ptr false 76 76 0 0), (61, I (36)), (65, V_359 y), (66, .ptr false 76 76 0 0), (69, .ptr false 76 76 0 1), (70, .agg [I (37), I (0)])]
def R_361 (y : Nat → DV) : List DV := [I (0), I (37), .row 1 [[I (37)]], V_354 y, .nils, V_356 y, V_358 y, .nils, I (0), I (0), I (0)]
def R_362 (y : Nat → DV) : List DV := [I (0), I (37), I (0), .nils, I (0), I (0), .cell, .cell, .nils]
def X_34 (y : Nat → DV) : List Blk := X_33 y ++ [⟨75, 11, [R_361 y]⟩, ⟨76, 9, [R_362 y]⟩]
def H_40 (y : Nat → DV) : Hp := ⟨([⟨0, 12, [R_1 y]⟩, ⟨1, 11, [R_361 y]⟩, ⟨2, 2, [[I (37), I (0)]]⟩] ++ X_34 y), [], 77⟩
theorem t_41 (y : Nat → DV) : ex tbX C_16 (L_41 y) (H_39 y) = some (.normal, L_42 y, H_40 y) := st_fast 100000 (by kernel_rfl)
end Go.Dv
