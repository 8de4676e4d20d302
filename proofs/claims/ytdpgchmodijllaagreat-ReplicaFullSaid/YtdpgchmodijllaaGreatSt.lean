/- The law ReplicaFull, run part by part (9). -/
import Derived.Test.YtdpgchmodijllaaGreatStH
set_option linter.unusedVariables false
set_option linter.unusedSimpArgs false
set_option maxRecDepth 100000
namespace Go.Dv
def L_56 (y : Nat → DV) : List DV := setL (L_54 y) [(6, I (50)), (7, .ptr false 101 101 0 0), (8, .ptr false 102 102 0 0), (22, I (50)), (23, .bool false), (24, I (49)), (25, I (50)), (37, .ptr false 102 102 0 0), (41, .ptr false 102 102 0 0), (45, I (49)), (57, .ptr false 102 102 0 0), (66, .ptr false 102 102 0 0)]
theorem t_55 (y : Nat → DV) : ex tbX C_16 (L_55 y) (H_53 y) = some (.exit 0, L_56 y, H_53 y) := st_fast 100000 (by kernel_rfl)
theorem t_56 (y : Nat → DV) : ex tbX C_14 (L_55 y) (H_53 y) = some (.exit 0, L_56 y, H_53 y) := by rw [C_14_eq]; exact st_last (t_55 y) (by intro h; cases h)
theorem t_57 (y : Nat → DV) : ex tbX C_14 (L_54 y) (H_52 y) = some (.exit 0, L_56 y, H_53 y) := by rw [C_14_eq]; exact st_loop (t_54 y) (by rw [← C_14_eq]; exact t_56 y)
theorem t_58 (y : Nat → DV) : ex tbX C_14 (L_53 y) (H_51 y) = some (.exit 0, L_56 y, H_53 y) := by rw [C_14_eq]; exact st_loop (t_53 y) (by rw [← C_14_eq]; exact t_57 y)
theorem t_59 (y : Nat → DV) : ex tbX C_14 (L_52 y) (H_50 y) = some (.exit 0, L_56 y, H_53 y) := by rw [C_14_eq]; exact st_loop (t_52 y) (by rw [← C_14_eq]; exact t_58 y)
theorem t_60 (y : Nat → DV) : ex tbX C_14 (L_51 y) (H_49 y) = some (.exit 0, L_56 y, H_53 y) := by rw [C_14_eq]; exact st_loop (t_51 y) (by rw [← C_14_eq]; exact t_59 y)
theorem t_61 (y : Nat → DV) : ex tbX C_14 (L_50 y) (H_48 y) = some (.exit 0, L_56 y, H_53 y) := by rw [C_14_eq]; exact st_loop (t_50 y) (by rw [← C_14_eq]; exact t_60 y)
theorem t_62 (y : Nat → DV) : ex tbX C_14 (L_49 y) (H_47 y) = some (.exit 0, L_56 y, H_53 y) := by rw [C_14_eq]; exact st_loop (t_49 y) (by rw [← C_14_eq]; exact t_61 y)
theorem t_63 (y : Nat → DV) : ex tbX C_14 (L_48 y) (H_46 y) = some (.exit 0, L_56 y, H_53 y) := by rw [C_14_eq]; exact st_loop (t_48 y) (by rw [← C_14_eq]; exact t_62 y)
theorem t_64 (y : Nat → DV) : ex tbX C_14 (L_47 y) (H_45 y) = some (.exit 0, L_56 y, H_53 y) := by rw [C_14_eq]; exact st_loop (t_47 y) (by rw [← C_14_eq]; exact t_63 y)
theorem t_65 (y : Nat → DV) : ex tbX C_14 (L_46 y) (H_44 y) = some (.exit 0, L_56 y, H_53 y) := by rw [C_14_eq]; exact st_loop (t_46 y) (by rw [← C_14_eq]; exact t_64 y)
theorem t_66 (y : Nat → DV) : ex tbX C_14 (L_45 y) (H_43 y) = some (.exit 0, L_56 y, H_53 y) := by rw [C_14_eq]; exact st_loop (t_45 y) (by rw [← C_14_eq]; exact t_65 y)
theorem t_67 (y : Nat → DV) : ex tbX C_14 (L_44 y) (H_42 y) = some (.exit 0, L_56 y, H_53 y) := by rw [C_14_eq]; exact st_loop (t_44 y) (by rw [← C_14_eq]; exact t_66 y)
theorem t_68 (y : Nat → DV) : ex tbX C_14 (L_43 y) (H_41 y) = some (.exit 0, L_56 y, H_53 y) := by rw [C_14_eq]; exact st_loop (t_43 y) (by rw [← C_14_eq]; exact t_67 y)
theorem t_69 (y : Nat → DV) : ex tbX C_14 (L_42 y) (H_40 y) = some (.exit 0, L_56 y, H_53 y) := by rw [C_14_eq]; exact st_loop (t_42 y) (by rw [← C_14_eq]; exact t_68 y)
theorem t_70 (y : Nat → DV) : ex tbX C_14 (L_41 y) (H_39 y) = some (.exit 0, L_56 y, H_53 y) := by rw [C_14_eq]; exact st_loop (t_41 y) (by rw [← C_14_eq]; exact t_69 y)
theorem t_71 (y : Nat → DV) : ex tbX C_14 (L_40 y) (H_38 y) = some (.exit 0, L_56 y, H_53 y) := by rw [C_14_eq]; exact st_loop (t_40 y) (by rw [← C_14_eq]; exact t_70 y)
theorem t_72 (y : Nat → DV) : ex tbX C_14 (L_39 y) (H_37 y) = some (.exit 0, L_56 y, H_53 y) := by rw [C_14_eq]; exact st_loop (t_39 y) (by rw [← C_14_eq]; exact t_71 y)
theorem t_73 (y : Nat → DV) : ex tbX C_14 (L_38 y) (H_36 y) = some (.exit 0, L_56 y, H_53 y) := by rw [C_14_eq]; exact st_loop (t_38 y) (by rw [← C_14_eq]; exact t_72 y)
theorem t_74 (y : Nat → DV) : ex tbX C_14 (L_37 y) (H_35 y) = some (.exit 0, L_56 y, H_53 y) := by rw [C_14_eq]; exact st_loop (t_37 y) (by rw [← C_14_eq]; exact t_73 y)
theorem t_75 (y : Nat → DV) : ex tbX C_14 (L_36 y) (H_34 y) = some (.exit 0, L_56 y, H_53 y) := by rw [C_14_eq]; exact st_loop (t_36 y) (by rw [← C_14_eq]; exact t_74 y)
theorem t_76 (y : Nat → DV) : ex tbX C_14 (L_35 y) (H_33 y) = some (.exit 0, L_56 y, H_53 y) := by rw [C_14_eq]; exact st_loop (t_35 y) (by rw [← C_14_eq]; exact t_75 y)
theorem t_77 (y : Nat → DV) : ex tbX C_14 (L_34 y) (H_32 y) = some (.exit 0, L_56 y, H_53 y) := by rw [C_14_eq]; exact st_loop (t_34 y) (by rw [← C_14_eq]; exact t_76 y)
theorem t_78 (y : Nat → DV) : ex tbX C_14 (L_33 y) (H_31 y) = some (.exit 0, L_56 y, H_53 y) := by rw [C_14_eq]; exact st_loop (t_33 y) (by rw [← C_14_eq]; exact t_77 y)
theorem t_79 (y : Nat → DV) : ex tbX C_14 (L_32 y) (H_30 y) = some (.exit 0, L_56 y, H_53 y) := by rw [C_14_eq]; exact st_loop (t_32 y) (by rw [← C_14_eq]; exact t_78 y)
theorem t_80 (y : Nat → DV) : ex tbX C_14 (L_31 y) (H_29 y) = some (.exit 0, L_56 y, H_53 y) := by rw [C_14_eq]; exact st_loop (t_31 y) (by rw [← C_14_eq]; exact t_79 y)
theorem t_81 (y : Nat → DV) : ex tbX C_14 (L_30 y) (H_28 y) = some (.exit 0, L_56 y, H_53 y) := by rw [C_14_eq]; exact st_loop (t_30 y) (by rw [← C_14_eq]; exact t_80 y)
theorem t_82 (y : Nat → DV) : ex tbX C_14 (L_29 y) (H_27 y) = some (.exit 0, L_56 y, H_53 y) := by rw [C_14_eq]; exact st_loop (t_29 y) (by rw [← C_14_eq]; exact t_81 y)
theorem t_83 (y : Nat → DV) : ex tbX C_14 (L_28 y) (H_26 y) = some (.exit 0, L_56 y, H_53 y) := by rw [C_14_eq]; exact st_loop (t_28 y) (by rw [← C_14_eq]; exact t_82 y)
theorem t_84 (y : Nat → DV) : ex tbX C_14 (L_27 y) (H_25 y) = some (.exit 0, L_56 y, H_53 y) := by rw [C_14_eq]; exact st_loop (t_27 y) (by rw [← C_14_eq]; exact t_83 y)
theorem t_85 (y : Nat → DV) : ex tbX C_14 (L_26 y) (H_24 y) = some (.exit 0, L_56 y, H_53 y) := by rw [C_14_eq]; exact st_loop (t_26 y) (by rw [← C_14_eq]; exact t_84 y)
theorem t_86 (y : Nat → DV) : ex tbX C_14 (L_25 y) (H_23 y) = some (.exit 0, L_56 y, H_53 y) := by rw [C_14_eq]; exact st_loop (t_25 y) (by rw [← C_14_eq]; exact t_85 y)
theorem t_87 (y : Nat → DV) : ex tbX C_14 (L_24 y) (H_22 y) = some (.exit 0, L_56 y, H_53 y) := by rw [C_14_eq]; exact st_loop (t_24 y) (by rw [← C_14_eq]; exact t_86 y)
theorem t_88 (y : Nat → DV) : ex tbX C_14 (L_23 y) (H_21 y) = some (.exit 0, L_56 y, H_53 y) := by rw [C_14_eq]; exact st_loop (t_23 y) (by rw [← C_14_eq]; exact t_87 y)
theorem t_89 (y : Nat → DV) : ex tbX C_14 (L_22 y) (H_20 y) = some (.exit 0, L_56 y, H_53 y) := by rw [C_14_eq]; exact st_loop (t_22 y) (by rw [← C_14_eq]; exact t_88 y)
theorem t_90 (y : Nat → DV) : ex tbX C_14 (L_21 y) (H_19 y) = some (.exit 0, L_56 y, H_53 y) := by rw [C_14_eq]; exact st_loop (t_21 y) (by rw [← C_14_eq]; exact t_89 y)
theorem t_91 (y : Nat → DV) : ex tbX C_14 (L_20 y) (H_18 y) = some (.exit 0, L_56 y, H_53 y) := by rw [C_14_eq]; exact st_loop (t_20 y) (by rw [← C_14_eq]; exact t_90 y)
theorem t_92 (y : Nat → DV) : ex tbX C_14 (L_19 y) (H_17 y) = some (.exit 0, L_56 y, H_53 y) := by rw [C_14_eq]; exact st_loop (t_19 y) (by rw [← C_14_eq]; exact t_91 y)
theorem t_93 (y : Nat → DV) : ex tbX C_14 (L_18 y) (H_16 y) = some (.exit 0, L_56 y, H_53 y) := by rw [C_14_eq]; exact st_loop (t_18 y) (by rw [← C_14_eq]; exact t_92 y)
theorem t_94 (y : Nat → DV) : ex tbX C_14 (L_17 y) (H_15 y) = some (.exit 0, L_56 y, H_53 y) := by rw [C_14_eq]; exact st_loop (t_17 y) (by rw [← C_14_eq]; exact t_93 y)
theorem t_95 (y : Nat → DV) : ex tbX C_14 (L_16 y) (H_14 y) = some (.exit 0, L_56 y, H_53 y) := by rw [C_14_eq]; exact st_loop (t_16 y) (by rw [← C_14_eq]; exact t_94 y)
theorem t_96 (y : Nat → DV) : ex tbX C_14 (L_15 y) (H_13 y) = some (.exit 0, L_56 y, H_53 y) := by rw [C_14_eq]; exact st_loop (t_15 y) (by rw [← C_14_eq]; exact t_95 y)
theorem t_97 (y : Nat → DV) : ex tbX C_14 (L_14 y) (H_12 y) = some (.exit 0, L_56 y, H_53 y) := by rw [C_14_eq]; exact st_loop (t_14 y) (by rw [← C_14_eq]; exact t_96 y)
theorem t_98 (y : Nat → DV) : ex tbX C_14 (L_13 y) (H_11 y) = some (.exit 0, L_56 y, H_53 y) := by rw [C_14_eq]; exact st_loop (t_13 y) (by rw [← C_14_eq]; exact t_97 y)
theorem t_99 (y : Nat → DV) : ex tbX C_14 (L_12 y) (H_10 y) = some (.exit 0, L_56 y, H_53 y) := by rw [C_14_eq]; exact st_loop (t_12 y) (by rw [← C_14_eq]; exact t_98 y)
theorem t_100 (y : Nat → DV) : ex tbX C_14 (L_11 y) (H_9 y) = some (.exit 0, L_56 y, H_53 y) := by rw [C_14_eq]; exact st_loop (t_11 y) (by rw [← C_14_eq]; exact t_99 y)
theorem t_101 (y : Nat → DV) : ex tbX C_14 (L_10 y) (H_8 y) = some (.exit 0, L_56 y, H_53 y) := by rw [C_14_eq]; exact st_loop (t_10 y) (by rw [← C_14_eq]; exact t_100 y)
theorem t_102 (y : Nat → DV) : ex tbX C_14 (L_9 y) (H_7 y) = some (.exit 0, L_56 y, H_53 y) := by rw [C_14_eq]; exact st_loop (t_9 y) (by rw [← C_14_eq]; exact t_101 y)
theorem t_103 (y : Nat → DV) : ex tbX C_14 (L_8 y) (H_6 y) = some (.exit 0, L_56 y, H_53 y) := by rw [C_14_eq]; exact st_loop (t_8 y) (by rw [← C_14_eq]; exact t_102 y)
theorem t_104 (y : Nat → DV) : ex tbX C_14 (L_7 y) (H_5 y) = some (.exit 0, L_56 y, H_53 y) := by rw [C_14_eq]; exact st_loop (t_7 y) (by rw [← C_14_eq]; exact t_103 y)
theorem t_105 (y : Nat → DV) : ex tbX C_14 (L_6 y) (H_4 y) = some (.exit 0, L_56 y, H_53 y) := by rw [C_14_eq]; exact st_loop (t_6 y) (by rw [← C_14_eq]; exact t_104 y)
theorem t_106 (y : Nat → DV) : ex tbX C_14 (L_5 y) (H_3 y) = some (.exit 0, L_56 y, H_53 y) := by rw [C_14_eq]; exact st_loop (t_5 y) (by rw [← C_14_eq]; exact t_105 y)
theorem t_107 (y : Nat → DV) : ex tbX C_12 (L_5 y) (H_3 y) = some (.normal, L_56 y, H_53 y) := by rw [C_12_eq]; exact st_block (t_106 y)
theorem t_108 (y : Nat → DV) : ex tbX C_9 (L_4 y) (H_3 y) = some (.normal, L_56 y, H_53 y) := by rw [C_9_eq]; exact st_seq (t_4 y) (t_107 y)
theorem C_8_qe : C_8 = .seq C_9 C_10 := by kernel_rfl
def C_18 : DC := C_10.fst
def C_19 : DC := C_10.snd
def R_475 (y : Nat → DV) : List DV := [I (49), I (0), I (49), .row 1 [[I (48)]], I (1), I (48), I (0), I (0), I (1), .str ⟨#[128]⟩, I (0), I (0)]
def Y_132 (y : Nat → DV) : List (List DV) := Y_129 y ++ [R_475 y]
def V_476 (y : Nat → DV) : DV := .row 12 (Y_132 y)
def R_477 (y : Nat → DV) : List DV := [I (48), I (0), I (0), I (1), .str ⟨#[128]⟩]
def Y_133 (y : Nat → DV) : List (List DV) := Y_127 y ++ [R_477 y]
def V_478 (y : Nat → DV) : DV := .row 5 (Y_133 y)
def R_479 (y : Nat → DV) : List DV := [I (49), I (0), I (49), .row 1 [[I (48)]], I (1), I (48), I (0), I (0), I (1), .str ⟨#[128]⟩, I (0), I (0), .bool true, I (0), I (0), .str ⟨#[255, 255, 255, 255, 255, 255]⟩, .bool false]
def Y_134 (y : Nat → DV) : List (List DV) := Y_131 y ++ [R_479 y]
def V_480 (y : Nat → DV) : DV := .row 17 (Y_134 y)
def V_481 (y : Nat → DV) : DV := .agg [I (0), I (49), .row 1 [[I (49)]], V_476 y, .nils, V_478 y, V_480 y, .nils, I (0), I (0), I (0)]
def V_482 (y : Nat → DV) : DV := .agg [I (0), I (0), I (0), .nils, I (0), I (0), .cell, .cell, .nils]
def V_483 (y : Nat → DV) : DV := .agg [I (3), I (48), I (0), I (0), I (0), I (0), I (0), I (0), I (0), I (0)]
def L_57 (y : Nat → DV) : List DV := setL (L_54 y) [(6, I (50)), (7, .ptr false 101 101 0 0), (8, .ptr false 102 102 0 0), (10, .ptr false 103 103 0 0), (11, I (0)), (22, I (50)), (23, .bool false), (24, I (49)), (25, I (50)), (37, .ptr false 102 102 0 0), (41, .ptr false 102 102 0 0), (45, I (49)), (57, .ptr false 102 102 0 0), (66, .ptr false 102 102 0 0), (71, .tup [V_481 y, V_482 y, I (0)]), (72, V_469 y), (73, .agg [I (48), I (0)]), (74, V_483 y), (75, .tup [V_481 y, V_482 y, I (0)]), (76, V_481 y), (77, V_482 y), (78, I (0))]
def R_484 (y : Nat → DV) : List DV := [I (0), I (49), .row 1 [[I (49)]], V_476 y, .nils, V_478 y, V_480 y, .nils, I (0), I (0), I (0)]
def R_485 (y : Nat → DV) : List DV := [I (0), I (0), I (0), .nils, I (0), I (0), .cell, .cell, .nils]
def X_48 (y : Nat → DV) : List Blk := X_47 y ++ [⟨103, 9, [R_485 y]⟩]
def H_54 (y : Nat → DV) : Hp := ⟨([⟨0, 12, [R_1 y]⟩, ⟨1, 11, [R_484 y]⟩, ⟨2, 2, [[I (48), I (0)]]⟩] ++ X_48 y), [], 104⟩
theorem t_109 (y : Nat → DV) : ex tbX C_18 (L_56 y) (H_53 y) = some (.normal, L_57 y, H_54 y) := st_fast 100000 (by kernel_rfl)
theorem C_10_qe : C_10 = .seq C_18 C_19 := by kernel_rfl
def C_20 : DC := C_19.fst
def C_21 : DC := C_19.snd
def R_486 (y : Nat → DV) : List DV := [I (50), I (0), I (50), .row 1 [[I (49)]], I (1), I (50), I (0), I (0), I (0), .str ⟨#[255, 255, 255, 255, 255, 255]⟩, I (0), I (0)]
def Y_135 (y : Nat → DV) : List (List DV) := Y_132 y ++ [R_486 y]
def V_487 (y : Nat → DV) : DV := .row 12 (Y_135 y)
def R_488 (y : Nat → DV) : List DV := [I (50), I (0), I (0), I (0), .str ⟨#[255, 255, 255, 255, 255, 255]⟩]
def Y_136 (y : Nat → DV) : List (List DV) := Y_133 y ++ [R_488 y]
def V_489 (y : Nat → DV) : DV := .row 5 (Y_136 y)
def R_490 (y : Nat → DV) : List DV := [I (50), I (0), I (50), .row 1 [[I (49)]], I (1), I (50), I (0), I (0), I (0), .str ⟨#[255, 255, 255, 255, 255, 255]⟩, I (0), I (0), .bool false, I (0), I (0), .str ⟨#[]⟩, .bool false]
def Y_137 (y : Nat → DV) : List (List DV) := Y_134 y ++ [R_490 y]
def V_491 (y : Nat → DV) : DV := .row 17 (Y_137 y)
def V_492 (y : Nat → DV) : DV := .agg [I (0), I (50), .row 1 [[I (50)]], V_487 y, .nils, V_489 y, V_491 y, .nils, I (0), I (0), I (0)]
def V_493 (y : Nat → DV) : DV := .agg [I (0), I (50), I (0), .nils, I (0), I (0), .cell, .cell, .nils]
def L_58 (y : Nat → DV) : List DV := [V_0 y, .ptr false 0 0 0 0, .bool false, .ptr false 1 1 0 0, I (0), .ptr false 2 2 0 0, I (50), .ptr false 101 101 0 0, .ptr false 102 102 0 0, I (0), .ptr false 103 103 0 0, I (0), .ptr false 104 104 0 0, .ptr false 105 105 0 0, I (0), .tup [V_2 y, I (0)], .tup [V_2 y, I (0)], V_2 y, I (0), I (0), I (0), .bool false, I (50), .bool false, I (49), I (50), .tup [V_469 y, V_473 y, I (0)], V_469 y, V_9 y, .tup [V_469 y, V_473 y, I (0)], V_469 y, V_473 y, I (0), I (0), I (0), .bool false, .bool false, .ptr false 102 102 0 0, I (5), .bool true, .bool true, .ptr false 102 102 0 0, I (5), .bool false, .bool false, I (49), .bool false, .bool false, .bool false, V_469 y, V_469 y, .bool true, .bool false, .bool false, .bool false, .bool false, .bool false, .ptr false 102 102 0 0, I (5), .bool false, .bool false, .tup [], .tup [], .bool false, .bool false, V_469 y, .ptr false 102 102 0 0, I (5), .bool false, .ptr false 98 98 0 1, .agg [I (48), I (0)], .tup [V_481 y, V_482 y, I (0)], V_469 y, .agg [I (48), I (0)], V_483 y, .tup [V_481 y, V_482 y, I (0)], V_481 y, V_482 y, I (0), .tup [V_492 y, V_493 y, I (0)], V_481 y, V_9 y, .tup [V_492 y, V_493 y, I (0)], V_492 y, V_493 y, I (0), U, U, U, U, U, U, U, U, U, U, U, U, U, U, U, U, U, U, U, U, U, U, U, U, U, U, U]
def R_494 (y : Nat → DV) : List DV := [I (0), I (50), .row 1 [[I (50)]], V_487 y, .nils, V_489 y, V_491 y, .nils, I (0), I (0), I (0)]
def R_495 (y : Nat → DV) : List DV := [I (0), I (50), I (0), .nils, I (0), I (0), .cell, .cell, .nils]
def X_49 (y : Nat → DV) : List Blk := X_48 y ++ [⟨104, 11, [R_494 y]⟩, ⟨105, 9, [R_495 y]⟩]
def H_55 (y : Nat → DV) : Hp := ⟨([⟨0, 12, [R_1 y]⟩, ⟨1, 11, [R_484 y]⟩, ⟨2, 2, [[I (48), I (0)]]⟩] ++ X_49 y), [], 106⟩
theorem t_110 (y : Nat → DV) : ex tbX C_20 (L_57 y) (H_54 y) = some (.normal, L_58 y, H_55 y) := st_fast 100000 (by kernel_rfl)
theorem C_19_qe : C_19 = .seq C_20 C_21 := by kernel_rfl
def C_22 : DC := C_21.fst
def C_23 : DC := C_21.snd
theorem t_111n (y : Nat → DV) : endsQ D_4 (ex tbX C_21 (L_58 fun i => if i = 11 then .nils else y i) (H_55 fun i => if i = 11 then .nils else y i)) = some (.bool true) := st_endF tbF_ok 100000 (by kernel_rfl)
theorem t_111r (y : Nat → DV) (z : Nat) : endsQ D_4 (ex tbX C_21 (L_58 fun i => if i = 11 then .row z [] else y i) (H_55 fun i => if i = 11 then .row z [] else y i)) = some (.bool true) := st_endF tbF_ok 100000 (by kernel_rfl)
theorem t_111s (y : Nat → DV) (z : Nat) (a : List DV) (b : List (List DV)) : endsQ D_4 (ex tbX C_21 (L_58 fun i => if i = 11 then .row z (a :: b) else y i) (H_55 fun i => if i = 11 then .row z (a :: b) else y i)) = some (.bool true) := st_endF tbF_ok 100000 (by kernel_rfl)
theorem t_111 (y : Nat → DV) (hy : y 11 = .nils ∨ ∃ z rows, y 11 = .row z rows) : endsQ D_4 (ex tbX C_21 (L_58 y) (H_55 y)) = some (.bool true) := by
  have key : ∀ v, y 11 = v → y = fun i => if i = 11 then v else y i := by
    intro v e
    funext i; by_cases h : i = 11 <;> simp [h, e]
  rcases hy with e | ⟨z, rows, e⟩
  · rw [key _ e]; exact t_111n y
  · cases rows with
    | nil => rw [key _ e]; exact t_111r y z
    | cons a b => rw [key _ e]; exact t_111s y z a b
theorem t_112 (y : Nat → DV) (hy : y 11 = .nils ∨ ∃ z rows, y 11 = .row z rows) : endsQ D_4 (ex tbX C_19 (L_57 y) (H_54 y)) = some (.bool true) := by rw [C_19_qe, st_seq (t_110 y) rfl]; exact t_111 y hy
theorem t_113 (y : Nat → DV) (hy : y 11 = .nils ∨ ∃ z rows, y 11 = .row z rows) : endsQ D_4 (ex tbX C_10 (L_56 y) (H_53 y)) = some (.bool true) := by rw [C_10_qe, st_seq (t_109 y) rfl]; exact t_112 y hy
theorem t_114 (y : Nat → DV) (hy : y 11 = .nils ∨ ∃ z rows, y 11 = .row z rows) : endsQ D_4 (ex tbX C_8 (L_4 y) (H_3 y)) = some (.bool true) := by rw [C_8_qe, st_seq (t_108 y) rfl]; exact t_113 y hy
theorem t_115 (y : Nat → DV) (hy : y 11 = .nils ∨ ∃ z rows, y 11 = .row z rows) : endsQ D_4 (ex tbX C_6 (L_3 y) (H_2 y)) = some (.bool true) := by rw [C_6_qe, st_seq (t_3 y) rfl]; exact t_114 y hy
theorem t_116 (y : Nat → DV) (hy : y 11 = .nils ∨ ∃ z rows, y 11 = .row z rows) : endsQ D_4 (ex tbX C_4 (L_2 y) (H_2 y)) = some (.bool true) := by rw [C_4_qe, st_seq (t_2 y) rfl]; exact t_115 y hy
theorem t_117 (y : Nat → DV) (hy : y 11 = .nils ∨ ∃ z rows, y 11 = .row z rows) : endsQ D_4 (ex tbX C_2 (L_1 y) (H_1 y)) = some (.bool true) := by rw [C_2_qe, st_seq (t_1 y) rfl]; exact t_116 y hy
theorem t_118 (y : Nat → DV) (hc : ∀ i, i < 12 → (y i).isCell = true) (hy : y 11 = .nils ∨ ∃ z rows, y 11 = .row z rows) : endsQ D_4 (ex tbX C_0 (L_0 y) (H_0 y)) = some (.bool true) := by rw [C_0_qe, st_seq (t_0 y hc) rfl]; exact t_117 y hy
-- TOP t_118

theorem run_ReplicaFull {d1 : List DV} {d : DV} (hl : d1.length = 11) (hs : ∀ x ∈ d1 ++ [d], x.still1 = true ∧ x.isCell = true) (hd : d = .nils ∨ ∃ z rows, d = .row z rows) : ∃ n, callK tbX (run tbX n) (.fn 4 []) [.agg (d1 ++ [d])] ⟨[], [], 0⟩ = some (.bool true, ⟨[], [], 0⟩) := by
  match d1, hl, hs with
  | [x0, x1, x2, x3, x4, x5, x6, x7, x8, x9, x10], _, hs =>
    let y : Nat → DV := fun i => ([x0, x1, x2, x3, x4, x5, x6, x7, x8, x9, x10, d].map (res ⟨[], [], 0⟩ 7)).getD i .undef
    have hy : y 11 = .nils ∨ ∃ z rows, y 11 = .row z rows := by
      rcases hd with rfl | ⟨z, rows, rfl⟩
      · exact .inl rfl
      · exact .inr ⟨z, rows, rfl⟩
    have hc : ∀ i, i < 12 → (y i).isCell = true := by
      intro i hi
      have hm : ([x0, x1, x2, x3, x4, x5, x6, x7, x8, x9, x10, d] : List DV)[i]? = some (([x0, x1, x2, x3, x4, x5, x6, x7, x8, x9, x10, d] : List DV)[i]'(by simpa using hi)) := List.getElem?_eq_getElem _
      have hk := hs _ (List.mem_of_getElem? hm)
      show (([x0, x1, x2, x3, x4, x5, x6, x7, x8, x9, x10, d].map (res ⟨[], [], 0⟩ 7)).getD i .undef).isCell = true
      rw [List.getD_eq_getElem?_getD, List.getElem?_map, hm]
      simp only [Option.map_some, Option.getD_some]
      rw [res_still hk.1]
      exact hk.2
    refine st_law (D := D_4) (by kernel_rfl) d_4 (by kernel_rfl) (by kernel_rfl) ?_
    have e1 : (res ⟨[], [], 0⟩ 8 (.agg ([x0, x1, x2, x3, x4, x5, x6, x7, x8, x9, x10] ++ [d])) :: List.replicate (D_4.n - 1) .undef : List DV) = L_0 y := by kernel_rfl
    have e2 : (⟨[], [], 0⟩ : Hp) = H_0 y := by kernel_rfl
    have e3 : D_4.body = C_0 := by kernel_rfl
    have hst : ∀ i, (y i).still1 = true := by
      intro i
      show (([x0, x1, x2, x3, x4, x5, x6, x7, x8, x9, x10, d].map (res ⟨[], [], 0⟩ 7)).getD i .undef).still1 = true
      rw [List.getD_eq_getElem?_getD, List.getElem?_map]
      cases hg : ([x0, x1, x2, x3, x4, x5, x6, x7, x8, x9, x10, d] : List DV)[i]? with
      | none => rfl
      | some v =>
        have hk := (hs v (List.mem_of_getElem? hg)).1
        show (res ⟨[], [], 0⟩ 7 v).still1 = true
        rw [res_still hk]; exact hk
    have := t_118 y hc hy
    rw [e1, e3]
    exact this
end Go.Dv
