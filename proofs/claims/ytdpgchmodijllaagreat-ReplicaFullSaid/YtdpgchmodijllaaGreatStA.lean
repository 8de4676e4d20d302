/- The law ReplicaFull, run part by part (1). -/
import Derived.Test.YtdpgchmodijllaaGreatDs
set_option linter.unusedVariables false
set_option linter.unusedSimpArgs false
set_option maxRecDepth 100000
namespace Go.Dv
abbrev I (n : Int) : DV := .int .i64 n
abbrev U : DV := .undef
def setL (l : List DV) (ps : List (Nat × DV)) : List DV := ps.foldl (fun l p => l.set p.1 p.2) l
def C_0 : DC := D_4.body
def V_0 (y : Nat → DV) : DV := .agg [y 0, y 1, y 2, y 3, y 4, y 5, y 6, y 7, y 8, y 9, y 10, y 11]
def L_0 (y : Nat → DV) : List DV := [V_0 y, U, U, U, U, U, U, U, U, U, U, U, U, U, U, U, U, U, U, U, U, U, U, U, U, U, U, U, U, U, U, U, U, U, U, U, U, U, U, U, U, U, U, U, U, U, U, U, U, U, U, U, U, U, U, U, U, U, U, U, U, U, U, U, U, U, U, U, U, U, U, U, U, U, U, U, U, U, U, U, U, U, U, U, U, U, U, U, U, U, U, U, U, U, U, U, U, U, U, U, U, U, U, U, U, U, U, U, U, U, U, U, U]
def H_0 (y : Nat → DV) : Hp := ⟨[], [], 0⟩
def C_1 : DC := C_0.fst
def C_2 : DC := C_0.snd
def L_1 (y : Nat → DV) : List DV := setL (L_0 y) [(1, .ptr false 0 0 0 0), (2, .bool false)]
def R_1 (y : Nat → DV) : List DV := [y 0, y 1, y 2, y 3, y 4, y 5, y 6, y 7, y 8, y 9, y 10, y 11]
def H_1 (y : Nat → DV) : Hp := ⟨[⟨0, 12, [R_1 y]⟩], [], 1⟩
theorem t_0 (y : Nat → DV) (hc : ∀ i, i < 12 → (y i).isCell = true) : ex tbX C_1 (L_0 y) (H_0 y) = some (.normal, L_1 y, H_1 y) := by
  have e0 : Opd.ev (L_0 y) (.tmp 0) = V_0 y := by kernel_rfl
  have e1 : (V_0 y).cells = (List.range 12).map y := by kernel_rfl
  have e2 : C_1 = .ops [oS 1 (.box false 12 (.tmp 0)), (oS 2 (.move (.val (.bool false))))] := by kernel_rfl
  have hall : (Opd.ev (L_0 y) (.tmp 0)).cells.length = 12 ∧ (Opd.ev (L_0 y) (.tmp 0)).cells.all DV.isCell = true := by
    rw [e0, e1]
    refine ⟨by simp, ?_⟩
    rw [List.all_eq_true]
    intro d hd
    obtain ⟨i, hi, rfl⟩ := List.mem_map.1 hd
    exact hc i (List.mem_range.1 hi)
  rw [e2]
  refine st_run 2 ?_
  simp only [run, ops, wants, step, oS, mv, ld, lz, fa]
  rw [if_pos hall]
  kernel_rfl
theorem C_0_qe : C_0 = .seq C_1 C_2 := by kernel_rfl
def C_3 : DC := C_2.fst
def C_4 : DC := C_2.snd
def V_2 (y : Nat → DV) : DV := .agg [I (0), I (0), .row 1 [[I (0)]], .nils, .nils, .nils, .nils, .nils, I (0), I (0), I (0)]
def L_2 (y : Nat → DV) : List DV := setL (L_0 y) [(1, .ptr false 0 0 0 0), (2, .bool false), (3, .ptr false 1 1 0 0), (4, I (0)), (15, .tup [V_2 y, I (0)]), (16, .tup [V_2 y, I (0)]), (17, V_2 y), (18, I (0))]
def R_3 (y : Nat → DV) : List DV := [I (0), I (0), .row 1 [[I (0)]], .nils, .nils, .nils, .nils, .nils, I (0), I (0), I (0)]
def H_2 (y : Nat → DV) : Hp := ⟨[⟨0, 12, [R_1 y]⟩, ⟨1, 11, [R_3 y]⟩], [], 2⟩
theorem t_1 (y : Nat → DV) : ex tbX C_3 (L_1 y) (H_1 y) = some (.normal, L_2 y, H_2 y) := st_fast 100000 (by kernel_rfl)
theorem C_2_qe : C_2 = .seq C_3 C_4 := by kernel_rfl
def C_5 : DC := C_4.fst
def C_6 : DC := C_4.snd
def L_3 (y : Nat → DV) : List DV := setL (L_0 y) [(1, .ptr false 0 0 0 0), (2, .bool false), (3, .ptr false 1 1 0 0), (4, I (0)), (15, .tup [V_2 y, I (0)]), (16, .tup [V_2 y, I (0)]), (17, V_2 y), (18, I (0)), (19, I (0)), (20, I (0)), (21, .bool false)]
theorem t_2 (y : Nat → DV) : ex tbX C_5 (L_2 y) (H_2 y) = some (.normal, L_3 y, H_2 y) := st_fast 100000 (by kernel_rfl)
theorem C_4_qe : C_4 = .seq C_5 C_6 := by kernel_rfl
def C_7 : DC := C_6.fst
def C_8 : DC := C_6.snd
def L_4 (y : Nat → DV) : List DV := [V_0 y, .ptr false 0 0 0 0, .bool false, .ptr false 1 1 0 0, I (0), .ptr false 2 2 0 0, U, U, U, U, U, U, U, U, U, .tup [V_2 y, I (0)], .tup [V_2 y, I (0)], V_2 y, I (0), I (0), I (0), .bool false, U, U, U, U, U, U, U, U, U, U, U, U, U, U, U, U, U, U, U, U, U, U, U, U, U, U, U, U, U, U, U, U, U, U, U, U, U, U, U, U, U, U, U, U, U, U, U, U, U, U, U, U, U, U, U, U, U, U, U, U, U, U, U, U, U, U, U, U, U, U, U, U, U, U, U, U, U, U, U, U, U, U, U, U, U, U, U, U, U, U, U]
def H_3 (y : Nat → DV) : Hp := ⟨[⟨0, 12, [R_1 y]⟩, ⟨1, 11, [R_3 y]⟩, ⟨2, 2, [[I (0), I (0)]]⟩], [], 3⟩
theorem t_3 (y : Nat → DV) : ex tbX C_7 (L_3 y) (H_2 y) = some (.normal, L_4 y, H_3 y) := st_fast 100000 (by kernel_rfl)
theorem C_6_qe : C_6 = .seq C_7 C_8 := by kernel_rfl
def C_9 : DC := C_8.fst
def C_10 : DC := C_8.snd
def C_11 : DC := C_9.fst
def C_12 : DC := C_9.snd
theorem C_9_eq : C_9 = .seq C_11 C_12 := by kernel_rfl
def L_5 (y : Nat → DV) : List DV := setL (L_4 y) [(6, I (0))]
theorem t_4 (y : Nat → DV) : ex tbX C_11 (L_4 y) (H_3 y) = some (.normal, L_5 y, H_3 y) := st_fast 100000 (by kernel_rfl)
def C_14 : DC := C_12.fst
theorem C_12_eq : C_12 = .block 0 C_14 := by kernel_rfl
def C_16 : DC := C_14.fst
theorem C_14_eq : C_14 = .loop C_16 := by kernel_rfl
def R_4 (y : Nat → DV) : List DV := [I (1), I (0), I (1), .row 1 [[I (0)]], I (1), I (1), I (0), I (0), I (0), .str ⟨#[128]⟩, I (0), I (0)]
def R_5 (y : Nat → DV) : List DV := [I (1), I (0), I (0), I (0), .str ⟨#[128]⟩]
def R_6 (y : Nat → DV) : List DV := [I (1), I (0), I (1), .row 1 [[I (0)]], I (1), I (1), I (0), I (0), I (0), .str ⟨#[128]⟩, I (0), I (0), .bool false, I (0), I (0), .str ⟨#[]⟩, .bool false]
def V_7 (y : Nat → DV) : DV := .agg [I (0), I (1), .row 1 [[I (1)]], .row 12 [R_4 y], .nils, .row 5 [R_5 y], .row 17 [R_6 y], .nils, I (0), I (0), I (0)]
def V_8 (y : Nat → DV) : DV := .agg [I (0), I (1), I (0), .nils, I (0), I (0), .cell, .cell, .nils]
def V_9 (y : Nat → DV) : DV := .agg [I (1), I (0), I (0), I (0), I (0), I (0), I (0), I (0), I (0), I (0)]
def L_6 (y : Nat → DV) : List DV := [V_0 y, .ptr false 0 0 0 0, .bool false, .ptr false 1 1 0 0, I (0), .ptr false 2 2 0 0, I (1), .ptr false 3 3 0 0, .ptr false 4 4 0 0, I (0), U, U, U, U, U, .tup [V_2 y, I (0)], .tup [V_2 y, I (0)], V_2 y, I (0), I (0), I (0), .bool false, I (0), .bool true, I (0), I (1), .tup [V_7 y, V_8 y, I (0)], V_2 y, V_9 y, .tup [V_7 y, V_8 y, I (0)], V_7 y, V_8 y, I (0), I (0), I (0), .bool false, .bool false, .ptr false 4 4 0 0, I (0), .bool false, .bool false, .tup [], .tup [], .tup [], .tup [], .tup [], .tup [], .tup [], .tup [], .tup [], .tup [], .tup [], .tup [], .tup [], .bool false, .bool false, .bool false, .ptr false 4 4 0 0, I (0), .bool true, .bool true, I (0), .bool false, .bool false, .bool false, V_7 y, .ptr false 4 4 0 0, I (0), .bool true, .ptr false 4 4 0 1, .agg [I (1), I (0)], U, U, U, U, U, U, U, U, U, U, U, U, U, U, U, U, U, U, U, U, U, U, U, U, U, U, U, U, U, U, U, U, U, U, U, U, U, U, U, U, U, U]
def R_10 (y : Nat → DV) : List DV := [I (0), I (1), .row 1 [[I (1)]], .row 12 [R_4 y], .nils, .row 5 [R_5 y], .row 17 [R_6 y], .nils, I (0), I (0), I (0)]
def R_11 (y : Nat → DV) : List DV := [I (0), I (1), I (0), .nils, I (0), I (0), .cell, .cell, .nils]
def H_4 (y : Nat → DV) : Hp := ⟨[⟨0, 12, [R_1 y]⟩, ⟨1, 11, [R_10 y]⟩, ⟨2, 2, [[I (1), I (0)]]⟩, ⟨3, 11, [R_10 y]⟩, ⟨4, 9, [R_11 y]⟩], [], 5⟩
theorem t_5 (y : Nat → DV) : ex tbX C_16 (L_5 y) (H_3 y) = some (.normal, L_6 y, H_4 y) := st_fast 100000 (by kernel_rfl)
def R_12 (y : Nat → DV) : List DV := [I (2), I (0), I (2), .row 1 [[I (1)]], I (1), I (2), I (0), I (0), I (0), .str ⟨#[192]⟩, I (0), I (0)]
def R_13 (y : Nat → DV) : List DV := [I (2), I (0), I (0), I (0), .str ⟨#[192]⟩]
def R_14 (y : Nat → DV) : List DV := [I (2), I (0), I (2), .row 1 [[I (1)]], I (1), I (2), I (0), I (0), I (0), .str ⟨#[192]⟩, I (0), I (0), .bool false, I (0), I (0), .str ⟨#[]⟩, .bool false]
def V_15 (y : Nat → DV) : DV := .agg [I (0), I (2), .row 1 [[I (2)]], .row 12 [R_4 y, R_12 y], .nils, .row 5 [R_5 y, R_13 y], .row 17 [R_6 y, R_14 y], .nils, I (0), I (0), I (0)]
def V_16 (y : Nat → DV) : DV := .agg [I (0), I (2), I (0), .nils, I (0), I (0), .cell, .cell, .nils]
def L_7 (y : Nat → DV) : List DV := setL (L_6 y) [(6, I (2)), (7, .ptr false 5 5 0 0), (8, .ptr false 6 6 0 0), (22, I (1)), (24, I (1)), (25, I (2)), (26, .tup [V_15 y, V_16 y, I (0)]), (27, V_7 y), (29, .tup [V_15 y, V_16 y, I (0)]), (30, V_15 y), (31, V_16 y), (37, .ptr false 6 6 0 0), (57, .ptr false 6 6 0 0), (61, I (1)), (65, V_15 y), (66, .ptr false 6 6 0 0), (69, .ptr false 6 6 0 1), (70, .agg [I (2), I (0)])]
def R_17 (y : Nat → DV) : List DV := [I (0), I (2), .row 1 [[I (2)]], .row 12 [R_4 y, R_12 y], .nils, .row 5 [R_5 y, R_13 y], .row 17 [R_6 y, R_14 y], .nils, I (0), I (0), I (0)]
def R_18 (y : Nat → DV) : List DV := [I (0), I (2), I (0), .nils, I (0), I (0), .cell, .cell, .nils]
def H_5 (y : Nat → DV) : Hp := ⟨[⟨0, 12, [R_1 y]⟩, ⟨1, 11, [R_17 y]⟩, ⟨2, 2, [[I (2), I (0)]]⟩, ⟨3, 11, [R_10 y]⟩, ⟨4, 9, [R_11 y]⟩, ⟨5, 11, [R_17 y]⟩, ⟨6, 9, [R_18 y]⟩], [], 7⟩
theorem t_6 (y : Nat → DV) : ex tbX C_16 (L_6 y) (H_4 y) = some (.normal, L_7 y, H_5 y) := st_fast 100000 (by kernel_rfl)
def R_19 (y : Nat → DV) : List DV := [I (3), I (0), I (3), .row 1 [[I (2)]], I (1), I (3), I (0), I (0), I (0), .str ⟨#[224]⟩, I (0), I (0)]
def R_20 (y : Nat → DV) : List DV := [I (3), I (0), I (0), I (0), .str ⟨#[224]⟩]
def R_21 (y : Nat → DV) : List DV := [I (3), I (0), I (3), .row 1 [[I (2)]], I (1), I (3), I (0), I (0), I (0), .str ⟨#[224]⟩, I (0), I (0), .bool false, I (0), I (0), .str ⟨#[]⟩, .bool false]
def V_22 (y : Nat → DV) : DV := .agg [I (0), I (3), .row 1 [[I (3)]], .row 12 [R_4 y, R_12 y, R_19 y], .nils, .row 5 [R_5 y, R_13 y, R_20 y], .row 17 [R_6 y, R_14 y, R_21 y], .nils, I (0), I (0), I (0)]
def V_23 (y : Nat → DV) : DV := .agg [I (0), I (3), I (0), .nils, I (0), I (0), .cell, .cell, .nils]
def L_8 (y : Nat → DV) : List DV := setL (L_6 y) [(6, I (3)), (7, .ptr false 7 7 0 0), (8, .ptr false 8 8 0 0), (22, I (2)), (24, I (2)), (25, I (3)), (26, .tup [V_22 y, V_23 y, I (0)]), (27, V_15 y), (29, .tup [V_22 y, V_23 y, I (0)]), (30, V_22 y), (31, V_23 y), (37, .ptr false 8 8 0 0), (57, .ptr false 8 8 0 0), (61, I (2)), (65, V_22 y), (66, .ptr false 8 8 0 0), (69, .ptr false 8 8 0 1), (70, .agg [I (3), I (0)])]
def R_24 (y : Nat → DV) : List DV := [I (0), I (3), .row 1 [[I (3)]], .row 12 [R_4 y, R_12 y, R_19 y], .nils, .row 5 [R_5 y, R_13 y, R_20 y], .row 17 [R_6 y, R_14 y, R_21 y], .nils, I (0), I (0), I (0)]
def R_25 (y : Nat → DV) : List DV := [I (0), I (3), I (0), .nils, I (0), I (0), .cell, .cell, .nils]
def X_0 (y : Nat → DV) : List Blk := [⟨3, 11, [R_10 y]⟩, ⟨4, 9, [R_11 y]⟩, ⟨5, 11, [R_17 y]⟩, ⟨6, 9, [R_18 y]⟩, ⟨7, 11, [R_24 y]⟩, ⟨8, 9, [R_25 y]⟩]
def H_6 (y : Nat → DV) : Hp := ⟨([⟨0, 12, [R_1 y]⟩, ⟨1, 11, [R_24 y]⟩, ⟨2, 2, [[I (3), I (0)]]⟩] ++ X_0 y), [], 9⟩
theorem t_7 (y : Nat → DV) : ex tbX C_16 (L_7 y) (H_5 y) = some (.normal, L_8 y, H_6 y) := st_fast 100000 (by kernel_rfl)
def R_26 (y : Nat → DV) : List DV := [I (4), I (0), I (4), .row 1 [[I (3)]], I (1), I (4), I (0), I (0), I (0), .str ⟨#[240]⟩, I (0), I (0)]
def R_27 (y : Nat → DV) : List DV := [I (4), I (0), I (0), I (0), .str ⟨#[240]⟩]
def R_28 (y : Nat → DV) : List DV := [I (4), I (0), I (4), .row 1 [[I (3)]], I (1), I (4), I (0), I (0), I (0), .str ⟨#[240]⟩, I (0), I (0), .bool false, I (0), I (0), .str ⟨#[]⟩, .bool false]
def V_29 (y : Nat → DV) : DV := .agg [I (0), I (4), .row 1 [[I (4)]], .row 12 [R_4 y, R_12 y, R_19 y, R_26 y], .nils, .row 5 [R_5 y, R_13 y, R_20 y, R_27 y], .row 17 [R_6 y, R_14 y, R_21 y, R_28 y], .nils, I (0), I (0), I (0)]
def V_30 (y : Nat → DV) : DV := .agg [I (0), I (4), I (0), .nils, I (0), I (0), .cell, .cell, .nils]
def L_9 (y : Nat → DV) : List DV := setL (L_6 y) [(6, I (4)), (7, .ptr false 9 9 0 0), (8, .ptr false 10 10 0 0), (22, I (3)), (24, I (3)), (25, I (4)), (26, .tup [V_29 y, V_30 y, I (0)]), (27, V_22 y), (29, .tup [V_29 y, V_30 y, I (0)]), (30, V_29 y), (31, V_30 y), (37, .ptr false 10 10 0 0), (57, .ptr false 10 10 0 0), (61, I (3)), (65, V_29 y), (66, .ptr false 10 10 0 0), (69, .ptr false 10 10 0 1), (70, .agg [I (4), I (0)])]
def R_31 (y : Nat → DV) : List DV := [I (0), I (4), .row 1 [[I (4)]], .row 12 [R_4 y, R_12 y, R_19 y, R_26 y], .nils, .row 5 [R_5 y, R_13 y, R_20 y, R_27 y], .row 17 [R_6 y, R_14 y, R_21 y, R_28 y], .nils, I (0), I (0), I (0)]
def R_32 (y : Nat → DV) : List DV := [I (0), I (4), I (0), .nils, I (0), I (0), .cell, .cell, .nils]
def X_1 (y : Nat → DV) : List Blk := X_0 y ++ [⟨9, 11, [R_31 y]⟩, ⟨10, 9, [R_32 y]⟩]
def H_7 (y : Nat → DV) : Hp := ⟨([⟨0, 12, [R_1 y]⟩, ⟨1, 11, [R_31 y]⟩, ⟨2, 2, [[I (4), I (0)]]⟩] ++ X_1 y), [], 11⟩
theorem t_8 (y : Nat → DV) : ex tbX C_16 (L_8 y) (H_6 y) = some (.normal, L_9 y, H_7 y) := st_fast 100000 (by kernel_rfl)
def R_33 (y : Nat → DV) : List DV := [I (5), I (0), I (5), .row 1 [[I (4)]], I (1), I (5), I (0), I (0), I (0), .str ⟨#[248]⟩, I (0), I (0)]
def Y_0 (y : Nat → DV) : List (List DV) := [R_4 y, R_12 y, R_19 y, R_26 y, R_33 y]
def V_34 (y : Nat → DV) : DV := .row 12 (Y_0 y)
def R_35 (y : Nat → DV) : List DV := [I (5), I (0), I (0), I (0), .str ⟨#[248]⟩]
def Y_1 (y : Nat → DV) : List (List DV) := [R_5 y, R_13 y, R_20 y, R_27 y, R_35 y]
def V_36 (y : Nat → DV) : DV := .row 5 (Y_1 y)
def R_37 (y : Nat → DV) : List DV := [I (5), I (0), I (5), .row 1 [[I (4)]], I (1), I (5), I (0), I (0), I (0), .str ⟨#[248]⟩, I (0), I (0), .bool false, I (0), I (0), .str ⟨#[]⟩, .bool false]
def Y_2 (y : Nat → DV) : List (List DV) := [R_6 y, R_14 y, R_21 y, R_28 y, R_37 y]
def V_38 (y : Nat → DV) : DV := .row 17 (Y_2 y)
def V_39 (y : Nat → DV) : DV := .agg [I (0), I (5), .row 1 [[I (5)]], V_34 y, .nils, V_36 y, V_38 y, .nils, I (0), I (0), I (0)]
def V_40 (y : Nat → DV) : DV := .agg [I (0), I (5), I (0), .nils, I (0), I (0), .cell, .cell, .nils]
def L_10 (y : Nat → DV) : List DV := setL (L_6 y) [(6, I (5)), (7, .ptr false 11 11 0 0), (8, .ptr false 12 12 0 0), (22, I (4)), (24, I (4)), (25, I (5)), (26, .tup [V_39 y, V_40 y, I (0)]), (27, V_29 y), (29, .tup [V_39 y, V_40 y, I (0)]), (30, V_39 y), (31, V_40 y), (37, .ptr false 12 12 0 0), (57, .ptr false 12 12 0 0), (61, I (4)), (65, V_39 y), (66, .ptr false 12 12 0 0), (69, .ptr false 12 12 0 1), (70, .agg [I (5), I (0)])]
def R_41 (y : Nat → DV) : List DV := [I (0), I (5), .row 1 [[I (5)]], V_34 y, .nils, V_36 y, V_38 y, .nils, I (0), I (0), I (0)]
def R_42 (y : Nat → DV) : List DV := [I (0), I (5), I (0), .nils, I (0), I (0), .cell, .cell, .nils]
def X_2 (y : Nat → DV) : List Blk := X_1 y ++ [⟨11, 11, [R_41 y]⟩, ⟨12, 9, [R_42 y]⟩]
def H_8 (y : Nat → DV) : Hp := ⟨([⟨0, 12, [R_1 y]⟩, ⟨1, 11, [R_41 y]⟩, ⟨2, 2, [[I (5), I (0)]]⟩] ++ X_2 y), [], 13⟩
theorem t_9 (y : Nat → DV) : ex tbX C_16 (L_9 y) (H_7 y) = some (.normal, L_10 y, H_8 y) := st_fast 100000 (by kernel_rfl)
def R_43 (y : Nat → DV) : List DV := [I (6), I (0), I (6), .row 1 [[I (5)]], I (1), I (6), I (0), I (0), I (0), .str ⟨#[252]⟩, I (0), I (0)]
def Y_3 (y : Nat → DV) : List (List DV) := Y_0 y ++ [R_43 y]
def V_44 (y : Nat → DV) : DV := .row 12 (Y_3 y)
def R_45 (y : Nat → DV) : List DV := [I (6), I (0), I (0), I (0), .str ⟨#[252]⟩]
def Y_4 (y : Nat → DV) : List (List DV) := Y_1 y ++ [R_45 y]
def V_46 (y : Nat → DV) : DV := .row 5 (Y_4 y)
def R_47 (y : Nat → DV) : List DV := [I (6), I (0), I (6), .row 1 [[I (5)]], I (1), I (6), I (0), I (0), I (0), .str ⟨#[252]⟩, I (0), I (0), .bool false, I (0), I (0), .str ⟨#[]⟩, .bool false]
def Y_5 (y : Nat → DV) : List (List DV) := Y_2 y ++ [R_47 y]
def V_48 (y : Nat → DV) : DV := .row 17 (Y_5 y)
def V_49 (y : Nat → DV) : DV := .agg [I (0), I (6), .row 1 [[I (6)]], V_44 y, .nils, V_46 y, V_48 y, .nils, I (0), I (0), I (0)]
def V_50 (y : Nat → DV) : DV := .agg [I (0), I (6), I (0), .nils, I (0), I (0), .cell, .cell, .nils]
def L_11 (y : Nat → DV) : List DV := setL (L_6 y) [(6, I (6)), (7, .ptr false 13 13 0 0), (8, .ptr false 14 14 0 0), (22, I (5)), (24, I (5)), (25, I (6)), (26, .tup [V_49 y, V_50 y, I (0)]), (27, V_39 y), (29, .tup [V_49 y, V_50 y, I (0)]), (30, V_49 y), (31, V_50 y), (37, .ptr false 14 14 0 0), (57, .ptr false 14 14 0 0), (61, I (5)), (65, V_49 y), (66, .ptr false 14 14 0 0), (69, .ptr false 14 14 0 1), (70, .agg [I (6), I (0)])]
def R_51 (y : Nat → DV) : List DV := [I (0), I (6), .row 1 [[I (6)]], V_44 y, .nils, V_46 y, V_48 y, .nils, I (0), I (0), I (0)]
def R_52 (y : Nat → DV) : List DV := [I (0), I (6), I (0), .nils, I (0), I (0), .cell, .cell, .nils]
def X_3 (y : Nat → DV) : List Blk := X_2 y ++ [⟨13, 11, [R_51 y]⟩, ⟨14, 9, [R_52 y]⟩]
def H_9 (y : Nat → DV) : Hp := ⟨([⟨0, 12, [R_1 y]⟩, ⟨1, 11, [R_51 y]⟩, ⟨2, 2, [[I (6), I (0)]]⟩] ++ X_3 y), [], 15⟩
theorem t_10 (y : Nat → DV) : ex tbX C_16 (L_10 y) (H_8 y) = some (.normal, L_11 y, H_9 y) := st_fast 100000 (by kernel_rfl)
def R_53 (y : Nat → DV) : List DV := [I (7), I (0), I (7), .row 1 [[I (6)]], I (1), I (7), I (0), I (0), I (0), .str ⟨#[254]⟩, I (0), I (0)]
def Y_6 (y : Nat → DV) : List (List DV) := Y_3 y ++ [R_53 y]
def V_54 (y : Nat → DV) : DV := .row 12 (Y_6 y)
def R_55 (y : Nat → DV) : List DV := [I (7), I (0), I (0), I (0), .str ⟨#[254]⟩]
def Y_7 (y : Nat → DV) : List (List DV) := Y_4 y ++ [R_55 y]
def V_56 (y : Nat → DV) : DV := .row 5 (Y_7 y)
def R_57 (y : Nat → DV) : List DV := [I (7), I (0), I (7), .row 1 [[I (6)]], I (1), I (7), I (0), I (0), I (0), .str ⟨#[254]⟩, I (0), I (0), .bool false, I (0), I (0), .str ⟨#[]⟩, .bool false]
def Y_8 (y : Nat → DV) : List (List DV) := Y_5 y ++ [R_57 y]
def V_58 (y : Nat → DV) : DV := .row 17 (Y_8 y)
def V_59 (y : Nat → DV) : DV := .agg [I (0), I (7), .row 1 [[I (7)]], V_54 y, .nils, V_56 y, V_58 y, .nils, I (0), I (0), I (0)]
def V_60 (y : Nat → DV) : DV := .agg [I (0), I (7), I (0), .nils, I (0), I (0), .cell, .cell, .nils]
def L_12 (y : Nat → DV) : List DV := setL (L_6 y) [(6, I (7)), (7, .ptr false 15 15 0 0), (8, .ptr false 16 16 0 0), (22, I (6)), (24, I (6)), (25, I (7)), (26, .tup [V_59 y, V_60 y, I (0)]), (27, V_49 y), (29, .tup [V_59 y, V_60 y, I (0)]), (30, V_59 y), (31, V_60 y), (37, .ptr false 16 16 0 0), (57, .ptr false 16 16 0 0), (61, I (6)), (65, V_59 y), (66, .ptr false 16 16 0 0), (69, .ptr false 16 16 0 1), (70, .agg [I (7), I (0)])]
def R_61 (y : Nat → DV) : List DV := [I (0), I (7), .row 1 [[I (7)]], V_54 y, .nils, V_56 y, V_58 y, .nils, I (0), I (0), I (0)]
def R_62 (y : Nat → DV) : List DV := [I (0), I (7), I (0), .nils, I (0), I (0), .cell, .cell, .nils]
def X_4 (y : Nat → DV) : List Blk := X_3 y ++ [⟨15, 11, [R_61 y]⟩, ⟨16, 9, [R_62 y]⟩]
def H_10 (y : Nat → DV) : Hp := ⟨([⟨0, 12, [R_1 y]⟩, ⟨1, 11, [R_61 y]⟩, ⟨2, 2, [[I (7), I (0)]]⟩] ++ X_4 y), [], 17⟩
theorem t_11 (y : Nat → DV) : ex tbX C_16 (L_11 y) (H_9 y) = some (.normal, L_12 y, H_10 y) := st_fast 100000 (by kernel_rfl)
def R_63 (y : Nat → DV) : List DV := [I (8), I (0), I (8), .row 1 [[I (7)]], I (1), I (8), I (0), I (0), I (0), .str ⟨#[255]⟩, I (0), I (0)]
def Y_9 (y : Nat → DV) : List (List DV) := Y_6 y ++ [R_63 y]
def V_64 (y : Nat → DV) : DV := .row 12 (Y_9 y)
def R_65 (y : Nat → DV) : List DV := [I (8), I (0), I (0), I (0), .str ⟨#[255]⟩]
def Y_10 (y : Nat → DV) : List (List DV) := Y_7 y ++ [R_65 y]
def V_66 (y : Nat → DV) : DV := .row 5 (Y_10 y)
def R_67 (y : Nat → DV) : List DV := [I (8), I (0), I (8), .row 1 [[I (7)]], I (1), I (8), I (0), I (0), I (0), .str ⟨#[255]⟩, I (0), I (0), .bool false, I (0), I (0), .str ⟨#[]⟩, .bool false]
def Y_11 (y : Nat → DV) : List (List DV) := Y_8 y ++ [R_67 y]
def V_68 (y : Nat → DV) : DV := .row 17 (Y_11 y)
def V_69 (y : Nat → DV) : DV := .agg [I (0), I (8), .row 1 [[I (8)]], V_64 y, .nils, V_66 y, V_68 y, .nils, I (0), I (0), I (0)]
def V_70 (y : Nat → DV) : DV := .agg [I (0), I (8), I (0), .nils, I (0), I (0), .cell, .cell, .nils]
def L_13 (y : Nat → DV) : List DV := setL (L_6 y) [(6, I (8)), (7, .ptr false 17 17 0 0), (8, .ptr false 18 18 0 0), (22, I (7)), (24, I (7)), (25, I (8)), (26, .tup [V_69 y, V_70 y, I (0)]), (27, V_59 y), (29, .tup [V_69 y, V_70 y, I (0)]), (30, V_69 y), (31, V_70 y), (37, .ptr false 18 18 0 0), (57, .ptr false 18 18 0 0), (61, I (7)), (65, V_69 y), (66, .ptr false 18 18 0 0), (69, .ptr false 18 18 0 1), (70, .agg [I (8), I (0)])]
def R_71 (y : Nat → DV) : List DV := [I (0), I (8), .row 1 [[I (8)]], V_64 y, .nils, V_66 y, V_68 y, .nils, I (0), I (0), I (0)]
def R_72 (y : Nat → DV) : List DV := [I (0), I (8), I (0), .nils, I (0), I (0), .cell, .cell, .nils]
def X_5 (y : Nat → DV) : List Blk := X_4 y ++ [⟨17, 11, [R_71 y]⟩, ⟨18, 9, [R_72 y]⟩]
def H_11 (y : Nat → DV) : Hp := ⟨([⟨0, 12, [R_1 y]⟩, ⟨1, 11, [R_71 y]⟩, ⟨2, 2, [[I (8), I (0)]]⟩] ++ X_5 y), [], 19⟩
theorem t_12 (y : Nat → DV) : ex tbX C_16 (L_12 y) (H_10 y) = some (.normal, L_13 y, H_11 y) := st_fast 100000 (by kernel_rfl)
def R_73 (y : Nat → DV) : List DV := [I (9), I (0), I (9), .row 1 [[I (8)]], I (1), I (9), I (0), I (0), I (0), .str ⟨#[255, 128]⟩, I (0), I (0)]
def Y_12 (y : Nat → DV) : List (List DV) := Y_9 y ++ [R_73 y]
def V_74 (y : Nat → DV) : DV := .row 12 (Y_12 y)
def R_75 (y : Nat → DV) : List DV := [I (9), I (0), I (0), I (0), .str ⟨#[255, 128]⟩]
def Y_13 (y : Nat → DV) : List (List DV) := Y_10 y ++ [R_75 y]
def V_76 (y : Nat → DV) : DV := .row 5 (Y_13 y)
def R_77 (y : Nat → DV) : List DV := [I (9), I (0), I (9), .row 1 [[I (8)]], I (1), I (9), I (0), I (0), I (0), .str ⟨#[255, 128]⟩, I (0), I (0), .bool false, I (0), I (0), .str ⟨#[]⟩, .bool false]
def Y_14 (y : Nat → DV) : List (List DV) := Y_11 y ++ [R_77 y]
def V_78 (y : Nat → DV) : DV := .row 17 (Y_14 y)
def V_79 (y : Nat → DV) : DV := .agg [I (0), I (9), .row 1 [[I (9)]], V_74 y, .nils, V_76 y, V_78 y, .nils, I (0), I (0), I (0)]
def V_80 (y : Nat → DV) : DV := .agg [I (0), I (9), I (0), .nils, I (0), I (0), .cell, .cell, .nils]
def L_14 (y : Nat → DV) : List DV := setL (L_6 y) [(6, I (9)), (7, .ptr false 19 19 0 0), (8, .ptr false 20 20 0 0), (22, I (8)), (24, I (8)), (25, I (9)), (26, .tup [V_79 y, V_80 y, I (0)]), (27, V_69 y), (29, .tup [V_79 y, V_80 y, I (0)]), (30, V_79 y), (31, V_80 y), (37, .ptr false 20 20 0 0), (57, .ptr false 20 20 0 0), (61, I (8)), (65, V_79 y), (66, .ptr false 20 20 0 0), (69, .ptr false 20 20 0 1), (70, .agg [I (9), I (0)])]
def R_81 (y : Nat → DV) : List DV := [I (0), I (9), .row 1 [[I (9)]], V_74 y, .nils, V_76 y, V_78 y, .nils, I (0), I (0), I (0)]
def R_82 (y : Nat → DV) : List DV := [I (0), I (9), I (0), .nils, I (0), I (0), .cell, .cell, .nils]
def X_6 (y : Nat → DV) : List Blk := X_5 y ++ [⟨19, 11, [R_81 y]⟩, ⟨20, 9, [R_82 y]⟩]
def H_12 (y : Nat → DV) : Hp := ⟨([⟨0, 12, [R_1 y]⟩, ⟨1, 11, [R_81 y]⟩, ⟨2, 2, [[I (9), I (0)]]⟩] ++ X_6 y), [], 21⟩
theorem t_13 (y : Nat → DV) : ex tbX C_16 (L_13 y) (H_11 y) = some (.normal, L_14 y, H_12 y) := st_fast 100000 (by kernel_rfl)
def R_83 (y : Nat → DV) : List DV := [I (10), I (0), I (10), .row 1 [[I (9)]], I (1), I (10), I (0), I (0), I (0), .str ⟨#[255, 192]⟩, I (0), I (0)]
def Y_15 (y : Nat → DV) : List (List DV) := Y_12 y ++ [R_83 y]
def V_84 (y : Nat → DV) : DV := .row 12 (Y_15 y)
def R_85 (y : Nat → DV) : List DV := [I (10), I (0), I (0), I (0), .str ⟨#[255, 192]⟩]
def Y_16 (y : Nat → DV) : List (List DV) := Y_13 y ++ [R_85 y]
def V_86 (y : Nat → DV) : DV := .row 5 (Y_16 y)
def R_87 (y : Nat → DV) : List DV := [I (10), I (0), I (10), .row 1 [[I (9)]], I (1), I (10), I (0), I (0), I (0), .str ⟨#[255, 192]⟩, I (0), I (0), .bool false, I (0), I (0), .str ⟨#[]⟩, .bool false]
def Y_17 (y : Nat → DV) : List (List DV) := Y_14 y ++ [R_87 y]
def V_88 (y : Nat → DV) : DV := .row 17 (Y_17 y)
def V_89 (y : Nat → DV) : DV := .agg [I (0), I (10), .row 1 [[I (10)]], V_84 y, .nils, V_86 y, V_88 y, .nils, I (0), I (0), I (0)]
def V_90 (y : Nat → DV) : DV := .agg [I (0), I (10), I (0), .nils, I (0), I (0), .cell, .cell, .nils]
def L_15 (y : Nat → DV) : List DV := setL (L_6 y) [(6, I (10)), (7, .ptr false 21 21 0 0), (8, .ptr false 22 22 0 0), (22, I (9)), (24, I (9)), (25, I (10)), (26, .tup [V_89 y, V_90 y, I (0)]), (27, V_79 y), (29, .tup [V_89 y, V_90 y, I (0)]), (30, V_89 y), (31, V_90 y), (37, .ptr false 22 22 0 0), (57, .ptr false 22 22 0 0), (61, I (9)), (65, V_89 y), (66, .ptr false 22 22 0 0), (69, .ptr false 22 22 0 1), (70, .agg [I (10), I (0)])]
def R_91 (y : Nat → DV) : List DV := [I (0), I (10), .row 1 [[I (10)]], V_84 y, .nils, V_86 y, V_88 y, .nils, I (0), I (0), I (0)]
def R_92 (y : Nat → DV) : List DV := [I (0), I (10), I (0), .nils, I (0), I (0), .cell, .cell, .nils]
def X_7 (y : Nat → DV) : List Blk := X_6 y ++ [⟨21, 11, [R_91 y]⟩, ⟨22, 9, [R_92 y]⟩]
def H_13 (y : Nat → DV) : Hp := ⟨([⟨0, 12, [R_1 y]⟩, ⟨1, 11, [R_91 y]⟩, ⟨2, 2, [[I (10), I (0)]]⟩] ++ X_7 y), [], 23⟩
theorem t_14 (y : Nat → DV) : ex tbX C_16 (L_14 y) (H_12 y) = some (.normal, L_15 y, H_13 y) := st_fast 100000 (by kernel_rfl)
def R_93 (y : Nat → DV) : List DV := [I (11), I (0), I (11), .row 1 [[I (10)]], I (1), I (11), I (0), I (0), I (0), .str ⟨#[255, 224]⟩, I (0), I (0)]
def Y_18 (y : Nat → DV) : List (List DV) := Y_15 y ++ [R_93 y]
def V_94 (y : Nat → DV) : DV := .row 12 (Y_18 y)
def R_95 (y : Nat → DV) : List DV := [I (11), I (0), I (0), I (0), .str ⟨#[255, 224]⟩]
def Y_19 (y : Nat → DV) : List (List DV) := Y_16 y ++ [R_95 y]
def V_96 (y : Nat → DV) : DV := .row 5 (Y_19 y)
def R_97 (y : Nat → DV) : List DV := [I (11), I (0), I (11), .row 1 [[I (10)]], I (1), I (11), I (0), I (0), I (0), .str ⟨#[255, 224]⟩, I (0), I (0), .bool false, I (0), I (0), .str ⟨#[]⟩, .bool false]
def Y_20 (y : Nat → DV) : List (List DV) := Y_17 y ++ [R_97 y]
def V_98 (y : Nat → DV) : DV := .row 17 (Y_20 y)
def V_99 (y : Nat → DV) : DV := .agg [I (0), I (11), .row 1 [[I (11)]], V_94 y, .nils, V_96 y, V_98 y, .nils, I (0), I (0), I (0)]
def V_100 (y : Nat → DV) : DV := .agg [I (0), I (11), I (0), .nils, I (0), I (0), .cell, .cell, .nils]
def L_16 (y : Nat → DV) : List DV := setL (L_6 y) [(6, I (11)), (7, .ptr false 23 23 0 0), (8, .ptr false 24 24 0 0), (22, I (10)), (24, I (10)), (25, I (11)), (26, .tup [V_99 y, V_100 y, I (0)]), (27, V_89 y), (29, .tup [V_99 y, V_100 y, I (0)]), (30, V_99 y), (31, V_100 y), (37, .ptr false 24 24 0 0), (57, .ptr false 24 24 0 0), (61, I (10)), (65, V_99 y), (66, .ptr false 24 24 0 0), (69, .ptr false 24 24 0 1), (70, .agg [I (11), I (0)])]
def R_101 (y : Nat → DV) : List DV := [I (0), I (11), .row 1 [[I (11)]], V_94 y, .nils, V_96 y, V_98 y, .nils, I (0), I (0), I (0)]
def R_102 (y : Nat → DV) : List DV := [I (0), I (11), I (0), .nils, I (0), I (0), .cell, .cell, .nils]
def X_8 (y : Nat → DV) : List Blk := X_7 y ++ [⟨23, 11, [R_101 y]⟩, ⟨24, 9, [R_102 y]⟩]
def H_14 (y : Nat → DV) : Hp := ⟨([⟨0, 12, [R_1 y]⟩, ⟨1, 11, [R_101 y]⟩, ⟨2, 2, [[I (11), I (0)]]⟩] ++ X_8 y), [], 25⟩
theorem t_15 (y : Nat → DV) : ex tbX C_16 (L_15 y) (H_13 y) = some (.normal, L_16 y, H_14 y) := st_fast 100000 (by kernel_rfl)
def R_103 (y : Nat → DV) : List DV := [I (12), I (0), I (12), .row 1 [[I (11)]], I (1), I (12), I (0), I (0), I (0), .str ⟨#[255, 240]⟩, I (0), I (0)]
def Y_21 (y : Nat → DV) : List (List DV) := Y_18 y ++ [R_103 y]
def V_104 (y : Nat → DV) : DV := .row 12 (Y_21 y)
def R_105 (y : Nat → DV) : List DV := [I (12), I (0), I (0), I (0), .str ⟨#[255, 240]⟩]
def Y_22 (y : Nat → DV) : List (List DV) := Y_19 y ++ [R_105 y]
def V_106 (y : Nat → DV) : DV := .row 5 (Y_22 y)
def R_107 (y : Nat → DV) : List DV := [I (12), I (0), I (12), .row 1 [[I (11)]], I (1), I (12), I (0), I (0), I (0), .str ⟨#[255, 240]⟩, I (0), I (0), .bool false, I (0), I (0), .str ⟨#[]⟩, .bool false]
def Y_23 (y : Nat → DV) : List (List DV) := Y_20 y ++ [R_107 y]
def V_108 (y : Nat → DV) : DV := .row 17 (Y_23 y)
def V_109 (y : Nat → DV) : DV := .agg [I (0), I (12), .row 1 [[I (12)]], V_104 y, .nils, V_106 y, V_108 y, .nils, I (0), I (0), I (0)]
def V_110 (y : Nat → DV) : DV := .agg [I (0), I (12), I (0), .nils, I (0), I (0), .cell, .cell, .nils]
def L_17 (y : Nat → DV) : List DV := setL (L_6 y) [(6, I (12)), (7, .ptr false 25 25 0 0), (8, .ptr false 26 26 0 0), (22, I (11)), (24, I (11)), (25, I (12)), (26, .tup [V_109 y, V_110 y, I (0)]), (27, V_99 y), (29, .tup [V_109 y, V_110 y, I (0)]), (30, V_109 y), (31, V_110 y), (37, .ptr false 26 26 0 0), (57, .ptr false 26 26 0 0), (61, I (11)), (65, V_109 y), (66, .ptr false 26 26 0 0), (69, .ptr false 26 26 0 1), (70, .agg [I (12), I (0)])]
def R_111 (y : Nat → DV) : List DV := [I (0), I (12), .row 1 [[I (12)]], V_104 y, .nils, V_106 y, V_108 y, .nils, I (0), I (0), I (0)]
def R_112 (y : Nat → DV) : List DV := [I (0), I (12), I (0), .nils, I (0), I (0), .cell, .cell, .nils]
def X_9 (y : Nat → DV) : List Blk := X_8 y ++ [⟨25, 11, [R_111 y]⟩, ⟨26, 9, [R_112 y]⟩]
def H_15 (y : Nat → DV) : Hp := ⟨([⟨0, 12, [R_1 y]⟩, ⟨1, 11, [R_111 y]⟩, ⟨2, 2, [[I (12), I (0)]]⟩] ++ X_9 y), [], 27⟩
theorem t_16 (y : Nat → DV) : ex tbX C_16 (L_16 y) (H_14 y) = some (.normal, L_17 y, H_15 y) := st_fast 100000 (by kernel_rfl)
def R_113 (y : Nat → DV) : List DV := [I (13), I (0), I (13), .row 1 [[I (12)]], I (1), I (13), I (0), I (0), I (0), .str ⟨#[255, 248]⟩, I (0), I (0)]
def Y_24 (y : Nat → DV) : List (List DV) := Y_21 y ++ [R_113 y]
def V_114 (y : Nat → DV) : DV := .row 12 (Y_24 y)
def R_115 (y : Nat → DV) : List DV := [I (13), I (0), I (0), I (0), .str ⟨#[255, 248]⟩]
def Y_25 (y : Nat → DV) : List (List DV) := Y_22 y ++ [R_115 y]
def V_116 (y : Nat → DV) : DV := .row 5 (Y_25 y)
def R_117 (y : Nat → DV) : List DV := [I (13), I (0), I (13), .row 1 [[I (12)]], I (1), I (13), I (0), I (0), I (0), .str ⟨#[255, 248]⟩, I (0), I (0), .bool false, I (0), I (0), .str ⟨#[]⟩, .bool false]
def Y_26 (y : Nat → DV) : List (List DV) := Y_23 y ++ [R_117 y]
def V_118 (y : Nat → DV) : DV := .row 17 (Y_26 y)
def V_119 (y : Nat → DV) : DV := .agg [I (0), I (13), .row 1 [[I (13)]], V_114 y, .nils, V_116 y, V_118 y, .nils, I (0), I (0), I (0)]
def V_120 (y : Nat → DV) : DV := .agg [I (0), I (13), I (0), .nils, I (0), I (0), .cell, .cell, .nils]
def L_18 (y : Nat → DV) : List DV := setL (L_6 y) [(6, I (13)), (7, .ptr false 27 27 0 0), (8, .ptr false 28 28 0 0), (22, I (12)), (24, I (12)), (25, I (13)), (26, .tup [V_119 y, V_120 y, I (0)]), (27, V_109 y), (29, .tup [V_119 y, V_120 y, I (0)]), (30, V_119 y), (31, V_120 y), (37, .ptr false 28 28 0 0), (57, .ptr false 28 28 0 0), (61, I (12)), (65, V_119 y), (66, .ptr false 28 28 0 0), (69, .ptr false 28 28 0 1), (70, .agg [I (13), I (0)])]
def R_121 (y : Nat → DV) : List DV := [I (0), I (13), .row 1 [[I (13)]], V_114 y, .nils, V_116 y, V_118 y, .nils, I (0), I (0), I (0)]
def R_122 (y : Nat → DV) : List DV := [I (0), I (13), I (0), .nils, I (0), I (0), .cell, .cell, .nils]
def X_10 (y : Nat → DV) : List Blk := X_9 y ++ [⟨27, 11, [R_121 y]⟩, ⟨28, 9, [R_122 y]⟩]
def H_16 (y : Nat → DV) : Hp := ⟨([⟨0, 12, [R_1 y]⟩, ⟨1, 11, [R_121 y]⟩, ⟨2, 2, [[I (13), I (0)]]⟩] ++ X_10 y), [], 29⟩
theorem t_17 (y : Nat → DV) : ex tbX C_16 (L_17 y) (H_15 y) = some (.normal, L_18 y, H_16 y) := st_fast 100000 (by kernel_rfl)
def R_123 (y : Nat → DV) : List DV := [I (14), I (0), I (14), .row 1 [[I (13)]], I (1), I (14), I (0), I (0), I (0), .str ⟨#[255, 252]⟩, I (0), I (0)]
def Y_27 (y : Nat → DV) : List (List DV) := Y_24 y ++ [R_123 y]
def V_124 (y : Nat → DV) : DV := .row 12 (Y_27 y)
def R_125 (y : Nat → DV) : List DV := [I (14), I (0), I (0), I (0), .str ⟨#[255, 252]⟩]
def Y_28 (y : Nat → DV) : List (List DV) := Y_25 y ++ [R_125 y]
def V_126 (y : Nat → DV) : DV := .row 5 (Y_28 y)
def R_127 (y : Nat → DV) : List DV := [I (14), I (0), I (14), .row 1 [[I (13)]], I (1), I (14), I (0), I (0), I (0), .str ⟨#[255, 252]⟩, I (0), I (0), .bool false, I (0), I (0), .str ⟨#[]⟩, .bool false]
def Y_29 (y : Nat → DV) : List (List DV) := Y_26 y ++ [R_127 y]
def V_128 (y : Nat → DV) : DV := .row 17 (Y_29 y)
def V_129 (y : Nat → DV) : DV := .agg [I (0), I (14), .row 1 [[I (14)]], V_124 y, .nils, V_126 y, V_128 y, .nils, I (0), I (0), I (0)]
def V_130 (y : Nat → DV) : DV := .agg [I (0), I (14), I (0), .nils, I (0), I (0), .cell, .cell, .nils]
def L_19 (y : Nat → DV) : List DV := setL (L_6 y) [(6, I (14)), (7, .ptr false 29 29 0 0), (8, .ptr false 30 30 0 0), (22, I (13)), (24, I (13)), (25, I (14)), (26, .tup [V_129 y, V_130 y, I (0)]), (27, V_119 y), (29, .tup [V_129 y, V_130 y, I (0)]), (30, V_129 y), (31, V_130 y), (37, .ptr false 30 30 0 0), (57, .ptr false 30 30 0 0), (61, I (13)), (65, V_129 y), (66, .ptr false 30 30 0 0), (69, .ptr false 30 30 0 1), (70, .agg [I (14), I (0)])]
def R_131 (y : Nat → DV) : List DV := [I (0), I (14), .row 1 [[I (14)]], V_124 y, .nils, V_126 y, V_128 y, .nils, I (0), I (0), I (0)]
def R_132 (y : Nat → DV) : List DV := [I (0), I (14), I (0), .nils, I (0), I (0), .cell, .cell, .nils]
def X_11 (y : Nat → DV) : List Blk := X_10 y ++ [⟨29, 11, [R_131 y]⟩, ⟨30, 9, [R_132 y]⟩]
def H_17 (y : Nat → DV) : Hp := ⟨([⟨0, 12, [R_1 y]⟩, ⟨1, 11, [R_131 y]⟩, ⟨2, 2, [[I (14), I (0)]]⟩] ++ X_11 y), [], 31⟩
theorem t_18 (y : Nat → DV) : ex tbX C_16 (L_18 y) (H_16 y) = some (.normal, L_19 y, H_17 y) := st_fast 100000 (by kernel_rfl)
def R_133 (y : Nat → DV) : List DV := [I (15), I (0), I (15), .row 1 [[I (14)]], I (1), I (15), I (0), I (0), I (0), .str ⟨#[255, 254]⟩, I (0), I (0)]
def Y_30 (y : Nat → DV) : List (List DV) := Y_27 y ++ [R_133 y]
def V_134 (y : Nat → DV) : DV := .row 12 (Y_30 y)
def R_135 (y : Nat → DV) : List DV := [I (15), I (0), I (0), I (0), .str ⟨#[255, 254]⟩]
def Y_31 (y : Nat → DV) : List (List DV) := Y_28 y ++ [R_135 y]
def V_136 (y : Nat → DV) : DV := .row 5 (Y_31 y)
def R_137 (y : Nat → DV) : List DV := [I (15), I (0), I (15), .row 1 [[I (14)]], I (1), I (15), I (0), I (0), I (0), .str ⟨#[255, 254]⟩, I (0), I (0), .bool false, I (0), I (0), .str ⟨#[]⟩, .bool false]
def Y_32 (y : Nat → DV) : List (List DV) := Y_29 y ++ [R_137 y]
def V_138 (y : Nat → DV) : DV := .row 17 (Y_32 y)
def V_139 (y : Nat → DV) : DV := .agg [I (0), I (15), .row 1 [[I (15)]], V_134 y, .nils, V_136 y, V_138 y, .nils, I (0), I (0), I (0)]
def V_140 (y : Nat → DV) : DV := .agg [I (0), I (15), I (0), .nils, I (0), I (0), .cell, .cell, .nils]
def L_20 (y : Nat → DV) : List DV := setL (L_6 y) [(6, I (15)), (7, .ptr false 31 31 0 0), (8, .ptr false 32 32 0 0), (22, I (14)), (24, I (14)), (25, I (15)), (26, .tup [V_139 y, V_140 y, I (0)]), (27, V_129 y), (29, .tup [V_139 y, V_140 y, I (0)]), (30, V_139 y), (31, V_140 y), (37, .ptr false 32 32 0 0), (57, .ptr false 32 32 0 0), (61, I (14)), (65, V_139 y), (66, .ptr false 32 32 0 0), (69, .ptr false 32 32 0 1), (70, .agg [I (15), I (0)])]
def R_141 (y : Nat → DV) : List DV := [I (0), I (15), .row 1 [[I (15)]], V_134 y, .nils, V_136 y, V_138 y, .nils, I (0), I (0), I (0)]
def R_142 (y : Nat → DV) : List DV := [I (0), I (15), I (0), .nils, I (0), I (0), .cell, .cell, .nils]
def X_12 (y : Nat → DV) : List Blk := X_11 y ++ [⟨31, 11, [R_141 y]⟩, ⟨32, 9, [R_142 y]⟩]
def H_18 (y : Nat → DV) : Hp := ⟨([⟨0, 12, [R_1 y]⟩, ⟨1, 11, [R_141 y]⟩, ⟨2, 2, [[I (15), I (0)]]⟩] ++ X_12 y), [], 33⟩
theorem t_19 (y : Nat → DV) : ex tbX C_16 (L_19 y) (H_17 y) = some (.normal, L_20 y, H_18 y) := st_fast 100000 (by kernel_rfl)
def R_143 (y : Nat → DV) : List DV := [I (16), I (0), I (16), .row 1 [[I (15)]], I (1), I (16), I (0), I (0), I (0), .str ⟨#[255, 255]⟩, I (0), I (0)]
def Y_33 (y : Nat → DV) : List (List DV) := Y_30 y ++ [R_143 y]
def V_144 (y : Nat → DV) : DV := .row 12 (Y_33 y)
def R_145 (y : Nat → DV) : List DV := [I (16), I (0), I (0), I (0), .str ⟨#[255, 255]⟩]
def Y_34 (y : Nat → DV) : List (List DV) := Y_31 y ++ [R_145 y]
def V_146 (y : Nat → DV) : DV := .row 5 (Y_34 y)
def R_147 (y : Nat → DV) : List DV := [I (16), I (0), I (16), .row 1 [[I (15)]], I (1), I (16), I (0), I (0), I (0), .str ⟨#[255, 255]⟩, I (0), I (0), .bool false, I (0), I (0), .str ⟨#[]⟩, .bool false]
def Y_35 (y : Nat → DV) : List (List DV) := Y_32 y ++ [R_147 y]
def V_148 (y : Nat → DV) : DV := .row 17 (Y_35 y)
def V_149 (y : Nat → DV) : DV := .agg [I (0), I (16), .row 1 [[I (16)]], V_144 y, .nils, V_146 y, V_148 y, .nils, I (0), I (0), I (0)]
def V_150 (y : Nat → DV) : DV := .agg [I (0), I (16), I (0), .nils, I (0), I (0), .cell, .cell, .nils]
def L_21 (y : Nat → DV) : List DV := setL (L_6 y) [(6, I (16)), (7, .ptr false 33 33 0 0), (8, .ptr false 34 34 0 0), (22, I (15)), (24, I (15)), (25, I (16)), (26, .tup [V_149 y, V_150 y, I (0)]), (27, V_139 y), (29, .tup [V_149 y, V_150 y, I (0)]), (30, V_149 y), (31, V_150 y), (37, .ptr false 34 34 0 0), (57, .ptr false 34 34 0 0), (61, I (15)), (65, V_149 y), (66, .ptr false 34 34 0 0), (69, .ptr false 34 34 0 1), (70, .agg [I (16), I (0)])]
def R_151 (y : Nat → DV) : List DV := [I (0), I (16), .row 1 [[I (16)]], V_144 y, .nils, V_146 y, V_148 y, .nils, I (0), I (0), I (0)]
def R_152 (y : Nat → DV) : List DV := [I (0), I (16), I (0), .nils, I (0), I (0), .cell, .cell, .nils]
def X_13 (y : Nat → DV) : List Blk := X_12 y ++ [⟨33, 11, [R_151 y]⟩, ⟨34, 9, [R_152 y]⟩]
def H_19 (y : Nat → DV) : Hp := ⟨([⟨0, 12, [R_1 y]⟩, ⟨1, 11, [R_151 y]⟩, ⟨2, 2, [[I (16), I (0)]]⟩] ++ X_13 y), [], 35⟩
theorem t_20 (y : Nat → DV) : ex tbX C_16 (L_20 y) (H_18 y) = some (.normal, L_21 y, H_19 y) := st_fast 100000 (by kernel_rfl)
def R_153 (y : Nat → DV) : List DV := [I (17), I (0), I (17), .row 1 [[I (16)]], I (1), I (17), I (0), I (0), I (0), .str ⟨#[255, 255, 128]⟩, I (0), I (0)]
def Y_36 (y : Nat → DV) : List (List DV) := Y_33 y ++ [R_153 y]
def V_154 (y : Nat → DV) : DV := .row 12 (Y_36 y)
def R_155 (y : Nat → DV) : List DV := [I (17), I (0), I (0), I (0), .str ⟨#[255, 255, 128]⟩]
def Y_37 (y : Nat → DV) : List (List DV) := Y_34 y ++ [R_155 y]
def V_156 (y : Nat → DV) : DV := .row 5 (Y_37 y)
def R_157 (y : Nat → DV) : List DV := [I (17), I (0), I (17), .row 1 [[I (16)]], I (1), I (17), I (0), I (0), I (0), .str ⟨#[255, 255, 128]⟩, I (0), I (0), .bool false, I (0), I (0), .str ⟨#[]⟩, .bool false]
def Y_38 (y : Nat → DV) : List (List DV) := Y_35 y ++ [R_157 y]
def V_158 (y : Nat → DV) : DV := .row 17 (Y_38 y)
def V_159 (y : Nat → DV) : DV := .agg [I (0), I (17), .row 1 [[I (17)]], V_154 y, .nils, V_156 y, V_158 y, .nils, I (0), I (0), I (0)]
def V_160 (y : Nat → DV) : DV := .agg [I (0), I (17), I (0), .nils, I (0), I (0), .cell, .cell, .nils]
def L_22 (y : Nat → DV) : List DV := setL (L_6 y) [(6, I (17)), (7, .ptr false 35 35 0 0), (8, .ptr false 36 36 0 0), (22, I (16)), (24, I (16)), (25, I (17)), (26, .tup [V_159 y, V_160 y, I (0)]), (27, V_149 y), (29, .tup [V_159 y, V_160 y, I (0)]), (30, V_159 y), (31, V_160 y), (37, .ptr false 36 36 0 0), (57, .ptr false 36 36 0 0), (61, I (16)), (65, V_159 y), (66, .ptr false 36 36 0 0), (69, .ptr false 36 36 0 1), (70, .agg [I (17), I (0)])]
def R_161 (y : Nat → DV) : List DV := [I (0), I (17), .row 1 [[I (17)]], V_154 y, .nils, V_156 y, V_158 y, .nils, I (0), I (0), I (0)]
def R_162 (y : Nat → DV) : List DV := [I (0), I (17), I (0), .nils, I (0), I (0), .cell, .cell, .nils]
def X_14 (y : Nat → DV) : List Blk := X_13 y ++ [⟨35, 11, [R_161 y]⟩, ⟨36, 9, [R_162 y]⟩]
def H_20 (y : Nat → DV) : Hp := ⟨([⟨0, 12, [R_1 y]⟩, ⟨1, 11, [R_161 y]⟩, ⟨2, 2, [[I (17), I (0)]]⟩] ++ X_14 y), [], 37⟩
theorem t_21 (y : Nat → DV) : ex tbX C_16 (L_21 y) (H_19 y) = some (.normal, L_22 y, H_20 y) := st_fast 100000 (by kernel_rfl)
def R_163 (y : Nat → DV) : List DV := [I (18), I (0), I (18), .row 1 [[I (17)]], I (1), I (18), I (0), I (0), I (0), .str ⟨#[255, 255, 192]⟩, I (0), I (0)]
def Y_39 (y : Nat → DV) : List (List DV) := Y_36 y ++ [R_163 y]
def V_164 (y : Nat → DV) : DV := .row 12 (Y_39 y)
def R_165 (y : Nat → DV) : List DV := [I (18), I (0), I (0), I (0), .str ⟨#[255, 255, 192]⟩]
def Y_40 (y : Nat → DV) : List (List DV) := Y_37 y ++ [R_165 y]
def V_166 (y : Nat → DV) : DV := .row 5 (Y_40 y)
def R_167 (y : Nat → DV) : List DV := [I (18), I (0), I (18), .row 1 [[I (17)]], I (1), I (18), I (0), I (0), I (0), .str ⟨#[255, 255, 192]⟩, I (0), I (0), .bool false, I (0), I (0), .str ⟨#[]⟩, .bool false]
def Y_41 (y : Nat → DV) : List (List DV) := Y_38 y ++ [R_167 y]
def V_168 (y : Nat → DV) : DV := .row 17 (Y_41 y)
def V_169 (y : Nat → DV) : DV := .agg [I (0), I (18), .row 1 [[I (18)]], V_164 y, .nils, V_166 y, V_168 y, .nils, I (0), I (0), I (0)]
def V_170 (y : Nat → DV) : DV := .agg [I (0), I (18), I (0), .nils, I (0), I (0), .cell, .cell, .nils]
def L_23 (y : Nat → DV) : List DV := setL (L_6 y) [(6, I (18)), (7, .ptr false 37 37 0 0), (8, .ptr false 38 38 0 0), (22, I (17)), (24, I (17)), (25, I (18)), (26, .tup [V_169 y, V_170 y, I (0)]), (27, V_159 y), (29, .tup [V_169 y, V_170 y, I (0)]), (30, V_169 y), (31, V_170 y), (37, .ptr false 38 38 0 0), (57, .ptr false 38 38 0 0), (61, I (17)), (65, V_169 y), (66, .ptr false 38 38 0 0), (69, .ptr false 38 38 0 1), (70, .agg [I (18), I (0)])]
def R_171 (y : Nat → DV) : List DV := [I (0), I (18), .row 1 [[I (18)]], V_164 y, .nils, V_166 y, V_168 y, .nils, I (0), I (0), I (0)]
def R_172 (y : Nat → DV) : List DV := [I (0), I (18), I (0), .nils, I (0), I (0), .cell, .cell, .nils]
def X_15 (y : Nat → DV) : List Blk := X_14 y ++ [⟨37, 11, [R_171 y]⟩, ⟨38, 9, [R_172 y]⟩]
def H_21 (y : Nat → DV) : Hp := ⟨([⟨0, 12, [R_1 y]⟩, ⟨1, 11, [R_171 y]⟩, ⟨2, 2, [[I (18), I (0)]]⟩] ++ X_15 y), [], 39⟩
theorem t_22 (y : Nat → DV) : ex tbX C_16 (L_22 y) (H_20 y) = some (.normal, L_23 y, H_21 y) := st_fast 100000 (by kernel_rfl)
end Go.Dv
