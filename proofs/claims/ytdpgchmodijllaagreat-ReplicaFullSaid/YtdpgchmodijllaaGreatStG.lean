/- The law ReplicaFull, run part by part (7). -/
import Derived.Test.YtdpgchmodijllaaGreatStF
set_option linter.unusedVariables false
set_option linter.unusedSimpArgs false
set_option maxRecDepth 100000
namespace Go.Dv
def V_473 (y : Nat → DV) : DV := .agg [I (5), I (0), I (0), .nils, I (0), I (0), .cell, .cell, .nils]
def L_54 (y : Nat → DV) : List DV := [V_0 y, .ptr false 0 0 0 0, .bool false, .ptr false 1 1 0 0, I (0), .ptr false 2 2 0 0, I (49), .ptr false 99 99 0 0, .ptr false 100 100 0 0, I (0), U, U, U, U, U, .tup [V_2 y, I (0)], .tup [V_2 y, I (0)], V_2 y, I (0), I (0), I (0), .bool false, I (48), .bool true, I (48), I (49), .tup [V_469 y, V_473 y, I (0)], V_469 y, V_9 y, .tup [V_469 y, V_473 y, I (0)], V_469 y, V_473 y, I (0), I (0), I (0), .bool false, .bool false, .ptr false 100 100 0 0, I (5), .bool true, .bool true, .ptr false 100 100 0 0, I (5), .bool false, .bool false, I (48), .bool false, .bool false, .bool false, V_469 y, V_469 y, .bool true, .bool false, .bool false, .bool false, .bool false, .bool false, .ptr false 100 100 0 0, I (5), .bool false, .bool false, .tup [], .tup [], .bool false, .bool false, V_469 y, .ptr false 100 100 0 0, I (5), .bool false, .ptr false 98 98 0 1, .agg [I (48), I (0)], U, U, U, U, U, U, U, U, U, U, U, U, U, U, U, U, U, U, U, U, U, U, U, U, U, U, U, U, U, U, U, U, U, U, U, U, U, U, U, U, U, U]
def R_474 (y : Nat → DV) : List DV := [I (5), I (0), I (0), .nils, I (0), I (0), .cell, .cell, .nils]
def X_46 (y : Nat → DV) : List Blk := X_45 y ++ [⟨99, 11, [R_471 y]⟩, ⟨100, 9, [R_474 y]⟩]
def H_52 (y : Nat → DV) : Hp := ⟨([⟨0, 12, [R_1 y]⟩, ⟨1, 11, [R_471 y]⟩, ⟨2, 2, [[I (48), I (0)]]⟩] ++ X_46 y), [], 101⟩
theorem t_53 (y : Nat → DV) : ex tbX C_16 (L_53 y) (H_51 y) = some (.normal, L_54 y, H_52 y) := st_fast 100000 (by kernel_rfl)
end Go.Dv
