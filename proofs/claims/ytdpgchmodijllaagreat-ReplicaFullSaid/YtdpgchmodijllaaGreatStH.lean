/- The law ReplicaFull, run part by part (8). -/
import Derived.Test.YtdpgchmodijllaaGreatStG
set_option linter.unusedVariables false
set_option linter.unusedSimpArgs false
set_option maxRecDepth 100000
namespace Go.Dv
def L_55 (y : Nat → DV) : List DV := setL (L_54 y) [(6, I (50)), (7, .ptr false 101 101 0 0), (8, .ptr false 102 102 0 0), (22, I (49)), (24, I (49)), (25, I (50)), (37, .ptr false 102 102 0 0), (41, .ptr false 102 102 0 0), (45, I (49)), (57, .ptr false 102 102 0 0), (66, .ptr false 102 102 0 0)]
def X_47 (y : Nat → DV) : List Blk := X_46 y ++ [⟨101, 11, [R_471 y]⟩, ⟨102, 9, [R_474 y]⟩]
def H_53 (y : Nat → DV) : Hp := ⟨([⟨0, 12, [R_1 y]⟩, ⟨1, 11, [R_471 y]⟩, ⟨2, 2, [[I (48), I (0)]]⟩] ++ X_47 y), [], 103⟩
theorem t_54 (y : Nat → DV) : ex tbX C_16 (L_54 y) (H_52 y) = some (.normal, L_55 y, H_53 y) := st_fast 100000 (by kernel_rfl)
end Go.Dv
