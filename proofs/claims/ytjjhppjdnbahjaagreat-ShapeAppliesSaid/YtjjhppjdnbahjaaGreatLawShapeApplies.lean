/- The law ShapeApplies: for every input it answers true. No condition. The row, out of the pure law and of what its code comes to. -/
import Derived.Test.YtjjhppjdnbahjaaGreatPrim
import Derived.Test.YtjjhppjdnbahjaaGreatLsB
import Derived.Test.YtjjhppjdnbahjaaGreatRows
import Derived.WalkKit
import Derived.ProofKit
import Derived.OpenShut
import Derived.ShutString
import Derived.ChangeOld
import Derived.Below
import Derived.SizedLaws
namespace Go.Proofs.YtjjhppjdnbahjaaGreat.shapeApplies
open Go Go.ChangeShapes Go.WideShapes Go.ChangeAt Go.RowKit Go.Dv
set_option linter.unusedVariables false
theorem own : ownKnob Tryz.prog.godebug = none := by kernel_rfl
theorem laidOut : laidOutB Tryz.prog = true := by kernel_rfl
theorem op_3 (N : Nat) : Opens N Tryz.prog 3 (.int .i64) := opens_int Tryz.underlying3 (by kernel_rfl)
theorem op_37 (N : Nat) : Opens N Tryz.prog 37 (.pair (.int .i64) (.int .i64)) := u1d Tryz.underlying37 (by kernel_rfl) (u0a rfl (op_3 N) (u22 rfl (op_3 N)))
theorem op_9 (N : Nat) : Opens N Tryz.prog 9 (.str) := opens_string Tryz.underlying9 (by kernel_rfl)
theorem op_92 (N : Nat) : Opens N Tryz.prog 92 (.pair (.pair (.int .i64) (.int .i64)) (.pair (.pair (.int .i64) (.int .i64)) (.str))) := u1d Tryz.underlying92 (by kernel_rfl) (u0a rfl (op_37 N) (u0a rfl (op_37 N) (u22 rfl (op_9 N))))
theorem op_22 (N : Nat) : Opens N Tryz.prog 22 (.list (.pair (.pair (.int .i64) (.int .i64)) (.pair (.pair (.int .i64) (.int .i64)) (.str)))) := u2h (Tryz.prog.bytesOf 92) (op_92 N) Tryz.underlying22 (by kernel_rfl) rfl (of_decide_eq_true (by kernel_rfl)) (by decide)
theorem op_38 (N : Nat) : Opens N Tryz.prog 38 (.list (.int .i64)) := u2h (Tryz.prog.bytesOf 3) (op_3 N) Tryz.underlying38 (by kernel_rfl) rfl (of_decide_eq_true (by kernel_rfl)) (by decide)
theorem op_40 (N : Nat) : Opens N Tryz.prog 40 (.pair (.pair (.int .i64) (.int .i64)) (.pair (.int .i64) (.pair (.list (.int .i64)) (.pair (.int .i64) (.pair (.pair (.int .i64) (.int .i64)) (.pair (.pair (.int .i64) (.int .i64)) (.pair (.str) (.pair (.int .i64) (.int .i64))))))))) := u1d Tryz.underlying40 (by kernel_rfl) (u0a rfl (op_37 N) (u0a rfl (op_3 N) (u0a rfl (op_38 N) (u0a rfl (op_3 N) (u0a rfl (op_37 N) (u0a rfl (op_37 N) (u0a rfl (op_9 N) (u0a rfl (op_3 N) (u22 rfl (op_3 N))))))))))
theorem op_4 (N : Nat) : Opens N Tryz.prog 4 (.bool) := opens_bool Tryz.underlying4 (by kernel_rfl)
theorem op_95 (N : Nat) : Opens N Tryz.prog 95 (.pair (.pair (.pair (.int .i64) (.int .i64)) (.pair (.int .i64) (.pair (.list (.int .i64)) (.pair (.int .i64) (.pair (.pair (.int .i64) (.int .i64)) (.pair (.pair (.int .i64) (.int .i64)) (.pair (.str) (.pair (.int .i64) (.int .i64))))))))) (.pair (.bool) (.pair (.pair (.int .i64) (.int .i64)) (.pair (.str) (.bool))))) := u1d Tryz.underlying95 (by kernel_rfl) (u0a rfl (op_40 N) (u0a rfl (op_4 N) (u0a rfl (op_37 N) (u0a rfl (op_9 N) (u22 rfl (op_4 N))))))
theorem op_23 (N : Nat) : Opens N Tryz.prog 23 (.list (.pair (.pair (.pair (.int .i64) (.int .i64)) (.pair (.int .i64) (.pair (.list (.int .i64)) (.pair (.int .i64) (.pair (.pair (.int .i64) (.int .i64)) (.pair (.pair (.int .i64) (.int .i64)) (.pair (.str) (.pair (.int .i64) (.int .i64))))))))) (.pair (.bool) (.pair (.pair (.int .i64) (.int .i64)) (.pair (.str) (.bool)))))) := u2h (Tryz.prog.bytesOf 95) (op_95 N) Tryz.underlying23 (by kernel_rfl) rfl (of_decide_eq_true (by kernel_rfl)) (by decide)
theorem op_25 (N : Nat) : Opens N Tryz.prog 25 (.pair (.list (.pair (.pair (.int .i64) (.int .i64)) (.pair (.pair (.int .i64) (.int .i64)) (.str)))) (.list (.pair (.pair (.pair (.int .i64) (.int .i64)) (.pair (.int .i64) (.pair (.list (.int .i64)) (.pair (.int .i64) (.pair (.pair (.int .i64) (.int .i64)) (.pair (.pair (.int .i64) (.int .i64)) (.pair (.str) (.pair (.int .i64) (.int .i64))))))))) (.pair (.bool) (.pair (.pair (.int .i64) (.int .i64)) (.pair (.str) (.bool))))))) := u1d Tryz.underlying25 (by kernel_rfl) (u0a rfl (op_22 N) (u22 rfl (op_23 N)))
theorem op_135 (N : Nat) : Opens N Tryz.prog 135 (.pair (.int .i64) (.pair (.int .i64) (.pair (.int .i64) (.int .i64)))) := u1d Tryz.underlying135 (by kernel_rfl) (u0a rfl (op_3 N) (u0a rfl (op_3 N) (u22 rfl (op_37 N))))
theorem op_102 (N : Nat) : Opens N Tryz.prog 102 (.list (.pair (.int .i64) (.pair (.int .i64) (.pair (.int .i64) (.int .i64))))) := u2h (Tryz.prog.bytesOf 135) (op_135 N) Tryz.underlying102 (by kernel_rfl) rfl (of_decide_eq_true (by kernel_rfl)) (by decide)
theorem op_104 (N : Nat) : Opens N Tryz.prog 104 (.pair (.pair (.int .i64) (.int .i64)) (.list (.pair (.int .i64) (.pair (.int .i64) (.pair (.int .i64) (.int .i64)))))) := u1d Tryz.underlying104 (by kernel_rfl) (u0a rfl (op_37 N) (u22 rfl (op_102 N)))
theorem op_51 (N : Nat) : Opens N Tryz.prog 51 (.list (.pair (.pair (.int .i64) (.int .i64)) (.list (.pair (.int .i64) (.pair (.int .i64) (.pair (.int .i64) (.int .i64))))))) := u2h (Tryz.prog.bytesOf 104) (op_104 N) Tryz.underlying51 (by kernel_rfl) rfl (of_decide_eq_true (by kernel_rfl)) (by decide)
theorem op_53 (N : Nat) : Opens N Tryz.prog 53 (.pair (.pair (.list (.pair (.pair (.int .i64) (.int .i64)) (.pair (.pair (.int .i64) (.int .i64)) (.str)))) (.list (.pair (.pair (.pair (.int .i64) (.int .i64)) (.pair (.int .i64) (.pair (.list (.int .i64)) (.pair (.int .i64) (.pair (.pair (.int .i64) (.int .i64)) (.pair (.pair (.int .i64) (.int .i64)) (.pair (.str) (.pair (.int .i64) (.int .i64))))))))) (.pair (.bool) (.pair (.pair (.int .i64) (.int .i64)) (.pair (.str) (.bool))))))) (.list (.pair (.pair (.int .i64) (.int .i64)) (.list (.pair (.int .i64) (.pair (.int .i64) (.pair (.int .i64) (.int .i64)))))))) := u1d Tryz.underlying53 (by kernel_rfl) (u0a rfl (op_25 N) (u22 rfl (op_51 N)))
theorem op_26 (N : Nat) : Opens N Tryz.prog 26 (.list (.pair (.pair (.int .i64) (.int .i64)) (.pair (.int .i64) (.pair (.list (.int .i64)) (.pair (.int .i64) (.pair (.pair (.int .i64) (.int .i64)) (.pair (.pair (.int .i64) (.int .i64)) (.pair (.str) (.pair (.int .i64) (.int .i64)))))))))) := u2h (Tryz.prog.bytesOf 40) (op_40 N) Tryz.underlying26 (by kernel_rfl) rfl (of_decide_eq_true (by kernel_rfl)) (by decide)
theorem op_27 (N : Nat) : Opens N Tryz.prog 27 (.list (.pair (.int .i64) (.int .i64))) := u2h (Tryz.prog.bytesOf 37) (op_37 N) Tryz.underlying27 (by kernel_rfl) rfl (of_decide_eq_true (by kernel_rfl)) (by decide)
theorem op_55 (N : Nat) : Opens N Tryz.prog 55 (.pair (.pair (.pair (.list (.pair (.pair (.int .i64) (.int .i64)) (.pair (.pair (.int .i64) (.int .i64)) (.str)))) (.list (.pair (.pair (.pair (.int .i64) (.int .i64)) (.pair (.int .i64) (.pair (.list (.int .i64)) (.pair (.int .i64) (.pair (.pair (.int .i64) (.int .i64)) (.pair (.pair (.int .i64) (.int .i64)) (.pair (.str) (.pair (.int .i64) (.int .i64))))))))) (.pair (.bool) (.pair (.pair (.int .i64) (.int .i64)) (.pair (.str) (.bool))))))) (.list (.pair (.pair (.int .i64) (.int .i64)) (.list (.pair (.int .i64) (.pair (.int .i64) (.pair (.int .i64) (.int .i64)))))))) (.pair (.list (.pair (.pair (.int .i64) (.int .i64)) (.pair (.int .i64) (.pair (.list (.int .i64)) (.pair (.int .i64) (.pair (.pair (.int .i64) (.int .i64)) (.pair (.pair (.int .i64) (.int .i64)) (.pair (.str) (.pair (.int .i64) (.int .i64)))))))))) (.list (.pair (.int .i64) (.int .i64))))) := u1d Tryz.underlying55 (by kernel_rfl) (u0a rfl (op_53 N) (u0a rfl (op_26 N) (u22 rfl (op_27 N))))
set_option maxRecDepth 100000 in
theorem lifted (os : Os) (started : os.Started) (H : Type) (enc : TypeId × Value → H) :
    ReturnsInHanded {} Tryz.checked os 5 .any (Rows.shapeAppliesSpec.pre6 enc Tryz.prog Tryz.f5 Rows.shapeAppliesRow.domain false) (Rows.shapeAppliesSpec.post enc Tryz.prog Tryz.f5 false true false false) := by
  refine returnsInHanded_of_change_sized (C := Tryz.checked) own started (by kernel_rfl) Tryz.func5
    (ChangeSpec.witness6 (enc := enc) (C := Tryz.checked) false ⟨#[], #[.agg #[.slice none 0 0, .slice none 0 0, .slice none 0 0, .slice none 0 0, .slice none 0 0]], []⟩ 8 (by kernel_rfl) (by kernel_rfl) (by kernel_rfl) (by kernel_rfl)) ?_
  intro W base args ds gs before hval0 hW hcnd hsz0 _
  have hsz : (DataW.weightsEach Tryz.prog (Tryz.f5.params.toList ++ Rows.shapeAppliesSpec.plain.varTypes Tryz.prog) (ds ++ gs)).all (· ≤ reachBytes) = true := hsz0
  have hval : ∀ (j : Nat) t v, Tryz.f5.params[j]? = some t → args[j]? = some v → Value.okWide Tryz.prog W .any base t v := hval0
  have hW' := hW
  obtain ⟨p, q, hA0, hV, rfl, hfz, hnd⟩ := hW
  have hA : DataW.TrodAll enc Tryz.prog W 0 (fun _ => true) true Tryz.f5.params.toList args.toList ds p := hA0
  rw [Tryz.params5] at hA hval hsz
  obtain ⟨v0, vs0, d0, ds0, p0, q0, hargs, rfl, rfl, h0, r0⟩ := trodAll_cons hA
  obtain ⟨rfl, rfl, rfl⟩ := trodAll_nil r0
  obtain rfl : args = #[v0] := by cases args; simp_all
  obtain ⟨rfl, rfl⟩ := trodVars_none hV
  obtain ⟨arr, rfl, harr⟩ := okWide_struct Tryz.underlying55 (hval 0 55 v0 rfl rfl)
  have k0 := h0
  have lt0 : ∀ x ∈ p0, x.block < W.heap.size := by obtain ⟨m, hm⟩ := k0; exact DataW.trod_lt m _ _ _ hm
  obtain ⟨y, dd, hRE, hVS, hone, hB⟩ : ∃ (y : El (.pair (.pair (.pair (.list (.pair (.pair (.int .i64) (.int .i64)) (.pair (.pair (.int .i64) (.int .i64)) (.str)))) (.list (.pair (.pair (.pair (.int .i64) (.int .i64)) (.pair (.int .i64) (.pair (.list (.int .i64)) (.pair (.int .i64) (.pair (.pair (.int .i64) (.int .i64)) (.pair (.pair (.int .i64) (.int .i64)) (.pair (.str) (.pair (.int .i64) (.int .i64))))))))) (.pair (.bool) (.pair (.pair (.int .i64) (.int .i64)) (.pair (.str) (.bool))))))) (.list (.pair (.pair (.int .i64) (.int .i64)) (.list (.pair (.int .i64) (.pair (.int .i64) (.pair (.int .i64) (.int .i64)))))))) (.pair (.list (.pair (.pair (.int .i64) (.int .i64)) (.pair (.int .i64) (.pair (.list (.int .i64)) (.pair (.int .i64) (.pair (.pair (.int .i64) (.int .i64)) (.pair (.pair (.int .i64) (.int .i64)) (.pair (.str) (.pair (.int .i64) (.int .i64)))))))))) (.list (.pair (.int .i64) (.int .i64)))))) (dd : List DV), RE (.pair (.pair (.pair (.list (.pair (.pair (.int .i64) (.int .i64)) (.pair (.pair (.int .i64) (.int .i64)) (.str)))) (.list (.pair (.pair (.pair (.int .i64) (.int .i64)) (.pair (.int .i64) (.pair (.list (.int .i64)) (.pair (.int .i64) (.pair (.pair (.int .i64) (.int .i64)) (.pair (.pair (.int .i64) (.int .i64)) (.pair (.str) (.pair (.int .i64) (.int .i64))))))))) (.pair (.bool) (.pair (.pair (.int .i64) (.int .i64)) (.pair (.str) (.bool))))))) (.list (.pair (.pair (.int .i64) (.int .i64)) (.list (.pair (.int .i64) (.pair (.int .i64) (.pair (.int .i64) (.int .i64)))))))) (.pair (.list (.pair (.pair (.int .i64) (.int .i64)) (.pair (.int .i64) (.pair (.list (.int .i64)) (.pair (.int .i64) (.pair (.pair (.int .i64) (.int .i64)) (.pair (.pair (.int .i64) (.int .i64)) (.pair (.str) (.pair (.int .i64) (.int .i64)))))))))) (.list (.pair (.int .i64) (.int .i64))))) y dd ∧ VS (Cx.all W) false dd arr.toList ∧ (∀ v ∈ arr.toList, v.oneCell' = true) ∧ Bnd (.pair (.pair (.pair (.list (.pair (.pair (.int .i64) (.int .i64)) (.pair (.pair (.int .i64) (.int .i64)) (.str)))) (.list (.pair (.pair (.pair (.int .i64) (.int .i64)) (.pair (.int .i64) (.pair (.list (.int .i64)) (.pair (.int .i64) (.pair (.pair (.int .i64) (.int .i64)) (.pair (.pair (.int .i64) (.int .i64)) (.pair (.str) (.pair (.int .i64) (.int .i64))))))))) (.pair (.bool) (.pair (.pair (.int .i64) (.int .i64)) (.pair (.str) (.bool))))))) (.list (.pair (.pair (.int .i64) (.int .i64)) (.list (.pair (.int .i64) (.pair (.int .i64) (.pair (.int .i64) (.int .i64)))))))) (.pair (.list (.pair (.pair (.int .i64) (.int .i64)) (.pair (.int .i64) (.pair (.list (.int .i64)) (.pair (.int .i64) (.pair (.pair (.int .i64) (.int .i64)) (.pair (.pair (.int .i64) (.int .i64)) (.pair (.str) (.pair (.int .i64) (.int .i64)))))))))) (.list (.pair (.int .i64) (.int .i64))))) y := by
    obtain ⟨fuel, hf⟩ := h0
    have hf2 : DataW.trod enc Tryz.prog W 0 (fun _ => true) true fuel 55 arr.toList = some (d0, p0) := hf
    exact (op_55 fuel).2 H enc W true fuel _ _ (Nat.le_refl _) hf2 (weights_at (ds := [d0] ++ []) (j := 0) (t := 55) (d := d0) rfl rfl hsz)
  clear hA0 hval0 hsz0 hsz
  refine (law_ok (s := .pair (.pair (.pair (.list (.pair (.pair (.int .i64) (.int .i64)) (.pair (.pair (.int .i64) (.int .i64)) (.str)))) (.list (.pair (.pair (.pair (.int .i64) (.int .i64)) (.pair (.int .i64) (.pair (.list (.int .i64)) (.pair (.int .i64) (.pair (.pair (.int .i64) (.int .i64)) (.pair (.pair (.int .i64) (.int .i64)) (.pair (.str) (.pair (.int .i64) (.int .i64))))))))) (.pair (.bool) (.pair (.pair (.int .i64) (.int .i64)) (.pair (.str) (.bool))))))) (.list (.pair (.pair (.int .i64) (.int .i64)) (.list (.pair (.int .i64) (.pair (.int .i64) (.pair (.int .i64) (.int .i64)))))))) (.pair (.list (.pair (.pair (.int .i64) (.int .i64)) (.pair (.int .i64) (.pair (.list (.int .i64)) (.pair (.int .i64) (.pair (.pair (.int .i64) (.int .i64)) (.pair (.pair (.int .i64) (.int .i64)) (.pair (.str) (.pair (.int .i64) (.int .i64)))))))))) (.list (.pair (.int .i64) (.int .i64))))) tbS_ok k_5 hRE (u := .agg arr) hVS (fun _ => ⟨arr, rfl⟩) (Go.Tr.pure_ShapeApplies y hB) rfl).mono fun e W' ⟨he, bel⟩ => ?_
  subst he
  exact ⟨_, rfl, _, _, _, [], _, [], hW', trodAll_mk1 (shut_bool Tryz.underlying4 _), (trodAll_cons_mk (Below.trod laidOut (by kernel_rfl) (of_decide_eq_true (by kernel_rfl)) k0 bel lt0) trodAll_mk0), rfl, bel.frame _, fun h => by cases h⟩
theorem over : Rows.shapeAppliesRow.holds Tryz.pinned (OpenSpec.ofChange Rows.shapeAppliesSpec) :=
  OpenClaim.holds_of_wide 5 Tryz.f5 rfl rfl rfl rfl rfl rfl rfl ⟨rfl, rfl, rfl, rfl, rfl⟩ rfl rfl rfl rfl rfl (by kernel_rfl) Tryz.func5 (by kernel_rfl)
    (of_decide_eq_true (by kernel_rfl)) (by unfold Func.isWrapper; first | (rw [if_pos (by decide +kernel)]; kernel_rfl) | (rw [if_neg (by decide +kernel)]; exact ⟨rfl, rfl⟩))
    (fun os started H enc _ => lifted os started H enc)
theorem proved : Rows.ShapeAppliesSaid := over
#print axioms proved
end Go.Proofs.YtjjhppjdnbahjaaGreat.shapeApplies
namespace Go.Proofs.YtjjhppjdnbahjaaGreat
theorem shapeApplies_holds : Rows.ShapeAppliesSaid := shapeApplies.proved
end Go.Proofs.YtjjhppjdnbahjaaGreat
