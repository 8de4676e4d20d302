/- The law ShapeStays: for every input it answers true. No condition. The row, out of the pure law and of what its code comes to. -/
import Derived.Test.YtlfkabehppdohaaGreatPrim
import Derived.Test.YtlfkabehppdohaaGreatLsSt
import Derived.Test.YtlfkabehppdohaaGreatRows
import Derived.WalkKit
import Derived.ProofKit
import Derived.OpenShut
import Derived.ShutString
import Derived.ChangeOld
import Derived.Below
import Derived.SizedLaws
namespace Go.Proofs.YtlfkabehppdohaaGreat.shapeStays
open Go Go.ChangeShapes Go.WideShapes Go.ChangeAt Go.RowKit Go.Dv
set_option linter.unusedVariables false
theorem own : ownKnob Tryz.prog.godebug = none := by kernel_rfl
theorem laidOut : laidOutB Tryz.prog = true := by kernel_rfl
theorem op_3 : Opens Tryz.prog 3 (.int .i64) := opens_int Tryz.underlying3 (by kernel_rfl)
theorem op_36 : Opens Tryz.prog 36 (.pair (.int .i64) (.int .i64)) := opens_struct Tryz.underlying36 (by kernel_rfl) (fields_cons rfl op_3 (fields_one rfl op_3))
theorem op_9 : Opens Tryz.prog 9 (.str) := opens_string Tryz.underlying9 (by kernel_rfl)
theorem op_50 : Opens Tryz.prog 50 (.pair (.pair (.int .i64) (.int .i64)) (.pair (.pair (.int .i64) (.int .i64)) (.str))) := opens_struct Tryz.underlying50 (by kernel_rfl) (fields_cons rfl op_36 (fields_cons rfl op_36 (fields_one rfl op_9)))
theorem op_22 : Opens Tryz.prog 22 (.list (.pair (.pair (.int .i64) (.int .i64)) (.pair (.pair (.int .i64) (.int .i64)) (.str)))) := opens_slice (Tryz.prog.bytesOf 50) op_50 Tryz.underlying22 (by kernel_rfl) rfl (of_decide_eq_true (by kernel_rfl)) (by decide)
theorem op_37 : Opens Tryz.prog 37 (.list (.int .i64)) := opens_slice (Tryz.prog.bytesOf 3) op_3 Tryz.underlying37 (by kernel_rfl) rfl (of_decide_eq_true (by kernel_rfl)) (by decide)
theorem op_88 : Opens Tryz.prog 88 (.pair (.pair (.int .i64) (.int .i64)) (.pair (.int .i64) (.pair (.list (.int .i64)) (.pair (.int .i64) (.pair (.pair (.int .i64) (.int .i64)) (.pair (.pair (.int .i64) (.int .i64)) (.pair (.str) (.pair (.int .i64) (.int .i64))))))))) := opens_struct Tryz.underlying88 (by kernel_rfl) (fields_cons rfl op_36 (fields_cons rfl op_3 (fields_cons rfl op_37 (fields_cons rfl op_3 (fields_cons rfl op_36 (fields_cons rfl op_36 (fields_cons rfl op_9 (fields_cons rfl op_3 (fields_one rfl op_3)))))))))
theorem op_4 : Opens Tryz.prog 4 (.bool) := opens_bool Tryz.underlying4 (by kernel_rfl)
theorem op_168 : Opens Tryz.prog 168 (.pair (.pair (.pair (.int .i64) (.int .i64)) (.pair (.int .i64) (.pair (.list (.int .i64)) (.pair (.int .i64) (.pair (.pair (.int .i64) (.int .i64)) (.pair (.pair (.int .i64) (.int .i64)) (.pair (.str) (.pair (.int .i64) (.int .i64))))))))) (.pair (.bool) (.pair (.pair (.int .i64) (.int .i64)) (.pair (.str) (.bool))))) := opens_struct Tryz.underlying168 (by kernel_rfl) (fields_cons rfl op_88 (fields_cons rfl op_4 (fields_cons rfl op_36 (fields_cons rfl op_9 (fields_one rfl op_4)))))
theorem op_23 : Opens Tryz.prog 23 (.list (.pair (.pair (.pair (.int .i64) (.int .i64)) (.pair (.int .i64) (.pair (.list (.int .i64)) (.pair (.int .i64) (.pair (.pair (.int .i64) (.int .i64)) (.pair (.pair (.int .i64) (.int .i64)) (.pair (.str) (.pair (.int .i64) (.int .i64))))))))) (.pair (.bool) (.pair (.pair (.int .i64) (.int .i64)) (.pair (.str) (.bool)))))) := opens_slice (Tryz.prog.bytesOf 168) op_168 Tryz.underlying23 (by kernel_rfl) rfl (of_decide_eq_true (by kernel_rfl)) (by decide)
theorem op_25 : Opens Tryz.prog 25 (.pair (.list (.pair (.pair (.int .i64) (.int .i64)) (.pair (.pair (.int .i64) (.int .i64)) (.str)))) (.list (.pair (.pair (.pair (.int .i64) (.int .i64)) (.pair (.int .i64) (.pair (.list (.int .i64)) (.pair (.int .i64) (.pair (.pair (.int .i64) (.int .i64)) (.pair (.pair (.int .i64) (.int .i64)) (.pair (.str) (.pair (.int .i64) (.int .i64))))))))) (.pair (.bool) (.pair (.pair (.int .i64) (.int .i64)) (.pair (.str) (.bool))))))) := opens_struct Tryz.underlying25 (by kernel_rfl) (fields_cons rfl op_22 (fields_one rfl op_23))
theorem op_78 : Opens Tryz.prog 78 (.pair (.int .i64) (.pair (.int .i64) (.pair (.int .i64) (.int .i64)))) := opens_struct Tryz.underlying78 (by kernel_rfl) (fields_cons rfl op_3 (fields_cons rfl op_3 (fields_one rfl op_36)))
theorem op_75 : Opens Tryz.prog 75 (.list (.pair (.int .i64) (.pair (.int .i64) (.pair (.int .i64) (.int .i64))))) := opens_slice (Tryz.prog.bytesOf 78) op_78 Tryz.underlying75 (by kernel_rfl) rfl (of_decide_eq_true (by kernel_rfl)) (by decide)
theorem op_106 : Opens Tryz.prog 106 (.pair (.pair (.int .i64) (.int .i64)) (.list (.pair (.int .i64) (.pair (.int .i64) (.pair (.int .i64) (.int .i64)))))) := opens_struct Tryz.underlying106 (by kernel_rfl) (fields_cons rfl op_36 (fields_one rfl op_75))
theorem op_26 : Opens Tryz.prog 26 (.list (.pair (.pair (.int .i64) (.int .i64)) (.list (.pair (.int .i64) (.pair (.int .i64) (.pair (.int .i64) (.int .i64))))))) := opens_slice (Tryz.prog.bytesOf 106) op_106 Tryz.underlying26 (by kernel_rfl) rfl (of_decide_eq_true (by kernel_rfl)) (by decide)
theorem op_28 : Opens Tryz.prog 28 (.pair (.pair (.list (.pair (.pair (.int .i64) (.int .i64)) (.pair (.pair (.int .i64) (.int .i64)) (.str)))) (.list (.pair (.pair (.pair (.int .i64) (.int .i64)) (.pair (.int .i64) (.pair (.list (.int .i64)) (.pair (.int .i64) (.pair (.pair (.int .i64) (.int .i64)) (.pair (.pair (.int .i64) (.int .i64)) (.pair (.str) (.pair (.int .i64) (.int .i64))))))))) (.pair (.bool) (.pair (.pair (.int .i64) (.int .i64)) (.pair (.str) (.bool))))))) (.list (.pair (.pair (.int .i64) (.int .i64)) (.list (.pair (.int .i64) (.pair (.int .i64) (.pair (.int .i64) (.int .i64)))))))) := opens_struct Tryz.underlying28 (by kernel_rfl) (fields_cons rfl op_25 (fields_one rfl op_26))
theorem op_29 : Opens Tryz.prog 29 (.list (.pair (.pair (.int .i64) (.int .i64)) (.pair (.int .i64) (.pair (.list (.int .i64)) (.pair (.int .i64) (.pair (.pair (.int .i64) (.int .i64)) (.pair (.pair (.int .i64) (.int .i64)) (.pair (.str) (.pair (.int .i64) (.int .i64)))))))))) := opens_slice (Tryz.prog.bytesOf 88) op_88 Tryz.underlying29 (by kernel_rfl) rfl (of_decide_eq_true (by kernel_rfl)) (by decide)
theorem op_30 : Opens Tryz.prog 30 (.list (.pair (.int .i64) (.int .i64))) := opens_slice (Tryz.prog.bytesOf 36) op_36 Tryz.underlying30 (by kernel_rfl) rfl (of_decide_eq_true (by kernel_rfl)) (by decide)
theorem op_32 : Opens Tryz.prog 32 (.pair (.pair (.pair (.list (.pair (.pair (.int .i64) (.int .i64)) (.pair (.pair (.int .i64) (.int .i64)) (.str)))) (.list (.pair (.pair (.pair (.int .i64) (.int .i64)) (.pair (.int .i64) (.pair (.list (.int .i64)) (.pair (.int .i64) (.pair (.pair (.int .i64) (.int .i64)) (.pair (.pair (.int .i64) (.int .i64)) (.pair (.str) (.pair (.int .i64) (.int .i64))))))))) (.pair (.bool) (.pair (.pair (.int .i64) (.int .i64)) (.pair (.str) (.bool))))))) (.list (.pair (.pair (.int .i64) (.int .i64)) (.list (.pair (.int .i64) (.pair (.int .i64) (.pair (.int .i64) (.int .i64)))))))) (.pair (.list (.pair (.pair (.int .i64) (.int .i64)) (.pair (.int .i64) (.pair (.list (.int .i64)) (.pair (.int .i64) (.pair (.pair (.int .i64) (.int .i64)) (.pair (.pair (.int .i64) (.int .i64)) (.pair (.str) (.pair (.int .i64) (.int .i64)))))))))) (.list (.pair (.int .i64) (.int .i64))))) := opens_struct Tryz.underlying32 (by kernel_rfl) (fields_cons rfl op_28 (fields_cons rfl op_29 (fields_one rfl op_30)))
set_option maxRecDepth 100000 in
theorem lifted (os : Os) (started : os.Started) (H : Type) (enc : TypeId × Value → H) :
    ReturnsInHanded {} Tryz.checked os 12 .any (Rows.shapeStaysSpec.pre6 enc Tryz.prog Tryz.f12 Rows.shapeStaysRow.domain false) (Rows.shapeStaysSpec.post enc Tryz.prog Tryz.f12 false true false false) := by
  refine returnsInHanded_of_change_sized (C := Tryz.checked) own started (by kernel_rfl) Tryz.func12
    (ChangeSpec.witness6 (enc := enc) (C := Tryz.checked) false ⟨#[], #[.agg #[.slice none 0 0, .slice none 0 0, .slice none 0 0, .slice none 0 0, .slice none 0 0]], []⟩ 8 (by kernel_rfl) (by kernel_rfl) (by kernel_rfl) (by kernel_rfl)) ?_
  intro W base args ds gs before hval0 hW hcnd hsz0 _
  have hsz : (DataW.weightsEach Tryz.prog (Tryz.f12.params.toList ++ Rows.shapeStaysSpec.plain.varTypes Tryz.prog) (ds ++ gs)).all (· ≤ reachBytes) = true := hsz0
  have hval : ∀ (j : Nat) t v, Tryz.f12.params[j]? = some t → args[j]? = some v → Value.okWide Tryz.prog W .any base t v := hval0
  have hW' := hW
  obtain ⟨p, q, hA0, hV, rfl, hfz, hnd⟩ := hW
  have hA : DataW.TrodAll enc Tryz.prog W 0 (fun _ => true) true Tryz.f12.params.toList args.toList ds p := hA0
  rw [Tryz.params12] at hA hval hsz
  obtain ⟨v0, vs0, d0, ds0, p0, q0, hargs, rfl, rfl, h0, r0⟩ := trodAll_cons hA
  obtain ⟨rfl, rfl, rfl⟩ := trodAll_nil r0
  obtain rfl : args = #[v0] := by cases args; simp_all
  obtain ⟨rfl, rfl⟩ := trodVars_none hV
  obtain ⟨arr, rfl, harr⟩ := okWide_struct Tryz.underlying32 (hval 0 32 v0 rfl rfl)
  have k0 := h0
  have lt0 : ∀ x ∈ p0, x.block < W.heap.size := by obtain ⟨m, hm⟩ := k0; exact DataW.trod_lt m _ _ _ hm
  obtain ⟨y, dd, hRE, hVS, hone, hB⟩ : ∃ (y : El (.pair (.pair (.pair (.list (.pair (.pair (.int .i64) (.int .i64)) (.pair (.pair (.int .i64) (.int .i64)) (.str)))) (.list (.pair (.pair (.pair (.int .i64) (.int .i64)) (.pair (.int .i64) (.pair (.list (.int .i64)) (.pair (.int .i64) (.pair (.pair (.int .i64) (.int .i64)) (.pair (.pair (.int .i64) (.int .i64)) (.pair (.str) (.pair (.int .i64) (.int .i64))))))))) (.pair (.bool) (.pair (.pair (.int .i64) (.int .i64)) (.pair (.str) (.bool))))))) (.list (.pair (.pair (.int .i64) (.int .i64)) (.list (.pair (.int .i64) (.pair (.int .i64) (.pair (.int .i64) (.int .i64)))))))) (.pair (.list (.pair (.pair (.int .i64) (.int .i64)) (.pair (.int .i64) (.pair (.list (.int .i64)) (.pair (.int .i64) (.pair (.pair (.int .i64) (.int .i64)) (.pair (.pair (.int .i64) (.int .i64)) (.pair (.str) (.pair (.int .i64) (.int .i64)))))))))) (.list (.pair (.int .i64) (.int .i64)))))) (dd : List DV), RE (.pair (.pair (.pair (.list (.pair (.pair (.int .i64) (.int .i64)) (.pair (.pair (.int .i64) (.int .i64)) (.str)))) (.list (.pair (.pair (.pair (.int .i64) (.int .i64)) (.pair (.int .i64) (.pair (.list (.int .i64)) (.pair (.int .i64) (.pair (.pair (.int .i64) (.int .i64)) (.pair (.pair (.int .i64) (.int .i64)) (.pair (.str) (.pair (.int .i64) (.int .i64))))))))) (.pair (.bool) (.pair (.pair (.int .i64) (.int .i64)) (.pair (.str) (.bool))))))) (.list (.pair (.pair (.int .i64) (.int .i64)) (.list (.pair (.int .i64) (.pair (.int .i64) (.pair (.int .i64) (.int .i64)))))))) (.pair (.list (.pair (.pair (.int .i64) (.int .i64)) (.pair (.int .i64) (.pair (.list (.int .i64)) (.pair (.int .i64) (.pair (.pair (.int .i64) (.int .i64)) (.pair (.pair (.int .i64) (.int .i64)) (.pair (.str) (.pair (.int .i64) (.int .i64)))))))))) (.list (.pair (.int .i64) (.int .i64))))) y dd ∧ VS (Cx.all W) false dd arr.toList ∧ (∀ v ∈ arr.toList, v.oneCell' = true) ∧ Bnd (.pair (.pair (.pair (.list (.pair (.pair (.int .i64) (.int .i64)) (.pair (.pair (.int .i64) (.int .i64)) (.str)))) (.list (.pair (.pair (.pair (.int .i64) (.int .i64)) (.pair (.int .i64) (.pair (.list (.int .i64)) (.pair (.int .i64) (.pair (.pair (.int .i64) (.int .i64)) (.pair (.pair (.int .i64) (.int .i64)) (.pair (.str) (.pair (.int .i64) (.int .i64))))))))) (.pair (.bool) (.pair (.pair (.int .i64) (.int .i64)) (.pair (.str) (.bool))))))) (.list (.pair (.pair (.int .i64) (.int .i64)) (.list (.pair (.int .i64) (.pair (.int .i64) (.pair (.int .i64) (.int .i64)))))))) (.pair (.list (.pair (.pair (.int .i64) (.int .i64)) (.pair (.int .i64) (.pair (.list (.int .i64)) (.pair (.int .i64) (.pair (.pair (.int .i64) (.int .i64)) (.pair (.pair (.int .i64) (.int .i64)) (.pair (.str) (.pair (.int .i64) (.int .i64)))))))))) (.list (.pair (.int .i64) (.int .i64))))) y := by
    obtain ⟨fuel, hf⟩ := h0
    have hf2 : DataW.trod enc Tryz.prog W 0 (fun _ => true) true fuel 32 arr.toList = some (d0, p0) := hf
    exact op_32.2 H enc W true fuel _ _ hf2 (weights_at (ds := [d0] ++ []) (j := 0) (t := 32) (d := d0) rfl rfl hsz)
  clear hA0 hval0 hsz0 hsz
  refine (law_ok (s := .pair (.pair (.pair (.list (.pair (.pair (.int .i64) (.int .i64)) (.pair (.pair (.int .i64) (.int .i64)) (.str)))) (.list (.pair (.pair (.pair (.int .i64) (.int .i64)) (.pair (.int .i64) (.pair (.list (.int .i64)) (.pair (.int .i64) (.pair (.pair (.int .i64) (.int .i64)) (.pair (.pair (.int .i64) (.int .i64)) (.pair (.str) (.pair (.int .i64) (.int .i64))))))))) (.pair (.bool) (.pair (.pair (.int .i64) (.int .i64)) (.pair (.str) (.bool))))))) (.list (.pair (.pair (.int .i64) (.int .i64)) (.list (.pair (.int .i64) (.pair (.int .i64) (.pair (.int .i64) (.int .i64)))))))) (.pair (.list (.pair (.pair (.int .i64) (.int .i64)) (.pair (.int .i64) (.pair (.list (.int .i64)) (.pair (.int .i64) (.pair (.pair (.int .i64) (.int .i64)) (.pair (.pair (.int .i64) (.int .i64)) (.pair (.str) (.pair (.int .i64) (.int .i64)))))))))) (.list (.pair (.int .i64) (.int .i64))))) tbS_ok k_12 hRE (u := .agg arr) hVS (fun _ => ⟨arr, rfl⟩) (Go.Tr.pure_ShapeStays y hB) rfl).mono fun e W' ⟨he, bel⟩ => ?_
  subst he
  exact ⟨_, rfl, _, _, _, [], _, [], hW', trodAll_mk1 (shut_bool Tryz.underlying4 _), (trodAll_cons_mk (Below.trod laidOut (by kernel_rfl) (of_decide_eq_true (by kernel_rfl)) k0 bel lt0) trodAll_mk0), rfl, bel.frame _, fun h => by cases h⟩
theorem over : Rows.shapeStaysRow.holds Tryz.pinned (OpenSpec.ofChange Rows.shapeStaysSpec) :=
  OpenClaim.holds_of_wide 12 Tryz.f12 rfl rfl rfl rfl rfl rfl rfl ⟨rfl, rfl, rfl, rfl, rfl⟩ rfl rfl rfl rfl rfl (by kernel_rfl) Tryz.func12 (by kernel_rfl)
    (of_decide_eq_true (by kernel_rfl)) (by unfold Func.isWrapper; first | (rw [if_pos (by decide +kernel)]; kernel_rfl) | (rw [if_neg (by decide +kernel)]; exact ⟨rfl, rfl⟩))
    (fun os started H enc _ => lifted os started H enc)
theorem proved : Rows.ShapeStaysSaid := over
#print axioms proved
end Go.Proofs.YtlfkabehppdohaaGreat.shapeStays
namespace Go.Proofs.YtlfkabehppdohaaGreat
theorem shapeStays_holds : Rows.ShapeStaysSaid := shapeStays.proved
end Go.Proofs.YtlfkabehppdohaaGreat
