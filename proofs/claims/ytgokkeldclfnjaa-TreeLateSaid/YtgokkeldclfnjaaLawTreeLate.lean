/- The law TreeLate: for every input it answers true. No condition. The row, out of the pure law and of what its code comes to. -/
import Derived.Test.YtgokkeldclfnjaaPrim
import Derived.Test.YtgokkeldclfnjaaTrLate
import Derived.Test.YtgokkeldclfnjaaRows
import Derived.WalkKit
import Derived.ProofKit
import Derived.OpenShut
import Derived.ShutString
import Derived.ChangeOld
import Derived.Below
import Derived.SizedLaws
namespace Go.Proofs.Ytgokkeldclfnjaa.treeLate
open Go Go.ChangeShapes Go.WideShapes Go.ChangeAt Go.RowKit Go.Dv
set_option linter.unusedVariables false
theorem own : ownKnob Try.prog.godebug = none := by kernel_rfl
theorem laidOut : laidOutB Try.prog = true := by kernel_rfl
theorem op_3 : Opens Try.prog 3 (.int .i64) := opens_int Try.underlying3 (by kernel_rfl)
theorem op_35 : Opens Try.prog 35 (.pair (.int .i64) (.int .i64)) := opens_struct Try.underlying35 (by kernel_rfl) (fields_cons rfl op_3 (fields_one rfl op_3))
theorem op_9 : Opens Try.prog 9 (.str) := opens_string Try.underlying9 (by kernel_rfl)
theorem op_42 : Opens Try.prog 42 (.pair (.pair (.int .i64) (.int .i64)) (.pair (.pair (.int .i64) (.int .i64)) (.str))) := opens_struct Try.underlying42 (by kernel_rfl) (fields_cons rfl op_35 (fields_cons rfl op_35 (fields_one rfl op_9)))
theorem op_22 : Opens Try.prog 22 (.list (.pair (.pair (.int .i64) (.int .i64)) (.pair (.pair (.int .i64) (.int .i64)) (.str)))) := opens_slice (Try.prog.bytesOf 42) op_42 Try.underlying22 (by kernel_rfl) rfl (of_decide_eq_true (by kernel_rfl)) (by decide)
theorem op_36 : Opens Try.prog 36 (.list (.int .i64)) := opens_slice (Try.prog.bytesOf 3) op_3 Try.underlying36 (by kernel_rfl) rfl (of_decide_eq_true (by kernel_rfl)) (by decide)
theorem op_38 : Opens Try.prog 38 (.pair (.pair (.int .i64) (.int .i64)) (.pair (.int .i64) (.pair (.list (.int .i64)) (.pair (.int .i64) (.pair (.pair (.int .i64) (.int .i64)) (.pair (.pair (.int .i64) (.int .i64)) (.pair (.str) (.pair (.int .i64) (.int .i64))))))))) := opens_struct Try.underlying38 (by kernel_rfl) (fields_cons rfl op_35 (fields_cons rfl op_3 (fields_cons rfl op_36 (fields_cons rfl op_3 (fields_cons rfl op_35 (fields_cons rfl op_35 (fields_cons rfl op_9 (fields_cons rfl op_3 (fields_one rfl op_3)))))))))
theorem op_4 : Opens Try.prog 4 (.bool) := opens_bool Try.underlying4 (by kernel_rfl)
theorem op_44 : Opens Try.prog 44 (.pair (.pair (.pair (.int .i64) (.int .i64)) (.pair (.int .i64) (.pair (.list (.int .i64)) (.pair (.int .i64) (.pair (.pair (.int .i64) (.int .i64)) (.pair (.pair (.int .i64) (.int .i64)) (.pair (.str) (.pair (.int .i64) (.int .i64))))))))) (.pair (.bool) (.pair (.pair (.int .i64) (.int .i64)) (.pair (.str) (.bool))))) := opens_struct Try.underlying44 (by kernel_rfl) (fields_cons rfl op_38 (fields_cons rfl op_4 (fields_cons rfl op_35 (fields_cons rfl op_9 (fields_one rfl op_4)))))
theorem op_23 : Opens Try.prog 23 (.list (.pair (.pair (.pair (.int .i64) (.int .i64)) (.pair (.int .i64) (.pair (.list (.int .i64)) (.pair (.int .i64) (.pair (.pair (.int .i64) (.int .i64)) (.pair (.pair (.int .i64) (.int .i64)) (.pair (.str) (.pair (.int .i64) (.int .i64))))))))) (.pair (.bool) (.pair (.pair (.int .i64) (.int .i64)) (.pair (.str) (.bool)))))) := opens_slice (Try.prog.bytesOf 44) op_44 Try.underlying23 (by kernel_rfl) rfl (of_decide_eq_true (by kernel_rfl)) (by decide)
theorem op_25 : Opens Try.prog 25 (.pair (.list (.pair (.pair (.int .i64) (.int .i64)) (.pair (.pair (.int .i64) (.int .i64)) (.str)))) (.list (.pair (.pair (.pair (.int .i64) (.int .i64)) (.pair (.int .i64) (.pair (.list (.int .i64)) (.pair (.int .i64) (.pair (.pair (.int .i64) (.int .i64)) (.pair (.pair (.int .i64) (.int .i64)) (.pair (.str) (.pair (.int .i64) (.int .i64))))))))) (.pair (.bool) (.pair (.pair (.int .i64) (.int .i64)) (.pair (.str) (.bool))))))) := opens_struct Try.underlying25 (by kernel_rfl) (fields_cons rfl op_22 (fields_one rfl op_23))
theorem op_26 : Opens Try.prog 26 (.list (.pair (.pair (.int .i64) (.int .i64)) (.pair (.int .i64) (.pair (.list (.int .i64)) (.pair (.int .i64) (.pair (.pair (.int .i64) (.int .i64)) (.pair (.pair (.int .i64) (.int .i64)) (.pair (.str) (.pair (.int .i64) (.int .i64)))))))))) := opens_slice (Try.prog.bytesOf 38) op_38 Try.underlying26 (by kernel_rfl) rfl (of_decide_eq_true (by kernel_rfl)) (by decide)
theorem op_27 : Opens Try.prog 27 (.list (.pair (.int .i64) (.int .i64))) := opens_slice (Try.prog.bytesOf 35) op_35 Try.underlying27 (by kernel_rfl) rfl (of_decide_eq_true (by kernel_rfl)) (by decide)
theorem op_29 : Opens Try.prog 29 (.pair (.pair (.list (.pair (.pair (.int .i64) (.int .i64)) (.pair (.pair (.int .i64) (.int .i64)) (.str)))) (.list (.pair (.pair (.pair (.int .i64) (.int .i64)) (.pair (.int .i64) (.pair (.list (.int .i64)) (.pair (.int .i64) (.pair (.pair (.int .i64) (.int .i64)) (.pair (.pair (.int .i64) (.int .i64)) (.pair (.str) (.pair (.int .i64) (.int .i64))))))))) (.pair (.bool) (.pair (.pair (.int .i64) (.int .i64)) (.pair (.str) (.bool))))))) (.pair (.list (.pair (.pair (.int .i64) (.int .i64)) (.pair (.int .i64) (.pair (.list (.int .i64)) (.pair (.int .i64) (.pair (.pair (.int .i64) (.int .i64)) (.pair (.pair (.int .i64) (.int .i64)) (.pair (.str) (.pair (.int .i64) (.int .i64)))))))))) (.list (.pair (.int .i64) (.int .i64))))) := opens_struct Try.underlying29 (by kernel_rfl) (fields_cons rfl op_25 (fields_cons rfl op_26 (fields_one rfl op_27)))
set_option maxRecDepth 100000 in
theorem lifted (os : Os) (started : os.Started) (H : Type) (enc : TypeId × Value → H) :
    ReturnsInHanded {} Try.checked os 3 .any (Rows.treeLateSpec.pre6 enc Try.prog Try.f3 Rows.treeLateRow.domain false) (Rows.treeLateSpec.post enc Try.prog Try.f3 false true false false) := by
  refine returnsInHanded_of_change_sized (C := Try.checked) own started (by kernel_rfl) Try.func3
    (ChangeSpec.witness6 (enc := enc) (C := Try.checked) false ⟨#[], #[.agg #[.slice none 0 0, .slice none 0 0, .slice none 0 0, .slice none 0 0]], []⟩ 8 (by kernel_rfl) (by kernel_rfl) (by kernel_rfl) (by kernel_rfl)) ?_
  intro W base args ds gs before hval0 hW hcnd hsz0 _
  have hsz : (DataW.weightsEach Try.prog (Try.f3.params.toList ++ Rows.treeLateSpec.plain.varTypes Try.prog) (ds ++ gs)).all (· ≤ reachBytes) = true := hsz0
  have hval : ∀ (j : Nat) t v, Try.f3.params[j]? = some t → args[j]? = some v → Value.okWide Try.prog W .any base t v := hval0
  have hW' := hW
  obtain ⟨p, q, hA0, hV, rfl, hfz, hnd⟩ := hW
  have hA : DataW.TrodAll enc Try.prog W 0 (fun _ => true) true Try.f3.params.toList args.toList ds p := hA0
  rw [Try.params3] at hA hval hsz
  obtain ⟨v0, vs0, d0, ds0, p0, q0, hargs, rfl, rfl, h0, r0⟩ := trodAll_cons hA
  obtain ⟨rfl, rfl, rfl⟩ := trodAll_nil r0
  obtain rfl : args = #[v0] := by cases args; simp_all
  obtain ⟨rfl, rfl⟩ := trodVars_none hV
  obtain ⟨arr, rfl, harr⟩ := okWide_struct Try.underlying29 (hval 0 29 v0 rfl rfl)
  have k0 := h0
  have lt0 : ∀ x ∈ p0, x.block < W.heap.size := by obtain ⟨m, hm⟩ := k0; exact DataW.trod_lt m _ _ _ hm
  obtain ⟨y, dd, hRE, hVS, hone, hB⟩ : ∃ (y : El (.pair (.pair (.list (.pair (.pair (.int .i64) (.int .i64)) (.pair (.pair (.int .i64) (.int .i64)) (.str)))) (.list (.pair (.pair (.pair (.int .i64) (.int .i64)) (.pair (.int .i64) (.pair (.list (.int .i64)) (.pair (.int .i64) (.pair (.pair (.int .i64) (.int .i64)) (.pair (.pair (.int .i64) (.int .i64)) (.pair (.str) (.pair (.int .i64) (.int .i64))))))))) (.pair (.bool) (.pair (.pair (.int .i64) (.int .i64)) (.pair (.str) (.bool))))))) (.pair (.list (.pair (.pair (.int .i64) (.int .i64)) (.pair (.int .i64) (.pair (.list (.int .i64)) (.pair (.int .i64) (.pair (.pair (.int .i64) (.int .i64)) (.pair (.pair (.int .i64) (.int .i64)) (.pair (.str) (.pair (.int .i64) (.int .i64)))))))))) (.list (.pair (.int .i64) (.int .i64)))))) (dd : List DV), RE (.pair (.pair (.list (.pair (.pair (.int .i64) (.int .i64)) (.pair (.pair (.int .i64) (.int .i64)) (.str)))) (.list (.pair (.pair (.pair (.int .i64) (.int .i64)) (.pair (.int .i64) (.pair (.list (.int .i64)) (.pair (.int .i64) (.pair (.pair (.int .i64) (.int .i64)) (.pair (.pair (.int .i64) (.int .i64)) (.pair (.str) (.pair (.int .i64) (.int .i64))))))))) (.pair (.bool) (.pair (.pair (.int .i64) (.int .i64)) (.pair (.str) (.bool))))))) (.pair (.list (.pair (.pair (.int .i64) (.int .i64)) (.pair (.int .i64) (.pair (.list (.int .i64)) (.pair (.int .i64) (.pair (.pair (.int .i64) (.int .i64)) (.pair (.pair (.int .i64) (.int .i64)) (.pair (.str) (.pair (.int .i64) (.int .i64)))))))))) (.list (.pair (.int .i64) (.int .i64))))) y dd ∧ VS (Cx.all W) false dd arr.toList ∧ (∀ v ∈ arr.toList, v.oneCell' = true) ∧ Bnd (.pair (.pair (.list (.pair (.pair (.int .i64) (.int .i64)) (.pair (.pair (.int .i64) (.int .i64)) (.str)))) (.list (.pair (.pair (.pair (.int .i64) (.int .i64)) (.pair (.int .i64) (.pair (.list (.int .i64)) (.pair (.int .i64) (.pair (.pair (.int .i64) (.int .i64)) (.pair (.pair (.int .i64) (.int .i64)) (.pair (.str) (.pair (.int .i64) (.int .i64))))))))) (.pair (.bool) (.pair (.pair (.int .i64) (.int .i64)) (.pair (.str) (.bool))))))) (.pair (.list (.pair (.pair (.int .i64) (.int .i64)) (.pair (.int .i64) (.pair (.list (.int .i64)) (.pair (.int .i64) (.pair (.pair (.int .i64) (.int .i64)) (.pair (.pair (.int .i64) (.int .i64)) (.pair (.str) (.pair (.int .i64) (.int .i64)))))))))) (.list (.pair (.int .i64) (.int .i64))))) y := by
    obtain ⟨fuel, hf⟩ := h0
    have hf2 : DataW.trod enc Try.prog W 0 (fun _ => true) true fuel 29 arr.toList = some (d0, p0) := hf
    exact op_29.2 H enc W true fuel _ _ hf2 (weights_at (ds := [d0] ++ []) (j := 0) (t := 29) (d := d0) rfl rfl hsz)
  clear hA0 hval0 hsz0 hsz
  refine (law_ok (s := .pair (.pair (.list (.pair (.pair (.int .i64) (.int .i64)) (.pair (.pair (.int .i64) (.int .i64)) (.str)))) (.list (.pair (.pair (.pair (.int .i64) (.int .i64)) (.pair (.int .i64) (.pair (.list (.int .i64)) (.pair (.int .i64) (.pair (.pair (.int .i64) (.int .i64)) (.pair (.pair (.int .i64) (.int .i64)) (.pair (.str) (.pair (.int .i64) (.int .i64))))))))) (.pair (.bool) (.pair (.pair (.int .i64) (.int .i64)) (.pair (.str) (.bool))))))) (.pair (.list (.pair (.pair (.int .i64) (.int .i64)) (.pair (.int .i64) (.pair (.list (.int .i64)) (.pair (.int .i64) (.pair (.pair (.int .i64) (.int .i64)) (.pair (.pair (.int .i64) (.int .i64)) (.pair (.str) (.pair (.int .i64) (.int .i64)))))))))) (.list (.pair (.int .i64) (.int .i64))))) tbS_ok k_3 hRE (u := .agg arr) hVS (fun _ => ⟨arr, rfl⟩) (Go.Tr.pure_TreeLate y hB) rfl).mono fun e W' ⟨he, bel⟩ => ?_
  subst he
  exact ⟨_, rfl, _, _, _, [], _, [], hW', trodAll_mk1 (shut_bool Try.underlying4 _), (trodAll_cons_mk (Below.trod laidOut (by kernel_rfl) (of_decide_eq_true (by kernel_rfl)) k0 bel lt0) trodAll_mk0), rfl, bel.frame _, fun h => by cases h⟩
theorem over : Rows.treeLateRow.holds Try.pinned (OpenSpec.ofChange Rows.treeLateSpec) :=
  OpenClaim.holds_of_wide 3 Try.f3 rfl rfl rfl rfl rfl rfl rfl ⟨rfl, rfl, rfl, rfl, rfl⟩ rfl rfl rfl rfl rfl (by kernel_rfl) Try.func3 (by kernel_rfl)
    (of_decide_eq_true (by kernel_rfl)) (by unfold Func.isWrapper; first | (rw [if_pos (by decide +kernel)]; kernel_rfl) | (rw [if_neg (by decide +kernel)]; exact ⟨rfl, rfl⟩))
    (fun os started H enc _ => lifted os started H enc)
theorem proved : Rows.TreeLateSaid := over
#print axioms proved
end Go.Proofs.Ytgokkeldclfnjaa.treeLate
namespace Go.Proofs.Ytgokkeldclfnjaa
theorem treeLate_holds : Rows.TreeLateSaid := treeLate.proved
end Go.Proofs.Ytgokkeldclfnjaa
