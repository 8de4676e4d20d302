/- The law LookChecks: for every input it answers true. No condition. The row, out of the pure law and of what its code comes to. -/
import Derived.Test.YtlfkabehppdohaaGreatPrim
import Derived.Test.YtlfkabehppdohaaGreatLk
import Derived.Test.YtlfkabehppdohaaGreatRows
import Derived.WalkKit
import Derived.ProofKit
import Derived.OpenShut
import Derived.ShutString
import Derived.ChangeOld
import Derived.Below
import Derived.SizedLaws
namespace Go.Proofs.YtlfkabehppdohaaGreat.lookChecks
open Go Go.ChangeShapes Go.WideShapes Go.ChangeAt Go.RowKit Go.Dv
set_option linter.unusedVariables false
theorem own : ownKnob Tryz.prog.godebug = none := by kernel_rfl
theorem laidOut : laidOutB Tryz.prog = true := by kernel_rfl
theorem op_3 (N : Nat) : Opens N Tryz.prog 3 (.int .i64) := opens_int Tryz.underlying3 (by kernel_rfl)
theorem op_36 (N : Nat) : Opens N Tryz.prog 36 (.pair (.int .i64) (.int .i64)) := opens_struct Tryz.underlying36 (by kernel_rfl) (fields_cons rfl (op_3 N) (fields_one rfl (op_3 N)))
theorem op_37 (N : Nat) : Opens N Tryz.prog 37 (.list (.int .i64)) := opens_slice (Tryz.prog.bytesOf 3) (op_3 N) Tryz.underlying37 (by kernel_rfl) rfl (of_decide_eq_true (by kernel_rfl)) (by decide)
theorem op_39 (N : Nat) : Opens N Tryz.prog 39 (.uno (.list (.int .i64))) := opens_uno (opens_struct Tryz.underlying39 (by kernel_rfl) (fields_one rfl (op_37 N)))
theorem op_42 (N : Nat) : Opens N Tryz.prog 42 (.tree (.pair (.pair (.int .i64) (.int .i64)) (.uno (.list (.int .i64))))) := opens_tree2 Tryz.underlying42 (by kernel_rfl) (fun N ih => fields_cons rfl (op_36 N) (fields_cons rfl (op_39 N) (fields_one rfl (opens_slice (Tryz.prog.bytesOf 42) ih Tryz.underlying40 (by kernel_rfl) rfl (of_decide_eq_true (by kernel_rfl)) (by decide))))) N
theorem op_40 (N : Nat) : Opens N Tryz.prog 40 (.list (.tree (.pair (.pair (.int .i64) (.int .i64)) (.uno (.list (.int .i64)))))) := opens_slice (Tryz.prog.bytesOf 42) (op_42 N) Tryz.underlying40 (by kernel_rfl) rfl (of_decide_eq_true (by kernel_rfl)) (by decide)
set_option maxRecDepth 100000 in
theorem lifted (os : Os) (started : os.Started) (H : Type) (enc : TypeId × Value → H) :
    ReturnsInHanded {} Tryz.checked os 5 .any (Rows.lookChecksSpec.pre6 enc Tryz.prog Tryz.f5 Rows.lookChecksRow.domain false) (Rows.lookChecksSpec.post enc Tryz.prog Tryz.f5 false true false false) := by
  refine returnsInHanded_of_change_sized (C := Tryz.checked) own started (by kernel_rfl) Tryz.func5
    (ChangeSpec.witness6 (enc := enc) (C := Tryz.checked) false ⟨#[], #[.slice none 0 0], []⟩ 8 (by kernel_rfl) (by kernel_rfl) (by kernel_rfl) (by kernel_rfl)) ?_
  intro W base args ds gs before hval0 hW hcnd hsz0 _
  have hsz : (DataW.weightsEach Tryz.prog (Tryz.f5.params.toList ++ Rows.lookChecksSpec.plain.varTypes Tryz.prog) (ds ++ gs)).all (· ≤ reachBytes) = true := hsz0
  have hval : ∀ (j : Nat) t v, Tryz.f5.params[j]? = some t → args[j]? = some v → Value.okWide Tryz.prog W .any base t v := hval0
  have hW' := hW
  obtain ⟨p, q, hA0, hV, rfl, hfz, hnd⟩ := hW
  have hA : DataW.TrodAll enc Tryz.prog W 0 (fun _ => true) true Tryz.f5.params.toList args.toList ds p := hA0
  rw [Tryz.params5] at hA hval hsz
  obtain ⟨v0, vs0, d0, ds0, p0, q0, hargs, rfl, rfl, h0, r0⟩ := trodAll_cons hA
  obtain ⟨rfl, rfl, rfl⟩ := trodAll_nil r0
  obtain rfl : args = #[v0] := by cases args; simp_all
  obtain ⟨rfl, rfl⟩ := trodVars_none hV
  obtain ⟨a0, len0, cap0, rfl⟩ := okWide_slice Tryz.underlying40 (hval 0 40 v0 rfl rfl)
  have k0 := h0
  have lt0 : ∀ x ∈ p0, x.block < W.heap.size := by obtain ⟨m, hm⟩ := k0; exact DataW.trod_lt m _ _ _ hm
  obtain ⟨y, dd, hRE, hVS, hone, hB⟩ : ∃ (y : El (.list (.tree (.pair (.pair (.int .i64) (.int .i64)) (.uno (.list (.int .i64))))))) (dd : List DV), RE (.list (.tree (.pair (.pair (.int .i64) (.int .i64)) (.uno (.list (.int .i64)))))) y dd ∧ VS (Cx.all W) false dd ([.slice a0 len0 cap0] : List Value) ∧ (∀ v ∈ ([.slice a0 len0 cap0] : List Value), v.oneCell' = true) ∧ Bnd (.list (.tree (.pair (.pair (.int .i64) (.int .i64)) (.uno (.list (.int .i64)))))) y := by
    obtain ⟨fuel, hf⟩ := h0
    have hf2 : DataW.trod enc Tryz.prog W 0 (fun _ => true) true fuel 40 ([.slice a0 len0 cap0] : List Value) = some (d0, p0) := hf
    exact (op_40 fuel).2 H enc W true fuel _ _ (Nat.le_refl _) hf2 (weights_at (ds := [d0] ++ []) (j := 0) (t := 40) (d := d0) rfl rfl hsz)
  clear hA0 hval0 hsz0 hsz
  refine (law_ok (s := .list (.tree (.pair (.pair (.int .i64) (.int .i64)) (.uno (.list (.int .i64)))))) tbS_ok k_5 hRE (u := .slice a0 len0 cap0) hVS (fun h => by cases h) (Go.Tr.pure_LookChecks y hB) rfl).mono fun e W' ⟨he, bel⟩ => ?_
  subst he
  exact ⟨_, rfl, _, _, _, [], _, [], hW', trodAll_mk1 (shut_bool Tryz.underlying4 _), (trodAll_cons_mk (Below.trod laidOut (by kernel_rfl) (of_decide_eq_true (by kernel_rfl)) k0 bel lt0) trodAll_mk0), rfl, bel.frame _, fun h => by cases h⟩
theorem over : Rows.lookChecksRow.holds Tryz.pinned (OpenSpec.ofChange Rows.lookChecksSpec) :=
  OpenClaim.holds_of_wide 5 Tryz.f5 rfl rfl rfl rfl rfl rfl rfl ⟨rfl, rfl, rfl, rfl, rfl⟩ rfl rfl rfl rfl rfl (by kernel_rfl) Tryz.func5 (by kernel_rfl)
    (of_decide_eq_true (by kernel_rfl)) (by unfold Func.isWrapper; first | (rw [if_pos (by decide +kernel)]; kernel_rfl) | (rw [if_neg (by decide +kernel)]; exact ⟨rfl, rfl⟩))
    (fun os started H enc _ => lifted os started H enc)
theorem proved : Rows.LookChecksSaid := over
#print axioms proved
end Go.Proofs.YtlfkabehppdohaaGreat.lookChecks
namespace Go.Proofs.YtlfkabehppdohaaGreat
theorem lookChecks_holds : Rows.LookChecksSaid := lookChecks.proved
end Go.Proofs.YtlfkabehppdohaaGreat
