/- The law KeyBetweens: for every list of pairs of texts it answers true. No condition. The row, out of its Pure and its walk. -/
import Derived.Test.YthcadjfkbkegcaaRows
import Derived.Test.YthcadjfkbkegcaaPKeyx4
import Derived.Test.YthcadjfkbkegcaaPureKeyBetweens
import Derived.WalkKit
import Derived.ProofKit
import Derived.OpenShut
import Derived.ShutString
import Derived.ChangeOld
import Derived.Below
import Derived.SizedLaws
import Derived.Test.YthcadjfkbkegcaaOpens
namespace Go.Proofs.Ythcadjfkbkegcaa.keyBetweens
open Go.ChangeShapes Go.WideShapes Go.ChangeAt Go.RowKit
open Go.ChangeMaps (open_string shut_string)
set_option linter.unusedVariables false
theorem own : ownKnob Try.prog.godebug = none := by kernel_rfl
theorem laidOut : laidOutB Try.prog = true := by kernel_rfl
open Go.Proofs.YthcadjfkbkegcaaOpens Go.Proofs.YthcadjfkbkegcaaW.PrintWords Go.Proofs.Ythcadjfkbkegcaa.PKey
theorem opensText : Opens Try.prog 9 Kd.string (fun s => s.size ≤ 140737488351232) := opens_string Try.underlying9 (by kernel_rfl)
theorem opensAsk : Opens Try.prog 33 k33 (fun y => y.f0.size ≤ 140737488351232 ∧ y.f1.size ≤ 140737488351232) :=
  Opens.imp (d := k33) (fun _ h => h) (opens_struct (f := fun x : S33 => (x.f0, x.f1)) (g := fun y => ⟨y.1, y.2⟩) (fun _ => rfl) Try.underlying33 (by kernel_rfl) (fields_cons rfl opensText (fields_one rfl opensText)))
theorem opensAsks : Opens Try.prog 30 (Kd.slice 33 k33) (fun l => l.length * 32 ≤ 140737488351232 ∧ ∀ y ∈ l, y.f0.size ≤ 140737488351232 ∧ y.f1.size ≤ 140737488351232) :=
  opens_slice 32 opensAsk Try.underlying30 (by kernel_rfl) (by kernel_rfl)
set_option maxRecDepth 100000 in
theorem lifted (os : Os) (started : os.Started) (H : Type) (enc : TypeId × Value → H) :
    ReturnsInHanded {} Try.checked os 4 .any (Rows.keyBetweensSpec.pre6 enc Try.prog Try.f4 Rows.keyBetweensRow.domain false) (Rows.keyBetweensSpec.post enc Try.prog Try.f4 false true false false) := by
  refine returnsInHanded_of_change_sized (C := Try.checked) own started (by kernel_rfl) Try.func4
    (ChangeSpec.witness6 (enc := enc) (C := Try.checked) false ⟨#[], #[.slice none 0 0], []⟩ 8 (by kernel_rfl) (by kernel_rfl) (by kernel_rfl) (by kernel_rfl)) ?_
  intro W base args ds gs before hval0 hW hcnd hsz0 _
  have hsz : (DataW.weightsEach Try.prog (Try.f4.params.toList ++ Rows.keyBetweensSpec.plain.varTypes Try.prog) (ds ++ gs)).all (· ≤ reachBytes) = true := hsz0
  have hval : ∀ (j : Nat) t v, Try.f4.params[j]? = some t → args[j]? = some v → Value.okWide Try.prog W .any base t v := hval0
  have hW' := hW
  obtain ⟨p, q, hA0, hV, rfl, hfz, hnd⟩ := hW
  have hA : DataW.TrodAll enc Try.prog W 0 (fun _ => true) true Try.f4.params.toList args.toList ds p := hA0
  rw [Try.params4] at hA hval hsz
  obtain ⟨v0, vs0, d0, ds0, p0, q0, hargs, rfl, rfl, h0, r0⟩ := trodAll_cons hA
  obtain ⟨rfl, rfl, rfl⟩ := trodAll_nil r0
  obtain rfl : args = #[v0] := by cases args; simp_all
  obtain ⟨rfl, rfl⟩ := trodVars_none hV
  obtain ⟨a0, len0, cap0, rfl⟩ := okWide_slice Try.underlying30 (hval 0 30 v0 rfl rfl)
  have k0 := h0
  have lt0 : ∀ x ∈ p0, x.block < W.heap.size := by obtain ⟨m, hm⟩ := k0; exact DataW.trod_lt m _ _ _ hm
  obtain ⟨l0, hK, hB⟩ : ∃ l0 : List S33, (Kd.slice 33 k33).K W l0 [.slice a0 len0 cap0] ∧ (l0.length * 32 ≤ 140737488351232 ∧ ∀ y ∈ l0, y.f0.size ≤ 140737488351232 ∧ y.f1.size ≤ 140737488351232) := by
    obtain ⟨fuel, hf⟩ := h0
    have hf2 : DataW.trod enc Try.prog W 0 (fun _ => true) true fuel 30 [.slice a0 len0 cap0] = some (d0, p0) := hf
    exact opensAsks.2 H enc W true fuel _ _ hf2 (weights_at (ds := [d0] ++ []) (j := 0) (t := 30) (d := d0) rfl rfl hsz)
  obtain ⟨A, c, hcs, hlc, hC⟩ := hK
  simp only [List.cons.injEq, Value.slice.injEq, and_true] at hcs
  obtain ⟨rfl, rfl, rfl⟩ := hcs
  clear hA0 hval0 hsz0 hsz
  obtain ⟨k, hk⟩ := Pure.KeyBetweens l0 hB.1 hB.2
  refine (arraslaw8_KeyBetweens.calls k a0 cap0 l0 true W hC hlc hk).mono fun e W' ⟨he, bel⟩ => ?_
  subst he
  exact ⟨_, rfl, _, _, _, [], _, [], hW', trodAll_mk1 (shut_bool Try.underlying4 _), (trodAll_cons_mk (Below.trod laidOut (by kernel_rfl) (of_decide_eq_true (by kernel_rfl)) k0 bel lt0) trodAll_mk0), rfl, bel.frame _, fun h => by cases h⟩
theorem over : Rows.keyBetweensRow.holds Try.pinned (OpenSpec.ofChange Rows.keyBetweensSpec) :=
  OpenClaim.holds_of_wide 4 Try.f4 rfl rfl rfl rfl rfl rfl rfl ⟨rfl, rfl, rfl, rfl, rfl⟩ rfl rfl rfl rfl rfl (by kernel_rfl) Try.func4 (by kernel_rfl)
    (of_decide_eq_true (by kernel_rfl)) (by unfold Func.isWrapper; first | (rw [if_pos (by decide +kernel)]; kernel_rfl) | (rw [if_neg (by decide +kernel)]; exact ⟨rfl, rfl⟩))
    (fun os started H enc _ => lifted os started H enc)
theorem proved : Rows.KeyBetweensSaid := over
#print axioms proved
end Go.Proofs.Ythcadjfkbkegcaa.keyBetweens
namespace Go.Proofs.Ythcadjfkbkegcaa
/-- The row, under a short name, for the claim. -/
theorem keyBetweens_holds : Rows.KeyBetweensSaid := keyBetweens.proved
end Go.Proofs.Ythcadjfkbkegcaa
