/- A part of the proof: TrOrders. -/
import Derived.Test.YtmphmiddiofejaaTrC
set_option linter.unusedVariables false
set_option linter.unusedSimpArgs false
namespace Go.Tr
open Go Go.Dv
abbrev SO : Type := List Op' × (Int × (Script_arraslaw16 × (Tree × (Tree × Tree))))
abbrev RO : Type := (List Op' × (Script_arraslaw16 × (Tree × (Tree × Tree)))) ⊕ Bool
theorem ins_sub {A L : List Op'} {o : Op'} (h : ∀ q ∈ A, q ∈ L) (ho : o ∈ L) : ∀ q ∈ insO A o, q ∈ L := fun q hq => by
  rcases insO_mem hq with rfl | hq
  · exact ho
  · exact h q hq
theorem ok_ins {A : List Op'} {o : Op'} (h : OkT A) (hm : mvOk o = true) (hn : hasO A o.1 = false) : OkT (insO A o) := insO_ok h hm (ne_has hn)
theorem orders_loop {os : List Op'} (x : Script_arraslaw16) (h : OkT os) (hl : os.length ≤ 100) {f : SO → Option (SO ⊕ RO)}
    (hs : ∀ (i : Nat) (A B C : List Op'), i < os.length → OkT A → OkT B → OkT C → A.length ≤ 100 → B.length ≤ 100 → C.length ≤ 100 → hasO A (os.getD i default).1 = false → hasO B (os.getD (os.length - 1 - i) default).1 = false →
      ∃ j, j < os.length ∧ f (os, ((i : Int), (x, (made A, (made B, made C))))) = some (.inl (os, (((i + 1 : Nat) : Int), (x, (made (insO A (os.getD i default)), (made (insO B (os.getD (os.length - 1 - i) default)), made (if hasO C (os.getD j default).1 = true then C else insO C (os.getD j default)))))))))
    (he : ∀ A B C : Tree, f (os, ((os.length : Int), (x, (A, (B, C))))) = some (.inr (.inl (os, (x, (A, (B, C)))))))  :
    ∀ (d i : Nat) (A B C : List Op'), os.length - i = d → i ≤ os.length → OkT A → OkT B → OkT C → A.length = i → B.length = i → (∀ q ∈ A, q ∈ os.take i) → (∀ q ∈ B, q ∈ os.drop (os.length - i)) → (∀ q ∈ C, q ∈ os) →
      ∃ C', OkT C' ∧ (∀ q ∈ C', q ∈ os) ∧ iter f (os, ((i : Int), (x, (made A, (made B, made C))))) = some (.inl (os, (x, (made os, (made os, made C')))))
  | 0, i, A, B, C, h0, hi, hA, hB, hC, lA, lB, sA, sB, sC => by
    obtain rfl : i = os.length := by omega
    have eA : A = os := srt_all h.srt hA.srt (fun q hq => List.mem_of_mem_take (sA q hq)) (by omega)
    have eB : B = os := srt_all h.srt hB.srt (fun q hq => List.mem_of_mem_drop (sB q hq)) (by omega)
    subst eA; subst eB
    exact ⟨C, hC, sC, iter_inr (he _ _ _)⟩
  | d + 1, i, A, B, C, h0, hi, hA, hB, hC, lA, lB, sA, sB, sC => by
    have hi' : i < os.length := by omega
    have cl : C.length ≤ os.length := (srt_sub h.srt hC.srt sC).length_le
    have nd : os.Nodup := h.srt.imp fun hh => by intro e; exact slt_ne hh (by rw [e])
    have gm : os.getD i default ∈ os := getD_mem hi'
    have gm2 : os.getD (os.length - 1 - i) default ∈ os := getD_mem (by omega)
    have e1 : os.getD i default = os[i] := by rw [List.getD_eq_getElem?_getD, List.getElem?_eq_getElem hi']; rfl
    have e2 : os.getD (os.length - 1 - i) default = os[os.length - 1 - i] := by rw [List.getD_eq_getElem?_getD, List.getElem?_eq_getElem (by omega)]; rfl
    have nA : hasO A (os.getD i default).1 = false := hasO_false h.srt (fun q hq => List.mem_of_mem_take (sA q hq)) gm (fun hq => by
      have := sA _ hq
      rw [e1, List.mem_take_iff_getElem] at this
      obtain ⟨k, hk, hke⟩ := this
      have := (List.getElem_inj nd).1 hke
      omega)
    have nB : hasO B (os.getD (os.length - 1 - i) default).1 = false := hasO_false h.srt (fun q hq => List.mem_of_mem_drop (sB q hq)) gm2 (fun hq => by
      have := sB _ hq
      rw [e2, List.mem_drop_iff_getElem] at this
      obtain ⟨k, hk, hke⟩ := this
      have := (List.getElem_inj nd).1 hke
      omega)
    obtain ⟨j, hj, hf⟩ := hs i A B C hi' hA hB hC (by omega) (by omega) (by omega) nA nB
    rw [iter_inl hf]
    have gj : os.getD j default ∈ os := getD_mem hj
    refine orders_loop x h hl hs he d (i + 1) _ _ _ (by omega) (by omega) (ok_ins hA (h.mv _ gm) nA) (ok_ins hB (h.mv _ gm2) nB) ?_ (by rw [insO_len]; omega) (by rw [insO_len]; omega) ?_ ?_ ?_
    · split
      · exact hC
      · rename_i hh; exact ok_ins hC (h.mv _ gj) (by simpa using hh)
    · refine ins_sub (fun q hq => ?_) ?_
      · exact (List.take_subset_take_left os (Nat.le_succ i)) (sA q hq)
      · rw [e1, List.mem_take_iff_getElem]; exact ⟨i, by omega, rfl⟩
    · refine ins_sub (fun q hq => ?_) ?_
      · have hq2 := sB q hq
        rw [List.mem_drop_iff_getElem] at hq2 ⊢
        obtain ⟨k, hk, hke⟩ := hq2
        refine ⟨k + 1, by omega, ?_⟩
        rw [← hke]; congr 1; omega
      · rw [e2, List.mem_drop_iff_getElem]; exact ⟨0, by omega, by congr 1; omega⟩
    · split
      · exact sC
      · exact ins_sub sC gj
theorem getI_mod {os : List Op'} {n : Int} (h0 : 0 ≤ n) (hl : 0 < os.length) : getI os (Int.tmod n ((os.length : Nat) : Int)) = some (os.getD (n.toNat % os.length) default) := by
  obtain ⟨k, rfl⟩ : ∃ k : Nat, n = (k : Int) := ⟨n.toNat, by omega⟩
  rw [Int.toNat_natCast, show Int.tmod (k : Int) ((os.length : Nat) : Int) = ((k % os.length : Nat) : Int) from by
    rw [Int.tmod_eq_emod_of_nonneg (by omega)]; omega]
  exact getI_D os _ (Nat.mod_lt _ hl)
theorem pure_TreeOrders (y : El sScript_arraslaw16) (h : Bnd sScript_arraslaw16 y) : arraslaw16_TreeOrders y = some true := by
  obtain ⟨b, hb, hb2⟩ := heavy_eq y h
  unfold arraslaw16_TreeOrders
  rw [hb]
  simp only [Option.bind_some]
  cases b with
  | true => rfl
  | false =>
    obtain ⟨_, _, hL, hID, _, _⟩ := hb2 rfl
    obtain ⟨os, ho1, ho2, ho3⟩ := moves_eq y.2.1 10 (by omega) (by omega)
    simp only [cond_false, ho1, Option.bind_some]
    have hl : os.length ≤ 10 := by omega
    rw [show ((os, ((0 : Int), (y, (([], []), (([], []), ([], [])))))) : SO) = (os, (((0 : Nat) : Int), (y, (made [], (made [], made []))))) from rfl]
    generalize hf : (fun s : SO => _) = f
    have main : ∃ C', OkT C' ∧ (∀ q ∈ C', q ∈ os) ∧ iter f (os, (((0 : Nat) : Int), (y, (made [], (made [], made []))))) = some (.inl (os, (y, (made os, (made os, made C'))))) := by
      refine orders_loop (os := os) y ho2 (by omega) (f := f) ?_ ?_ os.length 0 [] [] [] (by omega) (by omega) ok_nil ok_nil ok_nil rfl rfl (by simp) (by simp) (by simp)
      · intro i A B C hi hA hB hC lA lB lC nA nB
        subst hf
        have e1 : (i : Int) < (os.length : Int) := by omega
        have ew : IntKind.wrap .i64 (IntKind.wrap .i64 (((os.length : Nat) : Int) - 1) - (i : Int)) = ((os.length - 1 - i : Nat) : Int) := by
          rw [Go.Dv.wrap_small (n := ((os.length : Nat) : Int) - 1) (by omega) (by omega), Go.Dv.wrap_small] <;> omega
        have ew2 : ∀ k : Nat, k ≤ 200 → IntKind.wrap .i64 (IntKind.wrap .i64 ((i : Int) * 7) + (k : Int)) = ((i * 7 + k : Nat) : Int) := by
          intro k hk
          have w1 : IntKind.wrap .i64 ((i : Int) * 7) = (i : Int) * 7 := Go.Dv.wrap_small (by omega) (by omega)
          have w2 : IntKind.wrap .i64 ((i : Int) * 7 + (k : Int)) = (i : Int) * 7 + (k : Int) := Go.Dv.wrap_small (by omega) (by omega)
          rw [w1, w2]; omega
        have hpos : 0 < os.length := by omega
        have hz : (((os.length : Nat) : Int) == 0) = false := by rw [beq_eq_false_iff_ne]; omega
        have gi : ∀ j, j < os.length → mvOk (os.getD j default) = true := fun j hj => ho2.mv _ (getD_mem hj)
        have dep : ∀ j, j < os.length → (os.getD j default).2.2.1.length < 9223372036854775807 := fun j hj => by have := (mvOk_deps (gi j hj)).1; omega
        have hj : (i * 7 + y.2.2.length) % os.length < os.length := Nat.mod_lt _ hpos
        refine ⟨(i * 7 + y.2.2.length) % os.length, hj, ?_⟩
        have hA1 := Apply_eq (o := os.getD i default) hA (by omega) (dep i hi)
        have hB1 := Apply_eq (o := os.getD (os.length - 1 - i) default) hB (by omega) (dep _ (by omega))
        have hC1 := Apply_eq (o := os.getD ((i * 7 + y.2.2.length) % os.length) default) hC (by omega) (dep _ hj)
        rw [gi i hi, nA] at hA1
        rw [gi _ (by omega), nB] at hB1
        rw [gi _ hj] at hC1
        simp only [if_true, Bool.false_eq_true, if_false] at hA1 hB1 hC1
        have hmod := getI_mod (os := os) (n := ((i * 7 + y.2.2.length : Nat) : Int)) (by omega) hpos
        rw [Int.toNat_natCast] at hmod
        simp only [e1, decide_true, cond_true, getI_D os i hi, Option.bind_some, hA1, ew, getI_D os _ (show os.length - 1 - i < os.length by omega), hB1, hz, cond_false, ew2 _ hID, hmod, hC1, num_eq, wrap_nat (show i < 9223372036854775807 by omega)]
        cases hasO C (os.getD ((i * 7 + y.2.2.length) % os.length) default).1 <;> rfl
      · intro A B C
        subst hf
        simp only [Int.lt_irrefl, decide_false, cond_false]
    obtain ⟨C, c1, c2, c3⟩ := main
    rw [c3]
    have hcl : C.length ≤ os.length := (srt_sub ho2.srt c1.srt c2).length_le
    have hsm := made_sm (os := os) (by omega)
    have hE : ∀ D : List Op', arrasref0_EqTree (made os, made D) = some (decide (made os = made D)) := fun D => by
      have h1 : (made os).1.length < 1000000 := hsm.1
      have h2 : (made os).2.length < 1000000 := hsm.2
      refine EqTree_eq _ _ (by omega) ⟨by omega, fun e he => ?_⟩
      have h3 : e.1.2.2.1.length < 1000000 := ok_deps ho2 e he
      omega
    have hlen : (((made C).2.length : Nat) : Int) = (C.length : Int) := by
      have := ens_len [] C
      show (((ens [] C).length : Nat) : Int) = _
      rw [this]
    simp only [Option.bind_some, hE, decide_true, cond_true, hlen]
    by_cases hc : (C.length : Int) < (os.length : Int)
    · simp [hc, wakes_eq]
    · have : C = os := srt_all ho2.srt c1.srt c2 (by omega)
      subst this
      simp [wakes_eq]
end Go.Tr
