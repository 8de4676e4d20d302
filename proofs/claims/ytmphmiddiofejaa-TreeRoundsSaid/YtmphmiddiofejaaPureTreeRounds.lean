/- A part of the proof: TrRounds, TrRounds2. -/
import Derived.Test.YtmphmiddiofejaaTrC
set_option linter.unusedVariables false
set_option linter.unusedSimpArgs false
namespace Go.Tr
open Go Go.Dv
/-- The places above. -/
def ups (l : List Nd) : Nat → Sp → List Sp
  | 0, _ => []
  | n + 1, s => match par l s with
    | some p => p :: ups l n p
    | none => []
theorem ups_len {l : List Nd} : ∀ {n : Nat} {s : Sp}, EndsIn l n s → (ups l n s).length = n
  | 0, _, _ => rfl
  | n + 1, s, ⟨p, hp, h⟩ => by simp [ups, hp, ups_len h]
theorem ups_mem {l : List Nd} : ∀ {n : Nat} {s q : Sp}, EndsIn l n s → q ∈ ups l n s → ∃ k, k < n ∧ EndsIn l k q
  | 0, _, _, _, h => by simp [ups] at h
  | n + 1, s, q, ⟨p, hp, h⟩, hq => by
    simp only [ups, hp] at hq
    rcases List.mem_cons.1 hq with rfl | hq
    · exact ⟨n, by omega, h⟩
    · obtain ⟨k, hk, hk2⟩ := ups_mem h hq; exact ⟨k, by omega, hk2⟩
theorem Node_eq {t : Tree} (id : Sp) (hs : Srt t.1) (hl : Sm t.1) : tree_Node (t, id) = some (match look t.1 id with | some n => (n, true) | none => (((0, 0), (0, 0), ⟨#[]⟩), false)) := by
  unfold tree_Node
  simp only [tree_find_eq id hs hl, Option.bind_some]
  cases h : look t.1 id with
  | none => rfl
  | some n => simp [getI_pos hs h]
theorem up_loop {t : Tree} (hs : Srt t.1) (hl : Sm t.1) {f : (List Sp × (Tree × (Sp × Nd))) → Option ((List Sp × (Tree × (Sp × Nd))) ⊕ List Sp)}
    (hf : ∀ (a : List Sp) (s : Sp) (z : Nd), a.length < 1000000 → f (a, (t, (s, z))) = match look t.1 s with | some n => some (.inl (a ++ [n.2.1], (t, (n.2.1, n)))) | none => some (.inr a)) :
    ∀ (n : Nat) (a : List Sp) (s : Sp) (z : Nd), EndsIn t.1 n s → a.length + n < 1000000 → iter f (a, (t, (s, z))) = some (a ++ ups t.1 n s)
  | 0, a, s, z, h, hlen => by
    simp only [EndsIn, par, Option.map_eq_none_iff] at h
    rw [iter_inr (r := a) (by rw [hf a s z (by omega), h])]
    simp [ups]
  | n + 1, a, s, z, ⟨p, hp, h⟩, hlen => by
    have hp' := hp
    simp only [par, Option.map_eq_some_iff] at hp
    obtain ⟨m, hm, rfl⟩ := hp
    rw [iter_inl (by rw [hf a s z (by omega), hm]), up_loop hs hl hf n _ _ _ h (by simp only [List.length_append, List.length_cons, List.length_nil]; omega)]
    simp [ups, hp']
theorem Up_eq {t : Tree} (hs : Srt t.1) (hl : Sm t.1) {n : Nat} {s : Sp} (h : EndsIn t.1 n s) : tree_Up (t, s) = some (ups t.1 n s) := by
  have hl' : t.1.length < 1000000 := hl
  have hn := ends_le h
  unfold tree_Up
  rw [up_loop hs hl ?_ n [] s _ h (by simp; omega)]
  · simp
  · intro a s z ha
    simp only [Node_eq s hs hl, Option.bind_some]
    cases look t.1 s with
    | none => rfl
    | some m =>
      have : room (List.length (a ++ [m.2.1])) 16 = true := room_small (by simp only [List.length_append, List.length_cons, List.length_nil]; omega) (by decide)
      simp only [cond_true, this]
theorem Above_made {os : List Op'} (h : OkT os) (hl : os.length < 999980) {n : Nat} {s : Sp} (he : EndsIn (made os).1 n s) : tree_Above (made os, s) = some (if (look (made os).1 s).isSome = true then (ups (made os).1 n s, 0) else ([], 3)) := by
  have hs : Srt (made os).1 := (nds0 os).1
  have hsm := (made_sm hl).1
  unfold tree_Above
  simp only [May_made h hl, Option.bind_some, Bool.not_true, cond_false, Node_eq s hs hsm, Up_eq hs hsm he]
  cases look (made os).1 s <;> rfl
theorem Find_made {os : List Op'} (h : OkT os) (hl : os.length < 999980) (s : Sp) : tree_Find (made os, s) = some (match look (made os).1 s with | some n => (n, 0) | none => (((0, 0), (0, 0), ⟨#[]⟩), 3)) := by
  have hs : Srt (made os).1 := (nds0 os).1
  have hsm := (made_sm hl).1
  unfold tree_Find
  simp only [May_made h hl, Option.bind_some, Bool.not_true, cond_false, Node_eq s hs hsm]
  cases look (made os).1 s <;> rfl
theorem InStamps_eq (l : List Sp) (x : Sp) (hl : l.length < 9223372036854775807) : ∃ r : Int, arrasref0_InStamps (l, x) = some r ∧ (0 ≤ r ↔ x ∈ l) := by
  unfold arrasref0_InStamps
  generalize hf : (fun s : (List Sp × (Int × Sp)) => _) = f
  have hs : ∀ i, i < l.length → f (l, ((i : Int), x)) = if l.getD i default = x then some (.inr (.inr (i : Int))) else some (.inl (l, (((i + 1 : Nat) : Int), x))) := by
    intro i hi
    subst hf
    have e1 : (i : Int) < (l.length : Int) := by omega
    simp only [e1, decide_true, cond_true, getI_D l i hi, Option.bind_some, two_eq, wrap_nat (show i < 9223372036854775807 by omega)]
    by_cases e : l.getD i default = x <;> simp [e]
  have he : f (l, ((l.length : Int), x)) = some (.inr (.inl x)) := by
    subst hf; simp only [Int.lt_irrefl, decide_false, cond_false]
  by_cases hm : x ∈ l
  · have hn : (List.range l.length).all (fun i => !decide (l.getD i default = x)) = false := by
      rw [Bool.eq_false_iff]
      intro hall
      rw [List.all_eq_true] at hall
      obtain ⟨i, hi, rfl⟩ := List.mem_iff_getElem.1 hm
      have := hall i (List.mem_range.2 hi)
      simp [List.getD_eq_getElem?_getD, hi] at this
    obtain ⟨k, h1, h2, h3⟩ := first_false _ _ hn
    have h2 : l.getD k default = x := by simpa using h2
    refine ⟨(k : Int), ?_, ⟨fun _ => hm, fun _ => by omega⟩⟩
    rw [iter_run' (inv := fun i : Nat => (l, ((i : Int), x))) (k := k) (r := .inr (k : Int))]
    · rfl
    · intro i hi
      have : ¬ l.getD i default = x := by simpa using h3 i hi
      rw [hs i (by omega), if_neg this]
    · rw [hs k h1, if_pos h2]
  · refine ⟨-1, ?_, ⟨fun h => by omega, fun h => absurd h hm⟩⟩
    rw [iter_run' (inv := fun i : Nat => (l, ((i : Int), x))) (k := l.length) (r := .inl x)]
    · rfl
    · intro i hi
      have : ¬ l.getD i default = x := fun e => hm (e ▸ getD_mem hi)
      rw [hs i hi, if_neg this]
    · exact he
theorem ref_Cmp_eq (a b : Sp) : arrasref6_Cmp (a, b) = scmp a b := by
  unfold arrasref6_Cmp scmp slt
  obtain ⟨a1, a2⟩ := a
  obtain ⟨b1, b2⟩ := b
  simp only [Prod.mk.injEq]
  by_cases h1 : a1 < b1
  · simp [h1]
  · by_cases h2 : a1 = b1
    · subst h2
      by_cases h3 : a2 < b2
      · simp [h3]
      · by_cases h4 : a2 = b2
        · simp [h4]
        · have : (a2 == b2) = false := by simpa using h4
          simp [h3, h4, this]
    · have : (a1 == b1) = false := by simpa using h2
      simp [h1, h2, this]
end Go.Tr
set_option linter.unusedVariables false
set_option linter.unusedSimpArgs false
namespace Go.Tr
open Go Go.Dv
theorem look_mem {l : List Nd} (hs : Srt l) {m : Nd} (h : m ∈ l) : look l m.1 = some m := by
  induction l with
  | nil => simp at h
  | cons q l ih =>
    obtain ⟨h1, h2⟩ := List.pairwise_cons.1 hs
    simp only [look]
    rcases List.mem_cons.1 h with rfl | hm
    · simp
    · rw [if_neg (slt_ne (h1 m hm)), ih h2 hm]
abbrev S3 : Type := List Op' × (Int × (Int × (List Sp × (Int × (Script_arraslaw16 × (Tree × (Tree × Nd)))))))
abbrev S2 : Type := List Op' × (Int × (Int × (Script_arraslaw16 × (Tree × Tree))))
abbrev S1 : Type := List Op' × (Int × (Script_arraslaw16 × Tree))
theorem rounds_loop {ρ : Type} {os : List Op'} (x : Script_arraslaw16) (h : OkT os) (hl : os.length ≤ 100) {f : S1 → Option (S1 ⊕ (Script_arraslaw16 × Tree ⊕ Bool))}
    (hs : ∀ (i : Nat) (C : List Op'), i < os.length → OkT C → C.length ≤ 100 → ∃ j, j < os.length ∧ f (os, ((i : Int), (x, made C))) = some (.inl (os, (((i + 1 : Nat) : Int), (x, made (if hasO C (os.getD j default).1 = true then C else insO C (os.getD j default)))))))
    (he : ∀ C : Tree, f (os, ((os.length : Int), (x, C))) = some (.inr (.inl (x, C)))) :
    ∀ (d i : Nat) (C : List Op'), os.length - i = d → i ≤ os.length → OkT C → (∀ q ∈ C, q ∈ os) → ∃ C' : Tree, iter f (os, ((i : Int), (x, made C))) = some (.inl (x, C'))
  | 0, i, C, h0, hi, hC, sC => by
    obtain rfl : i = os.length := by omega
    exact ⟨_, iter_inr (he _)⟩
  | d + 1, i, C, h0, hi, hC, sC => by
    have hi' : i < os.length := by omega
    have cl : C.length ≤ os.length := (srt_sub h.srt hC.srt sC).length_le
    obtain ⟨j, hj, hf⟩ := hs i C hi' hC (by omega)
    have gj : os.getD j default ∈ os := getD_mem hj
    rw [iter_inl hf]
    refine rounds_loop (ρ := ρ) x h hl hs he d (i + 1) _ (by omega) (by omega) ?_ ?_
    · split
      · exact hC
      · rename_i hh; exact insO_ok hC (h.mv _ gj) (ne_has (by simpa using hh))
    · split
      · exact sC
      · intro q hq
        rcases insO_mem hq with rfl | hq
        · exact gj
        · exact sC q hq
theorem getI_mod' {os : List Op'} {n : Int} (h0 : 0 ≤ n) (hl : 0 < os.length) : getI os (Int.tmod n ((os.length : Nat) : Int)) = some (os.getD (n.toNat % os.length) default) := by
  obtain ⟨k, rfl⟩ : ∃ k : Nat, n = (k : Int) := ⟨n.toNat, by omega⟩
  rw [Int.toNat_natCast, show Int.tmod (k : Int) ((os.length : Nat) : Int) = ((k % os.length : Nat) : Int) from by
    rw [Int.tmod_eq_emod_of_nonneg (by omega)]; omega]
  exact getI_D os _ (Nat.mod_lt _ hl)
theorem pure_TreeRounds (y : El sScript_arraslaw16) (h : Bnd sScript_arraslaw16 y) : arraslaw16_TreeRounds y = some true := by
  obtain ⟨b, hb, hb2⟩ := heavy_eq y h
  unfold arraslaw16_TreeRounds
  rw [hb]
  simp only [Option.bind_some]
  cases b with
  | true => rfl
  | false =>
    obtain ⟨_, _, hL, hID, _, _⟩ := hb2 rfl
    obtain ⟨os, ho1, ho2, ho3⟩ := moves_eq y.2.1 12 (by omega) (by omega)
    simp only [cond_false, ho1, Option.bind_some]
    have hl : os.length ≤ 12 := by omega
    rw [show ((os, ((0 : Int), (y, ([], [])))) : S1) = (os, (((0 : Nat) : Int), (y, made []))) from rfl]
    generalize hf : (fun s : S1 => _) = f
    have main : ∃ C' : Tree, iter f (os, (((0 : Nat) : Int), (y, made []))) = some (.inl (y, C')) := by
      refine rounds_loop (ρ := Bool) (os := os) y ho2 (by omega) (f := f) ?_ ?_ os.length 0 [] (by omega) (by omega) ok_nil (by simp)
      · intro i C hi hC lC
        subst hf
        have e1 : (i : Int) < (os.length : Int) := by omega
        have ew2 : ∀ k : Nat, k ≤ 200 → IntKind.wrap .i64 (IntKind.wrap .i64 ((i : Int) * 5) + (k : Int)) = ((i * 5 + k : Nat) : Int) := by
          intro k hk
          have w1 : IntKind.wrap .i64 ((i : Int) * 5) = (i : Int) * 5 := Go.Dv.wrap_small (by omega) (by omega)
          have w2 : IntKind.wrap .i64 ((i : Int) * 5 + (k : Int)) = (i : Int) * 5 + (k : Int) := Go.Dv.wrap_small (by omega) (by omega)
          rw [w1, w2]; omega
        have hpos : 0 < os.length := by omega
        have hz : (((os.length : Nat) : Int) == 0) = false := by rw [beq_eq_false_iff_ne]; omega
        have hj : (i * 5 + y.2.2.length) % os.length < os.length := Nat.mod_lt _ hpos
        refine ⟨(i * 5 + y.2.2.length) % os.length, hj, ?_⟩
        have gj := ho2.mv _ (getD_mem hj)
        have dj : (os.getD ((i * 5 + y.2.2.length) % os.length) default).2.2.1.length < 9223372036854775807 := by have := (mvOk_deps gj).1; omega
        have hC1 := Apply_eq (o := os.getD ((i * 5 + y.2.2.length) % os.length) default) hC (by omega) dj
        rw [gj] at hC1
        simp only [if_true] at hC1
        have hmod := getI_mod' (os := os) (n := ((i * 5 + y.2.2.length : Nat) : Int)) (by omega) hpos
        rw [Int.toNat_natCast] at hmod
        generalize hC' : (if hasO C (os.getD ((i * 5 + y.2.2.length) % os.length) default).1 = true then C else insO C (os.getD ((i * 5 + y.2.2.length) % os.length) default)) = C'
        have okC : OkT C' := by
          rw [← hC']; split
          · exact hC
          · rename_i hh; exact insO_ok hC gj (ne_has (by simpa using hh))
        have lenC : C'.length ≤ 101 := by
          rw [← hC']; split
          · omega
          · rw [insO_len]; omega
        obtain ⟨Z, hZ⟩ : ∃ Z : Tree, (bif (arraslaw16_num (if hasO C (os.getD ((i * 5 + y.2.2.length) % os.length) default).1 = true then ((([], []) : Tree), (4 : Int)) else (made (insO C (os.getD ((i * 5 + y.2.2.length) % os.length) default)), 0)).2 == 0) then some (os, ((i : Int), (y, ((if hasO C (os.getD ((i * 5 + y.2.2.length) % os.length) default).1 = true then ((([], []) : Tree), (4 : Int)) else (made (insO C (os.getD ((i * 5 + y.2.2.length) % os.length) default)), 0)).1, (if hasO C (os.getD ((i * 5 + y.2.2.length) % os.length) default).1 = true then ((([], []) : Tree), (4 : Int)) else (made (insO C (os.getD ((i * 5 + y.2.2.length) % os.length) default)), 0)).1)))) else some (os, ((i : Int), (y, (made C, (if hasO C (os.getD ((i * 5 + y.2.2.length) % os.length) default).1 = true then ((([], []) : Tree), (4 : Int)) else (made (insO C (os.getD ((i * 5 + y.2.2.length) % os.length) default)), 0)).1))))) = some (os, ((i : Int), (y, (made C', Z)))) := by
          rw [← hC']
          cases hasO C (os.getD ((i * 5 + y.2.2.length) % os.length) default).1
          · exact ⟨_, rfl⟩
          · exact ⟨_, rfl⟩
        simp only [e1, decide_true, cond_true, hz, cond_false, ew2 _ hID, hmod, Option.bind_some, hC1, hZ]
        have hs : Srt (made C').1 := (nds0 C').1
        have ha : Acy (made C').1 := (nds0 C').2.1
        have hsm := (made_sm (os := C') (by omega)).1
        have hnl : (made C').1.length ≤ 101 := by have := (nds0 C').2.2; show (nds [] C').length ≤ _; omega
        rw [iter_run' (inv := fun k : Nat => ((os, ((i : Int), ((k : Int), (y, (made C', Z))))) : S2)) (k := (made C').1.length) (r := .inl (os, ((i : Int), (y, (made C', Z)))))]
        · simp only [Option.bind_some, wrap_nat (show i < 9223372036854775807 by omega)]
        · intro k hk
          have k1 : (k : Int) < (((made C').1.length : Nat) : Int) := by omega
          have hm : (made C').1.getD k default ∈ (made C').1 := getD_mem hk
          generalize hme : (made C').1.getD k default = m at hm
          have hlm := look_mem hs hm
          obtain ⟨n, hn⟩ := ha m.1
          have hpar : par (made C').1 m.1 = some m.2.1 := by simp [par, hlm]
          obtain ⟨n', rfl⟩ : ∃ n', n = n' + 1 := by
            cases n with
            | zero => simp only [EndsIn] at hn; rw [hpar] at hn; cases hn
            | succ n => exact ⟨n, rfl⟩
          have hA := Above_made okC (by omega) hn
          rw [hlm] at hA
          simp only [Option.isSome_some, if_true] at hA
          have hul := ups_len hn
          have hle := ends_le hn
          have hups : ups (made C').1 (n' + 1) m.1 = m.2.1 :: ups (made C').1 n' m.2.1 := by simp [ups, hpar]
          have hK := Kids_eq m.2.1 okC (by omega)
          have hkm : ∀ q, q ∈ kids (made C').1 m.2.1 ↔ q ∈ (made C').1 ∧ q.2.1 = m.2.1 := fun q => by
            rw [(kids_perm _ _).mem_iff, List.mem_filter, decide_eq_true_iff]
          have hklen : ((kids (made C').1 m.2.1).map (·.1)).length ≤ 101 := by rw [List.length_map]; have := kids_len (made C').1 m.2.1; omega
          obtain ⟨r1, hr1, hr1'⟩ := InStamps_eq (ups (made C').1 (n' + 1) m.1) m.1 (by omega)
          have hr1n : ¬ 0 ≤ r1 := by
            rw [hr1']
            intro hmem
            obtain ⟨q, hq, hq2⟩ := ups_mem hn hmem
            have := ends_unique hq2 hn; omega
          obtain ⟨r2, hr2, hr2'⟩ := InStamps_eq ((kids (made C').1 m.2.1).map (·.1)) m.1 (by omega)
          have hr2n : ¬ r2 < 0 := by
            have : 0 ≤ r2 := hr2'.2 (List.mem_map.2 ⟨m, (hkm m).2 ⟨hm, rfl⟩, rfl⟩)
            omega
          have c1 : (((ups (made C').1 (n' + 1) m.1).length : Nat) : Int) = (n' : Int) + 1 := by rw [hul]; omega
          have c2 : ((n' : Int) + 1 == 0) = false := by rw [beq_eq_false_iff_ne]; omega
          have c3 : ¬ (((made C').1.length : Nat) : Int) < (n' : Int) + 1 := by omega
          have c4 : getI (ups (made C').1 (n' + 1) m.1) 0 = some m.2.1 := by rw [hups]; rfl
          have hprev : (bif decide ((0 : Int) < (k : Int)) then ((getI (made C').1 (IntKind.wrap .i64 ((k : Int) - 1))).bind fun x10 => some (decide (0 ≤ arrasref6_Cmp (x10.1, m.1)))) else some false) = some false := by
            by_cases k0 : k = 0
            · subst k0; rfl
            · have k00 : (0 : Int) < (k : Int) := by omega
              have hw : IntKind.wrap .i64 ((k : Int) - 1) = ((k - 1 : Nat) : Int) := by rw [Go.Dv.wrap_small (by omega) (by omega)]; omega
              have hlt : slt ((made C').1.getD (k - 1) default).1 m.1 := by
                have hs' := hs
                unfold Srt at hs'
                rw [List.pairwise_iff_getElem] at hs'
                have := hs' (k - 1) k (by omega) hk (by omega)
                rw [← hme]
                simpa [List.getD_eq_getElem?_getD, hk, show k - 1 < (made C').1.length by omega] using this
              have hneg := (scmp_neg _ _).2 hlt
              have : ¬ 0 ≤ scmp ((made C').1.getD (k - 1) default).1 m.1 := by omega
              simp only [k00, decide_true, cond_true, hw, getI_D (made C').1 (k - 1) (by omega), Option.bind_some, ref_Cmp_eq, this, decide_false]
          simp only [k1, decide_true, cond_true, getI_D (made C').1 k hk, hme, Option.bind_some, hA, hK, num_eq, bne_self_eq_false, cond_false, c1, c2, c3, decide_false, c4, two_eq, Bool.not_true, hr1, hr1n, hr2, hr2n, hprev]
          rw [iter_run' (inv := fun j : Nat => ((os, ((i : Int), ((k : Int), ((kids (made C').1 m.2.1).map (·.1), ((j : Int), (y, (made C', (Z, m)))))))) : S3)) (k := ((kids (made C').1 m.2.1).map (·.1)).length) (r := .inl (os, ((i : Int), ((k : Int), (y, (made C', (Z, m)))))))]
          · simp only [Option.bind_some, wrap_nat (show k < 9223372036854775807 by omega)]
          · intro j hj
            have j1 : (j : Int) < ((((kids (made C').1 m.2.1).map (·.1)).length : Nat) : Int) := by omega
            have hq : ((kids (made C').1 m.2.1).map (·.1)).getD j default ∈ (kids (made C').1 m.2.1).map (·.1) := getD_mem hj
            generalize hqe : ((kids (made C').1 m.2.1).map (·.1)).getD j default = qi at hq
            obtain ⟨q, hq1, rfl⟩ := List.mem_map.1 hq
            obtain ⟨hq2, hq3⟩ := (hkm q).1 hq1
            have hF := Find_made okC (by omega) q.1
            rw [look_mem hs hq2] at hF
            simp only [j1, decide_true, cond_true, getI_D _ j hj, hqe, Option.bind_some, hF, num_eq, bne_self_eq_false, cond_false, two_eq, hq3, Bool.not_true, wrap_nat (show j < 9223372036854775807 by omega)]
          · simp only [Int.lt_irrefl, decide_false, cond_false]
        · simp only [Int.lt_irrefl, decide_false, cond_false]
      · intro C
        subst hf
        simp only [Int.lt_irrefl, decide_false, cond_false]
    obtain ⟨C', hC'⟩ := main
    rw [hC']
    simp [wakes_eq]
end Go.Tr
