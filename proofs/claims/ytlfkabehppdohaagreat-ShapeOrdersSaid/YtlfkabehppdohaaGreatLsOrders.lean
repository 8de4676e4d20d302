/- A part of the proof: LsOrders. -/
import Derived.Test.YtlfkabehppdohaaGreatLsLooks
set_option linter.unusedVariables false
set_option linter.unusedSimpArgs false
namespace Go.Tr
open Go Go.Dv
theorem Within_some (a : Int) : ∃ w, arraslaw0_Within (a, (16 : Int)) = some w := by
  unfold arraslaw0_Within
  have : IntKind.wrap .u64 16 = 16 := wrap_u64 (by omega) (by omega)
  simp [this]
structure OkO (os : List Op') : Prop where
  op : ∀ o ∈ os, opOk o = true
  srt : os.Pairwise fun a b => slt a.1 b.1
theorem oko_app {out : List Op'} {o : Op'} {i : Nat} (h : OkO out) (hm : opOk o = true) (hb : ∀ q ∈ out, q.1.1 ≤ (i : Int)) (ho : o.1.1 = (i : Int) + 1) : OkO (out ++ [o]) ∧ ∀ q ∈ out ++ [o], q.1.1 ≤ (i : Int) + 1 := by
  refine ⟨⟨fun q hq => ?_, ?_⟩, fun q hq => ?_⟩
  · rcases List.mem_append.1 hq with hq | hq
    · exact h.op q hq
    · rw [List.mem_singleton.1 hq]; exact hm
  · rw [List.pairwise_append]
    refine ⟨h.srt, by simp, fun a ha b hb' => ?_⟩
    rw [List.mem_singleton.1 hb']
    have := hb a ha
    exact .inl (by omega)
  · rcases List.mem_append.1 hq with hq | hq
    · have := hb q hq; omega
    · rw [List.mem_singleton.1 hq]; omega
theorem own_loop {l : List Op'} {most : Int} (hl : l.length ≤ 140737488355328) (hmost : 0 ≤ most ∧ most ≤ 100) {f : (List Op' × (Int × (List Op' × Int))) → Option ((List Op' × (Int × (List Op' × Int))) ⊕ List Op')}
    (hs : ∀ (i : Nat) (out : List Op'), i < l.length → (out.length : Int) < most → ∃ o : Op', o.1.1 = (i : Int) + 1 ∧ f (l, (most, (out, (i : Int)))) = if opOk o = true then some (.inl (l, (most, (out ++ [o], ((i + 1 : Nat) : Int))))) else some (.inl (l, (most, (out, ((i + 1 : Nat) : Int))))))
    (he : ∀ (i : Nat) (out : List Op'), ¬ (i < l.length ∧ (out.length : Int) < most) → f (l, (most, (out, (i : Int)))) = some (.inr out)) :
    ∀ (d i : Nat) (out : List Op'), l.length - i = d → OkO out → (∀ q ∈ out, q.1.1 ≤ (i : Int)) → (out.length : Int) ≤ most → ∃ out', iter f (l, (most, (out, (i : Int)))) = some out' ∧ OkO out' ∧ (out'.length : Int) ≤ most
  | 0, i, out, h0, h1, h2, h3 => ⟨out, iter_inr (he i out (by omega)), h1, h3⟩
  | d + 1, i, out, h0, h1, h2, h3 => by
    by_cases hc : (out.length : Int) < most
    · obtain ⟨o, o1, o3⟩ := hs i out (by omega) hc
      by_cases hm : opOk o = true
      · rw [if_pos hm] at o3
        rw [iter_inl o3]
        obtain ⟨g1, g2⟩ := oko_app h1 hm h2 o1
        exact own_loop hl hmost hs he d (i + 1) (out ++ [o]) (by omega) g1 (fun q hq => by have := g2 q hq; omega) (by simp only [List.length_append, List.length_cons, List.length_nil]; omega)
      · rw [if_neg hm] at o3
        rw [iter_inl o3]
        exact own_loop hl hmost hs he d (i + 1) out (by omega) h1 (fun q hq => by have := h2 q hq; omega) h3
    · exact ⟨out, iter_inr (he i out (by omega)), h1, h3⟩
theorem own_eq (l : List Op') (most : Int) (hl : l.length ≤ 140737488355328) (hmost : 0 ≤ most ∧ most ≤ 100) : ∃ out, arraslaw17_own (l, most) = some out ∧ OkO out ∧ (out.length : Int) ≤ most := by
  unfold arraslaw17_own
  obtain ⟨out, h1, h2, h3⟩ := own_loop (l := l) (most := most) hl hmost (f := fun s : (List Op' × (Int × (List Op' × Int))) =>
      bif (bif (decide ((s.2.2.2 < ((List.length s.1) : Int)))) then (decide ((((List.length s.2.2.1) : Int) < s.2.1))) else false) then (((getI s.1 s.2.2.2)).bind fun x1 =>
        ((arraslaw0_Within (x1.1.2, (16 : Int)))).bind fun x2 =>
        bif (((decide ((0 ≤ 16))) && (decide ((16 ≤ 16)))) && (room (Int.toNat 16) 8)) then (((arrasref10_Op (((IntKind.wrap .i64 (s.2.2.2 + 1)), x2), (1 : Int), (List.replicate (Int.toNat 16) (0 : Int)), x1.2.2.2))).bind fun x3 =>
          bif x3 then (bif (room (List.length (s.2.2.1 ++ [(((IntKind.wrap .i64 (s.2.2.2 + 1)), x2), (1 : Int), (List.replicate (Int.toNat 16) (0 : Int)), x1.2.2.2)])) 120) then some (.inl (s.1, (s.2.1, ((s.2.2.1 ++ [(((IntKind.wrap .i64 (s.2.2.2 + 1)), x2), (1 : Int), (List.replicate (Int.toNat 16) (0 : Int)), x1.2.2.2)]), (IntKind.wrap .i64 (s.2.2.2 + 1)))))) else
            none) else
          some (.inl (s.1, (s.2.1, (s.2.2.1, (IntKind.wrap .i64 (s.2.2.2 + 1))))))) else
        none) else
      some (.inr s.2.2.1))
    (fun i out hi ho => by
      obtain ⟨w, hw⟩ := Within_some (l.getD i default).1.2
      have e1 : (i : Int) < (l.length : Int) := by omega
      have e2 := wrap_nat (show i < 9223372036854775807 by omega)
      refine ⟨((((i + 1 : Nat) : Int), w), (1 : Int), (List.replicate (Int.toNat 16) (0 : Int)), (l.getD i default).2.2.2), by show ((i + 1 : Nat) : Int) = _; omega, ?_⟩
      have hr := ref_Op_eq ((((i + 1 : Nat) : Int), w), (1 : Int), (List.replicate (Int.toNat 16) (0 : Int)), (l.getD i default).2.2.2) (by simp)
      have e3 : room (List.length (out ++ [((((i + 1 : Nat) : Int), w), (1 : Int), (List.replicate (Int.toNat 16) (0 : Int)), (l.getD i default).2.2.2)])) 120 = true := room_small (by simp only [List.length_append, List.length_cons, List.length_nil]; omega) (by decide)
      have e4 : (((decide ((0 ≤ 16))) && (decide ((16 ≤ 16)))) && (room (Int.toNat 16) 8)) = true := by decide
      simp only [e1, ho, decide_true, cond_true, getI_D l i hi, Option.bind_some, hw, e4, e2, hr, e3]
      cases opOk ((((i + 1 : Nat) : Int), w), (1 : Int), (List.replicate (Int.toNat 16) (0 : Int)), (l.getD i default).2.2.2) <;> rfl)
    (fun i out hc => by
      by_cases e1 : (i : Int) < (l.length : Int)
      · have e2 : ¬ (out.length : Int) < most := by omega
        simp [e1, e2]
      · simp [e1]) l.length 0 [] (by omega) ⟨by simp, by simp⟩ (by simp) (by simp; omega)
  refine ⟨out, ?_, h2, h3⟩
  rw [show (((l, most).1, ((l, most).2, (([] : List Op'), (0 : Int)))) : List Op' × (Int × (List Op' × Int))) = (l, (most, ([], ((0 : Nat) : Int)))) from rfl, h1]
  rfl
theorem fine_nil {l : List Op'} (h : OkO l) : Fine ([], []) l := ⟨fun o ho => ⟨h.op o ho, by simp [clash, hasO]⟩, h.srt.imp fun hh => slt_ne hh⟩
theorem fine_left {s : St} {a b : List Op'} (h : Fine s (a ++ b)) : Fine s a := ⟨fun o ho => h.ok o (List.mem_append_left _ ho), (List.pairwise_append.1 h.ne).1⟩
theorem fine_fold : ∀ {a b : List Op'} {s : St}, Fine s (a ++ b) → Fine (foldS s a) b
  | [], b, s, h => h
  | x :: a, b, s, h => fine_fold (a := a) (s := putS s x) (fine_tail h)
theorem putS_len (s : St) (o : Op') : (putS s o).1.length ≤ s.1.length + 1 ∧ (putS s o).2.length ≤ s.2.length + 1 := by
  unfold putS
  split
  · exact ⟨by rw [insO_len]; exact Nat.le_refl _, Nat.le_succ _⟩
  · exact ⟨Nat.le_succ _, gput_len⟩
theorem foldS_len : ∀ (l : List Op') (s : St), (foldS s l).1.length ≤ s.1.length + l.length ∧ (foldS s l).2.length ≤ s.2.length + l.length
  | [], s => ⟨Nat.le_refl _, Nat.le_refl _⟩
  | o :: l, s => by
    have a := foldS_len l (putS s o)
    have b := putS_len s o
    show (foldS (putS s o) l).1.length ≤ _ ∧ _
    simp only [List.length_cons]
    exact ⟨by omega, by have := a.2; show (foldS (putS s o) l).2.length ≤ _; omega⟩
theorem apply_at {l : List Op'} (hf : Fine ([], []) l) (hl : l.length ≤ 1000) (hd : ∀ o ∈ l, o.2.2.1.length < 9223372036854775807) {i : Nat} (hi : i < l.length) :
    shape_Apply (shp (foldS ([], []) (l.take i)), l.getD i default) = some (shp (foldS ([], []) (l.take (i + 1))), 0) := by
  have e : l.take i ++ l.drop i = l := List.take_append_drop i l
  have e2 : l.drop i = l.getD i default :: l.drop (i + 1) := by
    rw [List.drop_eq_getElem_cons hi, List.getD_eq_getElem?_getD, List.getElem?_eq_getElem hi]; rfl
  rw [← e] at hf
  have ok := foldS_ok oks_nil (fine_left hf)
  have f2 := fine_fold hf
  rw [e2] at f2
  have h3 := f2.ok _ (List.mem_cons_self ..)
  have hlen := foldS_len (l.take i) ([], [])
  have htl : (l.take i).length ≤ 1000 := by rw [List.length_take]; omega
  simp only [List.length_nil, Nat.zero_add] at hlen
  rw [shape_Apply_eq ok (by omega) (by omega) (hd _ (getD_mem hi)), if_pos h3.1, h3.2, take_snoc hi]
  simp only [Bool.false_eq_true, if_false, foldS, List.foldl_append, List.foldl_cons, List.foldl_nil]
theorem oko_deps {l : List Op'} (h : OkO l) : ∀ o ∈ l, o.2.2.1.length < 9223372036854775807 := fun o ho => by
  have := h.op o ho
  simp only [opOk, hdOk, Bool.and_eq_true] at this
  have h2 := this.1.1.1.1.1.2
  simp only [vecOk, Bool.and_eq_true, decide_eq_true_eq] at h2
  omega
theorem pure_ShapeOrders (y : El sScript_arraslaw17) (h : Bnd sScript_arraslaw17 y) : arraslaw17_ShapeOrders y = some true := by
  obtain ⟨b, hb, hb2⟩ := Heavy17_eq y h
  unfold arraslaw17_ShapeOrders
  rw [hb]
  simp only [Option.bind_some]
  cases b with
  | true => rfl
  | false =>
    have L := hb2 rfl
    obtain ⟨l, h1, h2, h3⟩ := own_eq y.2.1 12 (by have := L.l; omega) (by omega)
    have hl : l.length ≤ 12 := by omega
    simp only [cond_false, h1, Option.bind_some]
    have hf := fine_nil h2
    have hfr : Fine ([], []) l.reverse := ⟨fun o ho => hf.ok o (List.mem_reverse.1 ho), by
      rw [List.pairwise_reverse]; exact hf.ne.imp fun hh => Ne.symm hh⟩
    have hd := oko_deps h2
    have hdr : ∀ o ∈ l.reverse, o.2.2.1.length < 9223372036854775807 := fun o ho => hd o (List.mem_reverse.1 ho)
    have ok := foldS_ok oks_nil hf
    have hlen := foldS_len l ([], [])
    simp only [List.length_nil, Nat.zero_add] at hlen
    have hsm := sms_shp ok (by omega) (by omega)
    rw [iter_run' (inv := fun i : Nat => (l, ((i : Int), (y, (shp (foldS ([], []) (l.take i)), shp (foldS ([], []) (l.reverse.take i))))))) (k := l.length) (r := .inl (y, (shp (foldS ([], []) l), shp (foldS ([], []) l.reverse))))]
    · simp only [Option.bind_some]
      rw [foldS_rev oks_nil hf]
      simp only [EqShape_eq _ (shp (foldS ([], []) l)) hsm, decide_true, cond_true, Option.bind_some, shape_Check, IsShape_eq _ hsm, shpB_iff.2 ⟨_, ok, rfl⟩, Bool.not_true, cond_false, num17_eq, ref_Regs_eq [] (by decide), wakes17_eq]
      rfl
    · intro i hi
      have e1 : (i : Int) < (l.length : Int) := by omega
      have ew : IntKind.wrap .i64 (IntKind.wrap .i64 (((l.length : Nat) : Int) - 1) - (i : Int)) = ((l.length - 1 - i : Nat) : Int) := by
        rw [Go.Dv.wrap_small (n := ((l.length : Nat) : Int) - 1) (by omega) (by omega), Go.Dv.wrap_small] <;> omega
      have er : l.getD (l.length - 1 - i) default = l.reverse.getD i default := by
        rw [List.getD_eq_getElem?_getD, List.getD_eq_getElem?_getD, List.getElem?_reverse hi]
      have a1 := apply_at hf (by omega) hd hi
      have a2 := apply_at hfr (by rw [List.length_reverse]; omega) hdr (i := i) (by rw [List.length_reverse]; exact hi)
      simp only [e1, decide_true, cond_true, getI_D l i hi, Option.bind_some, a1, ew, getI_D l (l.length - 1 - i) (by omega), er, a2, num17_eq, bne_self_eq_false, cond_false, wrap_nat (show i < 9223372036854775807 by omega)]
    · have : l.reverse.take l.length = l.reverse := List.take_of_length_le (by rw [List.length_reverse]; exact Nat.le_refl _)
      simp only [Int.lt_irrefl, decide_false, cond_false, List.take_length, this]
end Go.Tr
