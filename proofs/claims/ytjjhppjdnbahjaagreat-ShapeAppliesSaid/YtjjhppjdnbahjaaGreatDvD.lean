/- The engine: a region whose order is left open comes, in each order, to what it comes to in one (draw_ok). -/
import Derived.Test.YtjjhppjdnbahjaaGreatDvC
set_option linter.unusedVariables false
set_option linter.unusedSimpArgs false
namespace Go.Dv
variable {P : Program}

def u4l (acc : List Nat) : List Edge → Nat
  | [] => 0
  | e :: es => if Region.binds .any e then (2 ^ e.on ||| acc.getD e.on 0) ||| u4l acc es else u4l acc es
def masks : List Oper → List Nat → List Nat
  | [], acc => acc
  | o :: r, acc => masks r (acc ++ [u4l acc o.after.toList])

theorem u44 {acc : List Nat} {x : Nat} : ∀ {es : List Edge}, (u4l acc es).testBit x = true → ∃ e ∈ es, Region.binds .any e = true ∧ (x = e.on ∨ (acc.getD e.on 0).testBit x = true)
  | [], h => by simp [u4l] at h
  | e :: es, h => by
    simp only [u4l] at h
    split at h
    · rename_i hb
      rw [Nat.testBit_or, Bool.or_eq_true, Nat.testBit_or, Bool.or_eq_true] at h
      rcases h with (h | h) | h
      · rw [Nat.testBit_two_pow] at h
        exact ⟨e, by simp, hb, .inl (by simp at h; exact h.symm)⟩
      · exact ⟨e, by simp, hb, .inr h⟩
      · obtain ⟨e', h1, h2⟩ := u44 h
        exact ⟨e', List.mem_cons_of_mem _ h1, h2⟩
    · obtain ⟨e', h1, h2⟩ := u44 h
      exact ⟨e', List.mem_cons_of_mem _ h1, h2⟩
theorem u40 : ∀ (os : List Oper) (acc : List Nat) (j : Nat), j < acc.length → (masks os acc).getD j 0 = acc.getD j 0
  | [], acc, j, h => rfl
  | o :: r, acc, j, h => by
    rw [masks, u40 r _ j (by simp; omega)]
    simp only [List.getD_eq_getElem?_getD]
    rw [List.getElem?_append_left h]
theorem u41 : ∀ (os : List Oper) (acc : List Nat) (k : Nat) (o : Oper) (x : Nat), os[k]? = some o → ((masks os acc).getD (acc.length + k) 0).testBit x = true →
    ∃ e ∈ o.after.toList, Region.binds .any e = true ∧ (x = e.on ∨ ((masks os acc).getD e.on 0).testBit x = true)
  | [], _, _, _, _, h, _ => by simp at h
  | o' :: r, acc, 0, o, x, h, hb => by
    simp at h; subst h
    rw [masks, u40 r _ _ (by simp)] at hb
    simp only [List.getD_eq_getElem?_getD, Nat.add_zero] at hb
    rw [List.getElem?_append_right (Nat.le_refl _)] at hb
    simp at hb
    obtain ⟨e, h1, h2, h3⟩ := u44 hb
    refine ⟨e, h1, h2, h3.imp id fun h4 => ?_⟩
    have hlt : e.on < acc.length := by
      rcases Nat.lt_or_ge e.on acc.length with g | g
      · exact g
      · rw [List.getD_eq_getElem?_getD, List.getElem?_eq_none g] at h4; simp at h4
    rw [masks, u40 r _ _ (by simp; omega)]
    simp only [List.getD_eq_getElem?_getD] at h4 ⊢
    rw [List.getElem?_append_left hlt]; exact h4
  | o' :: r, acc, k + 1, o, x, h, hb => by
    rw [masks] at hb ⊢
    exact u41 r _ k o x (by simpa using h) (by simpa [Nat.add_assoc, Nat.add_comm 1 k] using hb)

def edgesIn (done : List Nat) (o : Oper) : Bool := o.after.toList.all fun e => !Region.binds .any e || done.contains e.on
def linear (ops : Array Oper) : List Nat → List Nat → Bool
  | _, [] => true
  | done, i :: r => (match ops[i]? with | some o => edgesIn done o | none => false) && linear ops (done ++ [i]) r
def u2v (M : List Nat) : List DRow → Bool
  | [] => true
  | x :: r => (r.all fun q => (M.getD q.i 0).testBit x.i || indep x q) && u2v M r

def rank : DOp → Nat
  | o => if o.cls = 2 then 2 else if o.cls = 3 ∨ o.cls = 4 then 1 else 0
def u6d (M : List Nat) (rk : Nat) (done : Nat) : List (Nat × Nat) → Option Nat
  | [] => none
  | (i, r) :: ds => if r == rk && (M.getD i 0 &&& done) == M.getD i 0 then some i else u6d M rk done ds
def u5g (i : Nat) : List (Nat × Nat) → List (Nat × Nat)
  | [] => []
  | p :: ds => if p.1 == i then ds else p :: u5g i ds
def u4E (M : List Nat) : Nat → Nat → List (Nat × Nat) → List Nat
  | 0, _, _ => []
  | n + 1, done, ds =>
    match u6d M 0 done ds with
    | some i => i :: u4E M n (done ||| 2 ^ i) (u5g i ds)
    | none => match u6d M 1 done ds with
      | some i => i :: u4E M n (done ||| 2 ^ i) (u5g i ds)
      | none => match u6d M 2 done ds with
        | some i => i :: u4E M n (done ||| 2 ^ i) (u5g i ds)
        | none => []

def isLoad : DOp → Bool
  | .load _ _ => true
  | _ => false
def isIdx : DOp → Bool
  | .indexAddr _ (.tmp _) _ => true
  | _ => false
def told (quiet : List Nat) (op : DOp) : Bool := isLoad op || ((quiet.drop 1).head? == some 6000000 && isIdx op)
def cksOf (M : List Nat) (loads : List Nat) : List Nat → List Nat → List (Nat × List Nat)
  | _, [] => []
  | ahead, j :: r => (match M.getD j 0 with | m => (j, ahead.filter fun i => !m.testBit i)) :: cksOf M loads (if loads.contains j then j :: ahead else ahead) r
def pairsQ : List (DRow × Nat) → Bool
  | [] => true
  | x :: r => (r.all fun q => q.2.testBit x.1.i || indep x.1 q.1) && pairsQ r
theorem u6G {M : List Nat} : ∀ {ds : List DRow}, pairsQ (ds.map fun d => (d, M.getD d.i 0)) = true → u2v M ds = true
  | [], _ => rfl
  | x :: r, h => by
    simp only [List.map_cons, pairsQ, Bool.and_eq_true] at h
    simp only [u2v, Bool.and_eq_true]
    refine ⟨?_, u6G h.2⟩
    have h1 := h.1
    rw [List.all_eq_true] at h1 ⊢
    exact fun q hq => h1 (q, M.getD q.i 0) (List.mem_map.2 ⟨q, hq, rfl⟩)

def trIdx (P : Program) (esc quiet : List Nat) (ops : Array Oper) (ck : Nat → List Nat) : List Nat → Option (List DRow)
  | [] => some []
  | i :: r => match ops[i]? with
    | some o => match u35 P esc (some quiet) ops [] o, trIdx P esc quiet ops ck r with
      | some d, some l => some (⟨i, ck i, d⟩ :: l)
      | _, _ => none
    | none => none

def nodupB : List Nat → Bool
  | [] => true
  | x :: r => !r.contains x && nodupB r
def u66 (n : Nat) (ord : List Nat) : Bool := ord.length == n && ((List.range n).all fun i => ord.contains i) && nodupB ord && ord.all fun i => decide (i < n)

def trDraw (P : Program) (esc quiet : List Nat) (ops : Array Oper)   : Option (List DRow) :=
  let M := masks ops.toList []
  match trIdx P esc quiet ops (fun _ => []) (List.range ops.size) with
  | none => none
  | some ds =>
    let ord := u4E M ops.size 0 (ds.map fun p => (p.i, rank p.o.op))
    let cks := cksOf M ((ds.filter fun p => told quiet p.o.op).map (·.i)) [] ord
    match trIdx P esc quiet ops (fun j => (cks.lookup j).getD []) ord with
    | none => none
    | some ds => if u66 ops.size ord && linear ops [] ord && pairsQ (ds.map fun d => (d, M.getD d.i 0)) then some ds else none

theorem u4N {esc quiet : List Nat} {ops : Array Oper} {ck : Nat → List Nat} : ∀ {ord : List Nat} {ds : List DRow}, trIdx P esc quiet ops ck ord = some ds →
    ds.map (·.i) = ord ∧ ∀ p ∈ ds, ∃ o, ops[p.i]? = some o ∧ u35 P esc (some quiet) ops [] o = some p.o
  | [], ds, h => by simp only [trIdx, Option.some.injEq] at h; subst h; simp
  | i :: r, ds, h => by
    simp only [trIdx] at h
    split at h
    · rename_i o ho
      split at h
      · rename_i d l hd hl
        cases h
        obtain ⟨g1, g2⟩ := u4N hl
        refine ⟨by simp [g1], fun p hp => ?_⟩
        cases hp with
        | head => exact ⟨o, ho, hd⟩
        | tail _ hp => exact g2 p hp
      · cases h
    · cases h

structure Left (P : Program) (esc quiet : List Nat) (ops : Array Oper) (listed : Array Bool) (os : List DRow) : Prop where
  size : listed.size = ops.size
  mem : ∀ i, i < ops.size → (listed[i]? = some false ↔ i ∈ os.map (·.i))
  nodup : (os.map (·.i)).Nodup
  lt : ∀ p ∈ os, p.i < ops.size
  tr : ∀ p ∈ os, ∃ o, ops[p.i]? = some o ∧ u35 P esc (some quiet) ops [] o = some p.o
  pairs : u2v (masks ops.toList []) os = true
  closed : ∀ j, listed[j]? = some true → ∀ x, ((masks ops.toList []).getD j 0).testBit x = true → listed[x]? = some true
  linear : ∀ (q : List DRow) (p : DRow) (r : List DRow), os = q ++ p :: r → ∀ o, ops[p.i]? = some o → ∀ e ∈ o.after.toList, Region.binds .any e = true → listed[e.on]? = some true ∨ e.on ∈ q.map (·.i)


theorem pairs_at {M : List Nat} : ∀ {q : List DRow} {p : DRow} {r : List DRow}, u2v M (q ++ p :: r) = true → ∀ x ∈ q, (M.getD p.i 0).testBit x.i = true ∨ indep x p = true
  | [], _, _, _, x, hx => by cases hx
  | y :: q, p, r, h, x, hx => by
    simp only [List.cons_append, u2v, Bool.and_eq_true] at h
    cases hx with
    | head =>
      have := List.all_eq_true.1 h.1 p (by simp)
      simpa using this
    | tail _ hx => exact pairs_at h.2 x hx
theorem u5A {M : List Nat} : ∀ {q : List DRow} {p : DRow} {r : List DRow}, u2v M (q ++ p :: r) = true → u2v M (q ++ r) = true
  | [], p, r, h => by
    simp only [List.nil_append, u2v, Bool.and_eq_true] at h ⊢; exact h.2
  | y :: q, p, r, h => by
    simp only [List.cons_append, u2v, Bool.and_eq_true] at h ⊢
    refine ⟨List.all_eq_true.2 fun x hx => List.all_eq_true.1 h.1 x ?_, u5A h.2⟩
    simp only [List.mem_append, List.mem_cons] at hx ⊢
    rcases hx with hx | hx
    · exact .inl hx
    · exact .inr (.inr hx)

theorem u3Z {ops : Array Oper} {listed : Array Bool} {i : Nat} (hs : listed.size = ops.size) : i ∈ Region.ready .any ops listed ↔ i < ops.size ∧ listed[i]? = some false ∧ ∃ o, ops[i]? = some o ∧ ∀ e ∈ o.after.toList, Region.binds .any e = true → listed[e.on]? = some true := by
  unfold Region.ready
  rw [List.mem_filter, List.mem_range]
  constructor
  · rintro ⟨h1, h2⟩
    rw [Bool.and_eq_true] at h2
    obtain ⟨h2, h3⟩ := h2
    refine ⟨h1, ?_, ?_⟩
    · rw [Array.getD_eq_getD_getElem?] at h2
      cases e : listed[i]? with
      | none => rw [e] at h2; simp at h2
      | some b => rw [e] at h2; cases b <;> simp_all
    · cases e : ops[i]? with
      | none => rw [e] at h3; simp at h3
      | some o =>
        rw [e] at h3
        simp only [Option.map_some, Option.getD_some] at h3
        refine ⟨o, rfl, fun ed hed hb => ?_⟩
        have := (Array.all_eq_true_iff_forall_mem.1 h3) ed (by simpa using hed)
        rw [hb] at this
        simp only [Bool.not_true, Bool.false_or] at this
        rw [Array.getD_eq_getD_getElem?] at this
        cases e2 : listed[ed.on]? with
        | none => rw [e2] at this; simp at this
        | some b => rw [e2] at this; simp at this; rw [this]
  · rintro ⟨h1, h2, o, h3, h4⟩
    refine ⟨h1, ?_⟩
    rw [Bool.and_eq_true]
    constructor
    · rw [Array.getD_eq_getD_getElem?, h2]; rfl
    · rw [h3]
      simp only [Option.map_some, Option.getD_some]
      refine Array.all_eq_true_iff_forall_mem.2 fun ed hed => ?_
      cases hb : Region.binds .any ed with
      | false => rfl
      | true =>
        simp only [Bool.not_true, Bool.false_or]
        rw [Array.getD_eq_getD_getElem?, h4 ed (by simpa using hed) hb]; rfl

theorem left_wp {K : Oracle} (OK : OracleOk P K) {esc quiet : List Nat} {ops : Array Oper} {Q : Exit → Act → World → Prop} {l' : List DV} {h' : Hp} :
    ∀ (n : Nat) (listed : Array Bool) (os : List DRow) (X : Cx) (h : Hp) (w : World) (l : List DV) (g : Log) (a : Act), os.length = n → Left P esc quiet ops listed os → Sim X h w → TM X l a → Go.Dv.draws K os l h g = some (l', h') →
      (∀ X' a' w', X.le X' → Sim X' h' w' → TM X' l' a' → a'.defers = a.defers → Q .normal a' w') → wpAny P .any ops Q n listed a w := by
  intro n
  induction n with
  | zero =>
    intro listed os X h w l g a hn L S T hr hk
    have he : os = [] := List.eq_nil_of_length_eq_zero hn
    subst he
    simp only [Go.Dv.draws, Option.some.injEq, Prod.mk.injEq] at hr
    obtain ⟨rfl, rfl⟩ := hr
    refine ⟨?_, hk X a w (Cx.le.refl X) S T rfl⟩
    apply List.eq_nil_iff_forall_not_mem.2
    intro i hi
    obtain ⟨h1, h2, _⟩ := (u3Z L.size).1 hi
    have := (L.mem i h1).1 h2
    simp at this
  | succ n ih =>
    intro listed os X h w l g a hn L S T hr hk
    constructor
    · intro hnil
      cases os with
      | nil => simp at hn
      | cons p r =>
        exfalso
        have hp := L.lt p (by simp)
        obtain ⟨o, ho, _⟩ := L.tr p (by simp)
        have : p.i ∈ Region.ready .any ops listed := (u3Z L.size).2 ⟨hp, (L.mem p.i hp).2 (by simp), o, ho, fun e he hb => by
          rcases L.linear [] p r rfl o ho e he hb with g | g
          · exact g
          · simp at g⟩
        rw [hnil] at this
        cases this
    · intro i hi
      obtain ⟨h1, h2, o, ho, hed⟩ := (u3Z L.size).1 hi
      have hmem := (L.mem i h1).1 h2
      obtain ⟨p, hp, rfl⟩ := List.mem_map.1 hmem
      obtain ⟨q, r, rfl⟩ := List.append_of_mem hp
      -- none of those ahead must stand ahead
      have hno : ∀ x ∈ q, ((masks ops.toList []).getD p.i 0).testBit x.i = false := by
        intro x hx
        cases hb : ((masks ops.toList []).getD p.i 0).testBit x.i with
        | false => rfl
        | true =>
          exfalso
          have hxf : listed[x.i]? = some false := (L.mem x.i (L.lt x (by simp [hx]))).2 (List.mem_map.2 ⟨x, by simp [hx], rfl⟩)
          obtain ⟨e, e1, e2, e3⟩ := u41 ops.toList [] p.i o x.i (by simpa using ho) (by simpa using hb)
          have hl := hed e e1 e2
          rcases e3 with e3 | e3
          · rw [e3, hl] at hxf; cases hxf
          · rw [L.closed e.on hl x.i e3] at hxf; cases hxf
      have hind : ∀ y ∈ q, indep y p = true := by
        intro y hy
        rcases pairs_at L.pairs y hy with g | g
        · rw [hno y hy] at g; cases g
        · exact g
      have hr2 : Go.Dv.draws K (p :: (q ++ r)) l h g = some (l', h') := u3J q hind l h g hr
      -- what is left behind it
      have L' : Left P esc quiet ops (listed.setIfInBounds p.i true) (q ++ r) := by
        have hget : ∀ j : Nat, (listed.setIfInBounds p.i true)[j]? = if p.i = j then (if j < listed.size then some true else none) else listed[j]? := fun j => by
          rw [Array.getElem?_setIfInBounds]
          split
          · rename_i e; rw [e]
          · rfl
        have keep : ∀ j : Nat, listed[j]? = some true → (listed.setIfInBounds p.i true)[j]? = some true := by
          intro j hj
          rw [hget]
          split
          · rw [if_pos]; exact (Array.getElem?_eq_some_iff.1 hj).1
          · exact hj
        have hnd := L.nodup
        rw [List.map_append, List.map_cons, List.nodup_append] at hnd
        obtain ⟨n1, n2, n3⟩ := hnd
        rw [List.nodup_cons] at n2
        have hpq : p.i ∉ (q ++ r).map (·.i) := by
          rw [List.map_append, List.mem_append]
          rintro (g | g)
          · exact n3 _ g _ (by simp) rfl
          · exact n2.1 g
        refine ⟨by simp [L.size], fun j hj => ?_, ?_, fun x hx => L.lt x ?_, fun x hx => L.tr x ?_, u5A L.pairs, fun j hj x hx => ?_, fun q' p' r' he o' ho' e he1 he2 => ?_⟩
        · rw [hget]
          by_cases hpj : p.i = j
          · subst hpj
            rw [if_pos rfl, if_pos (by rw [L.size]; exact hj)]
            exact ⟨fun g => (by cases g), fun g => absurd g hpq⟩
          · rw [if_neg hpj, L.mem j hj]
            simp only [List.map_append, List.map_cons, List.mem_append, List.mem_cons]
            constructor
            · rintro (g | g | g)
              · exact .inl g
              · exact absurd g.symm hpj
              · exact .inr g
            · rintro (g | g)
              · exact .inl g
              · exact .inr (.inr g)
        · rw [List.map_append, List.nodup_append]
          exact ⟨n1, n2.2, fun a ha b hb => n3 a ha b (List.mem_cons_of_mem _ hb)⟩
        · simp only [List.mem_append, List.mem_cons] at hx ⊢; exact hx.imp id .inr
        · simp only [List.mem_append, List.mem_cons] at hx ⊢; exact hx.imp id .inr
        · rw [hget] at hj
          split at hj
          · rename_i hpj
            subst hpj
            obtain ⟨e, e1, e2, e3⟩ := u41 ops.toList [] p.i o x (by simpa using ho) (by simpa using hx)
            have hl := hed e e1 e2
            rcases e3 with e3 | e3
            · rw [e3]; exact keep _ hl
            · exact keep _ (L.closed e.on hl x e3)
          · exact keep _ (L.closed j hj x hx)
        · rw [List.append_eq_append_iff] at he
          rcases he with ⟨m, he3, he4⟩ | ⟨m, he3, he4⟩
          · -- it stands in r
            rcases m with _ | ⟨y, m⟩
            · simp only [List.append_nil] at he3
              simp only [List.nil_append] at he4
              subst he3
              rcases L.linear (q' ++ [p]) p' r' (by simp [he4]) o' ho' e he1 he2 with g | g
              · exact .inl (keep _ g)
              · simp only [List.map_append, List.map_cons, List.map_nil, List.mem_append, List.mem_singleton] at g
                rcases g with g | g
                · exact .inr g
                · refine .inl ?_
                  rw [hget, if_pos g.symm, if_pos (by rw [L.size, g]; exact h1)]
            · subst he3
              rw [he4] at L
              rcases L.linear (q ++ p :: y :: m) p' r' (by simp) o' ho' e he1 he2 with g | g
              · exact .inl (keep _ g)
              · simp only [List.map_append, List.map_cons, List.mem_append, List.mem_cons] at g ⊢
                rcases g with g | g | g | g
                · exact .inr (.inl g)
                · refine .inl ?_
                  rw [hget, if_pos g.symm, if_pos (by rw [L.size, g]; exact h1)]
                · exact .inr (.inr (.inl g))
                · exact .inr (.inr (.inr g))
          · -- it stands in q
            rcases m with _ | ⟨y, m⟩
            · simp only [List.append_nil] at he3
              simp only [List.nil_append] at he4
              subst he3
              rw [← he4] at L
              rcases L.linear (q ++ [p]) p' r' (by simp) o' ho' e he1 he2 with g | g
              · exact .inl (keep _ g)
              · simp only [List.map_append, List.map_cons, List.map_nil, List.mem_append, List.mem_singleton] at g
                rcases g with g | g
                · exact .inr g
                · refine .inl ?_
                  rw [hget, if_pos g.symm, if_pos (by rw [L.size, g]; exact h1)]
            · simp only [List.cons_append, List.cons.injEq] at he4
              obtain ⟨rfl, rfl⟩ := he4
              subst he3
              rcases L.linear q' p' (m ++ p :: r) (by simp) o' ho' e he1 he2 with g | g
              · exact .inl (keep _ g)
              · exact .inr g
      obtain ⟨o2, ho2, htr⟩ := L.tr p (by simp)
      rw [ho] at ho2
      cases ho2
      have cont : ∀ (v : DV) (h1 : Hp) (g' : Log), Go.Dv.draws K (q ++ r) (putT l p.o.dst v) h1 g' = some (l', h') → ∀ X' a' w', X.le X' → Sim X' h1 w' → TM X' (putT l p.o.dst v) a' → a'.defers = a.defers → wpAny P .any ops Q n (listed.setIfInBounds p.i true) a' w' :=
        fun v h1 g' hr1 X' a' w' le S' T' hdf => ih _ (q ++ r) X' h1 w' _ g' a' (by simp at hn ⊢; omega) L' S' T' hr1 fun X2 a2 w2 le2 S2 T2 hdf2 => hk X2 a2 w2 (le.trans le2) S2 T2 (hdf2.trans hdf)
      unfold wpOp
      rw [ho]
      simp only
      rw [Go.Dv.draws] at hr2
      split at hr2
      · rename_i hw
        split at hr2
        · rename_i v h1' hs
          exact u5C OK (trOper_ap htr (pick g p.ck)) S T (d := ⟨p.o.dst, p.o.op.withAp (pick g p.ck), p.o.guard⟩) hw (b := true) (v := v) (h' := h1') (by simpa using hs) (cont v h1' _ hr2)
        · cases hr2
      · rename_i hw
        exact u5C OK htr S T hw (b := false) (v := .tup []) (h' := h) (by simp) (cont _ h _ hr2)
      · cases hr2

theorem linear_at {ops : Array Oper} : ∀ (q : List Nat) (done : List Nat) (i : Nat) (r : List Nat), linear ops done (q ++ i :: r) = true → ∀ o, ops[i]? = some o → ∀ e ∈ o.after.toList, Region.binds .any e = true → e.on ∈ done ∨ e.on ∈ q
  | [], done, i, r, h, o, ho, e, he, hb => by
    simp only [List.nil_append, linear, ho, Bool.and_eq_true] at h
    have := List.all_eq_true.1 h.1 e he
    rw [hb] at this
    simp at this
    exact .inl this
  | x :: q, done, i, r, h, o, ho, e, he, hb => by
    simp only [List.cons_append, linear, Bool.and_eq_true] at h
    rcases linear_at q _ i r h.2 o ho e he hb with g | g
    · simp only [List.mem_append, List.mem_singleton] at g
      rcases g with g | g
      · exact .inl g
      · exact .inr (by simp [g])
    · exact .inr (by simp [g])

theorem nodupB_ok : ∀ {l : List Nat}, nodupB l = true → l.Nodup
  | [], _ => List.nodup_nil
  | x :: r, h => by
    simp only [nodupB, Bool.and_eq_true, Bool.not_eq_true'] at h
    rw [List.nodup_cons]
    exact ⟨by simpa using h.1, nodupB_ok h.2⟩
theorem u6J {n : Nat} {ord : List Nat} (h : u66 n ord = true) : ord.Nodup ∧ (∀ i, i ∈ ord ↔ i < n) ∧ ord.length = n := by
  simp only [u66, Bool.and_eq_true, beq_iff_eq] at h
  obtain ⟨⟨⟨h1, h2⟩, h3⟩, h4⟩ := h
  refine ⟨nodupB_ok h3, fun i => ⟨fun hi => ?_, fun hi => ?_⟩, h1⟩
  · have := List.all_eq_true.1 h4 i hi
    simpa using this
  · have := List.all_eq_true.1 h2 i (List.mem_range.2 hi)
    simpa using this

theorem draw_ok {K : Oracle} (OK : OracleOk P K) (hm : P.follows .mixedOrders = true) {esc quiet : List Nat} {id : Nat} {ops : Array Oper} {Q : Exit → Act → World → Prop} {ds : List DRow} (ht : trDraw P esc quiet ops = some ds)
    {X : Cx} {h : Hp} {w : World} {l : List DV} {a : Act} {l' : List DV} {h' : Hp} (S : Sim X h w) (T : TM X l a) (hr : Go.Dv.draws K ds l h [] = some (l', h'))
    (hk : ∀ X' a' w', X.le X' → Sim X' h' w' → TM X' l' a' → a'.defers = a.defers → Q .normal a' w') : (Code.region id ops true).wp P Q a w := by
  unfold trDraw at ht
  simp only at ht
  split at ht
  · cases ht
  · rename_i ds0 h0
    split at ht
    · cases ht
    · rename_i ds1 h1
      split at ht
      · rename_i hc
        cases ht
        simp only [Bool.and_eq_true] at hc
        obtain ⟨⟨c1, c2⟩, c3⟩ := hc
        obtain ⟨g1, g2⟩ := u4N h1
        obtain ⟨k1, k2, k3⟩ := u6J c1
        have hlen : ds.length = ops.size := by
          have := congrArg List.length g1
          rw [← k3, ← this]; simp
        refine wp_region_any hm (left_wp (esc := esc) (quiet := quiet) OK ops.size _ ds X h _ l [] a hlen ⟨by simp, fun i hi => ?_, by rw [g1]; exact k1, fun p hp => ?_, g2, u6G c3, fun j hj x hx => ?_, fun q p r he o ho e he1 he2 => ?_⟩ (S.drew _) T hr hk)
        · rw [g1, k2]
          exact ⟨fun _ => hi, fun _ => by simp [hi]⟩
        · rw [← k2, ← g1]; exact List.mem_map.2 ⟨p, hp, rfl⟩
        · exfalso
          have := (Array.getElem?_eq_some_iff.1 hj)
          obtain ⟨q1, q2⟩ := this
          simp at q2
        · refine .inr ?_
          rw [he] at g1
          rw [← g1, List.map_append, List.map_cons] at c2
          rcases linear_at _ _ _ _ c2 o ho e he1 he2 with g | g
          · cases g
          · exact g
      · cases ht

end Go.Dv
/- The engine: a region whose order is left open and that makes several boxes: they are taken into the heap when all of them lie in the world. -/
set_option linter.unusedVariables false
set_option linter.unusedSimpArgs false
namespace Go.Dv
variable {P : Program}

theorem wp_dst {o : Oper} {a : Act} {w : World} {K : Act → World → Prop} {Q : Exit → Act → World → Prop} (hh : o.wp P a w (fun a' w' => (∃ u, a'.tmps = (a.put o.dst u).tmps) → K a' w') Q) : o.wp P a w K Q := by
  unfold Oper.wp at *
  generalize (execOp a.eval o).run P w = r at *
  cases r with
  | ok n w' =>
    cases n <;> simp only [Oper.upon] at hh ⊢ <;>
      first
        | exact hh ⟨_, rfl⟩
        | exact hh ⟨_, by cases o.dst <;> rfl⟩
        | exact Calls.mono hh (fun e w'' he => by cases e <;> first | exact he ⟨_, rfl⟩ | exact he)
        | exact Rows.mono hh (fun _ _ he => he ⟨_, rfl⟩)
  | halt x w' => cases x <;> simp only [Oper.upon] at hh ⊢ <;> exact hh

def isAl (p : DRow) : Bool :=
  match p.o.op, p.o.guard, p.o.dst with
  | .alloc false _ _, none, some _ => true
  | _, _, _ => false
theorem isAl_is {p : DRow} (h : isAl p = true) : ∃ t z cs, p.o = ⟨some t, .alloc false z cs, none⟩ := by
  obtain ⟨i, ck, ⟨d, op, g⟩⟩ := p
  unfold isAl at h
  simp only at h
  split at h
  · rename_i z cs t
    exact ⟨t, z, cs, rfl⟩
  · cases h

theorem al_exec {esc : List Nat} {quiet : Option (List Nat)} {ops : Array Oper} {o : Oper} {t z : Nat} {cs : List DV} (h : u35 P esc quiet ops [] o = some ⟨some t, .alloc false z cs, none⟩) (a : Act) (w : World) :
    o.dst = some t ∧ o.guard = none ∧ cs.length = z ∧ ∃ us e, (execOp a.eval o).run P w = .ok (.value (.pointer (some ⟨w.heap.size, 0, none⟩))) (w.alloc (.cells us e)) ∧ (∀ (X : Cx) (L : Bool), VS X L cs us.toList) ∧ ∀ v ∈ us.toList, v.oneCell' = true := by
  unfold u35 at h
  split at h
  · rename_i d0 g hd0 hg
    cases hq : u0V quiet d0 with
    | alloc b z' cs' =>
      rw [hq] at h
      simp only [Option.some.injEq, DOper.mk.injEq, DOp.alloc.injEq] at h
      obtain ⟨h1, ⟨rfl, rfl, rfl⟩, rfl⟩ := h
      have hd : d0 = .alloc false z' cs' := by
        rcases quietOp_ok quiet d0 with (e | e) | ⟨f, args, ap', e1, e2 | ⟨_, e2⟩⟩
        · rw [← e]; exact hq
        · rw [e] at hq
          unfold DOp.frz at hq
          split at hq <;> first
            | exact hq
            | cases hq
        · rw [e2] at hq; cases hq
        · rw [e2] at hq; cases hq
      subst hd
      have hgo : o.guard = none := by
        have := guardOf_ok hg
        cases hgd : o.guard with
        | none => rfl
        | some jc => rw [hgd] at this; obtain ⟨j, c⟩ := jc; obtain ⟨_, _, e⟩ := this; cases e
      refine ⟨h1, hgo, ?_⟩
      cases hop : o.op <;> rw [hop] at hd0 <;> simp only [trOp] at hd0
      case alloc e =>
        split at hd0
        · rename_i cs0 hz
          simp only [Option.some.injEq, DOp.alloc.injEq] at hd0
          obtain ⟨_, rfl, rfl⟩ := hd0
          obtain ⟨zv, z1, z2, z3⟩ := u33 hz w
          refine ⟨rfl, zv.cells, e, by simp [execOp, hop, Instr.alloc, z1, newVar, newRow], fun X L => z2 X L, fun u hu => ?_⟩
          obtain ⟨j, hj⟩ := List.getElem?_of_mem hu
          have hzv := z2 ⟨fun _ _ => none, fun _ => ⟨0, 0, 0, 0⟩, 0, 0, fun _ => False, w⟩ false
          have hl : j < cs0.length := by rw [hzv.length]; exact (List.getElem?_eq_some_iff.1 hj).1
          exact (hzv.val (List.getElem?_eq_getElem hl) hj).oneCell (z3 _ (List.getElem_mem _))
        · cases hd0
      all_goals
        exfalso
        (repeat' (split at hd0)) <;> first
          | (cases hd0; done)
          | (rw [Option.map_eq_some_iff] at hd0; obtain ⟨_, _, e⟩ := hd0; cases e; done)
          | (rename_i hh _ _ _ _ _ _ _; cases hh; done)
          | (simp_all; done)
    | _ => rw [hq] at h; simp at h
  · cases h

structure Base (X0 X : Cx) : Prop where
  Z : ∀ b o v, X0.Z b o = some v → X.Z b o = some v
  old : ∀ b o, b < X0.N → ¬ X0.U b → X.Z b o = X0.Z b o
  c : X0.c ≤ X.c
  p : ∀ s, s < X0.c → X.p s = X0.p s
  N : X0.N ≤ X.N
  own : ∀ b, X.U b ∨ X.N ≤ b → X0.U b ∨ X0.N ≤ b
  keep : ∀ b, b < X0.N → ¬ X0.U b → b < X.N ∧ ¬ X.U b ∧ X.W.heap[b]? = X0.W.heap[b]?
  os : X.W.os = X0.W.os
  tape : X.W.tape = X0.W.tape
  out : X.W.output = X0.W.output
  dr : X0.W.drawn ≤ X.W.drawn
theorem Base.refl (X : Cx) : Base X X := ⟨fun _ _ _ h => h, fun _ _ _ _ => rfl, Nat.le_refl _, fun _ _ => rfl, Nat.le_refl _, fun _ h => h, fun _ h k => ⟨h, k, rfl⟩, rfl, rfl, rfl, Nat.le_refl _⟩
theorem Base.le {X0 X Y : Cx} (B : Base X0 X) (h : X.le Y) : Base X0 Y :=
  ⟨fun b o v e => h.Z b o v (B.Z b o v e), fun b o hb hu => (h.old b o (B.keep b hb hu).1 (B.keep b hb hu).2.1).trans (B.old b o hb hu), Nat.le_trans B.c h.c,
    fun s hs => (h.p s (Nat.lt_of_lt_of_le hs B.c)).trans (B.p s hs), by rw [h.N]; exact B.N, fun b hb => B.own b (by rwa [h.U, h.N] at hb), fun b hb hu => by rw [h.N, h.U, h.W]; exact B.keep b hb hu,
    by rw [h.W]; exact B.os, by rw [h.W]; exact B.tape, by rw [h.W]; exact B.out, by rw [h.W]; exact B.dr⟩
def Cx.on (X X0 : Cx) : Cx := { X with N := X0.N, U := X0.U, W := X0.W }
theorem V.on {X X0 : Cx} {L : Bool} {d : DV} {u : Value} (h : V X L d u) : V (X.on X0) L d u := V.gen (X := X) (Y := X.on X0) (fun e => e) (fun _ _ _ h => h) (fun _ => ⟨Nat.le_refl _, fun _ _ => rfl⟩) d u h
theorem VS.on {X X0 : Cx} {L : Bool} {d : List DV} {u : List Value} (h : VS X L d u) : VS (X.on X0) L d u := VS.gen (X := X) (Y := X.on X0) (fun e => e) (fun _ _ _ h => h) (fun _ => ⟨Nat.le_refl _, fun _ _ => rfl⟩) d u h
theorem Base.sim {X0 X : Cx} {h : Hp} {w : World} (B : Base X0 X) (S : Sim X h w) : X0.le (X.on X0) ∧ Sim (X.on X0) h w := by
  refine ⟨⟨B.Z, B.old, B.c, B.p, rfl, rfl, rfl⟩, ⟨S.z, fun hb i k e => ?_, S.dist, S.c, Nat.le_trans B.N S.N, fun b hb hu => ?_, S.os.trans B.os, S.tape.trans B.tape, S.out.trans B.out, Nat.le_trans B.dr S.dr⟩⟩
  · have b := S.blk hb i k e
    obtain ⟨cells, T, fr, h1, h2, h3, h4⟩ := b.at_
    exact ⟨b.c, b.z, b.len, ⟨cells, T, fr, h1, h2, h3, fun e r hr => ⟨(h4 e r hr).1, fun j d hd => let ⟨u, h5, h6, h7⟩ := (h4 e r hr).2 j d hd; ⟨u, h5, h6.on, h7⟩⟩⟩, B.own _ b.own, b.off⟩
  · obtain ⟨h1, h2, h3⟩ := B.keep b hb hu
    rw [S.keep b h1 h2]; exact h3

def Cx.guard (X : Cx) (w : World) (ob : Obj) : Cx := { X with N := w.heap.size + 1, U := fun b => b ≠ w.heap.size ∧ (X.U b ∨ X.N ≤ b), W := w.alloc ob }
theorem V.guard {X : Cx} {w : World} {ob : Obj} {L : Bool} {d : DV} {u : Value} (h : V X L d u) : V (X.guard w ob) L d u := V.gen (X := X) (Y := X.guard w ob) (fun e => e) (fun _ _ _ h => h) (fun _ => ⟨Nat.le_refl _, fun _ _ => rfl⟩) d u h
theorem VS.guard {X : Cx} {w : World} {ob : Obj} {L : Bool} {d : List DV} {u : List Value} (h : VS X L d u) : VS (X.guard w ob) L d u := VS.gen (X := X) (Y := X.guard w ob) (fun e => e) (fun _ _ _ h => h) (fun _ => ⟨Nat.le_refl _, fun _ _ => rfl⟩) d u h
theorem alloc_size (w : World) (ob : Obj) : (w.alloc ob).heap.size = w.heap.size + 1 := by show (w.heap.push ob).size = _; rw [Array.size_push]
theorem Sim.guard {X : Cx} {h : Hp} {w : World} (S : Sim X h w) (ob : Obj) : Sim (X.guard w ob) h (w.alloc ob) := by
  obtain ⟨b1, b2⟩ := But.alloc w ob
  refine ⟨fun b o v e => ?_, fun hb i k e => ?_, S.dist, S.c, by rw [alloc_size]; exact Nat.le_refl _, fun b hb hu => rfl, rfl, rfl, rfl, Nat.le_refl _⟩
  · have := S.z b o v e
    have hlt := u2m this
    rwa [u3z (b1.same b (Nat.ne_of_lt hlt) hlt)]
  · have b := S.blk hb i k e
    obtain ⟨cells, T, fr, h1, h2, h3, h4⟩ := b.at_
    have hlt := b.lt
    exact ⟨b.c, b.z, b.len, ⟨cells, T, fr, by rw [show ((X.guard w ob).p k.s) = X.p k.s from rfl, b1.same _ (Nat.ne_of_lt hlt) hlt]; exact h1, h2, h3, fun e r hr => ⟨(h4 e r hr).1, fun j d hd => let ⟨u, h5, h6, h7⟩ := (h4 e r hr).2 j d hd; ⟨u, h5, h6.guard, h7⟩⟩⟩,
      .inl ⟨Nat.ne_of_lt hlt, b.own⟩, b.off⟩
theorem Base.guard {X0 X : Cx} {h : Hp} {w : World} (B : Base X0 X) (S : Sim X h w) (ob : Obj) : Base X0 (X.guard w ob) := by
  obtain ⟨b1, b2⟩ := But.alloc w ob
  have hN : X0.N ≤ w.heap.size := Nat.le_trans B.N S.N
  refine ⟨B.Z, B.old, B.c, B.p, Nat.le_succ_of_le hN, fun b hb => ?_, fun b hb hu => ?_, b1.os.trans (S.os.trans B.os), b1.tape.trans (S.tape.trans B.tape), b1.out.trans (S.out.trans B.out), Nat.le_trans B.dr (Nat.le_trans S.dr b1.dr)⟩
  · rcases hb with hb | hb
    · exact B.own b hb.2
    · exact .inr (Nat.le_trans hN (Nat.le_of_succ_le hb))
  · obtain ⟨h1, h2, h3⟩ := B.keep b hb hu
    have hlt : b < w.heap.size := Nat.lt_of_lt_of_le hb hN
    refine ⟨Nat.lt_succ_of_lt hlt, fun h => ?_, ?_⟩
    · rcases h.2 with g | g
      · exact h2 g
      · exact absurd h1 (Nat.not_lt.mpr g)
    · show (w.alloc ob).heap[b]? = _
      rw [b1.same b (Nat.ne_of_lt hlt) hlt, S.keep b h1 h2]; exact h3

theorem Sim.adopt {X : Cx} {h : Hp} {w : World} (S : Sim X h w) {B : Nat} {cs : List DV} {us : Array Value} {e : TypeId} (hc : w.heap[B]? = some (.cells us e)) (k : VS X true cs us.toList) (h1 : ∀ v ∈ us.toList, v.oneCell' = true)
    (hz : ∀ o, X.Z B o = none) (hown : X.U B ∨ X.N ≤ B) (hd : ∀ (hb : Bool) (i : Nat) (k : Blk), (h.heap hb)[i]? = some k → (X.p k.s).B ≠ B) :
    X.le (X.mark ⟨B, 0, cs.length, 1⟩) ∧ Sim (X.mark ⟨B, 0, cs.length, 1⟩) (h.new false cs.length [cs]).2 w ∧ V (X.mark ⟨B, 0, cs.length, 1⟩) true (.ptr false (h.new false cs.length [cs]).1 h.c 0 0) (.pointer (some ⟨B, 0, none⟩)) := by
  have le := X.mark_le ⟨B, 0, cs.length, 1⟩
  have hp := X.mark_p ⟨B, 0, cs.length, 1⟩
  have hlen : cs.length = us.size := by simpa using k.length
  have hcells := one_elem (T := fun d u => V X true d u ∧ u.oneCell' = true) hlen fun j d hd => by
    obtain ⟨u, hu, hv⟩ := k.get hd
    exact ⟨u, by simpa using hu, hv, h1 u (List.mem_of_getElem? hu)⟩
  have hne : ∀ (hb : Bool) (i : Nat) (k : Blk), (h.heap hb)[i]? = some k → ((X.mark ⟨B, 0, cs.length, 1⟩).p k.s).B ≠ B := fun hb i k e => by
    rw [le.p _ (S.blk hb i k e).c]; exact hd hb i k e
  refine ⟨le, ⟨S.z, fun hb' i k e => ?_, fun hb1 i1 k1 hb2 i2 k2 e1 e2 hd' => ?_, by simp [Hp.new, Cx.mark, S.c], S.N, S.keep, S.os, S.tape, S.out, S.dr⟩, ?_⟩
  · rcases u3G e with e | ⟨_, _, rfl⟩
    · have b := S.blk _ _ _ e
      exact b.mono le b.off rfl
    · rw [S.c] at *
      refine ⟨Nat.lt_succ_self _, by rw [hp], by rw [hp]; exact Nat.le_refl _, ⟨us, _, _, by rw [hp]; exact hc, by rw [hp]; simp [hlen], by simp, fun e r hr => ?_⟩, by rw [hp]; exact hown, fun o => by rw [hp]; exact hz o⟩
      · rw [hp]
        refine ⟨(hcells e r hr).1, fun j d hd => ?_⟩
        obtain ⟨u, h1, h2, h4⟩ := (hcells e r hr).2 j d hd
        exact ⟨u, by simpa using h1, h2.mono le, h4⟩
  · rcases u3G e1 with f1 | ⟨g1, g2, g3⟩ <;> rcases u3G e2 with f2 | ⟨g4, g5, g6⟩
    · have b1 := S.blk _ _ _ f1
      have b2 := S.blk _ _ _ f2
      rw [le.p _ b1.c, le.p _ b2.c]
      exact S.dist _ _ _ _ _ _ f1 f2 hd'
    · rw [g6, S.c, hp]; exact hne _ _ _ f1
    · rw [g3, S.c, hp]; exact (hne _ _ _ f2).symm
    · exact absurd ⟨g1.trans g4.symm, g2.trans g5.symm⟩ hd'
  · simp only [V]
    rw [S.c, hp]
    exact ⟨trivial, Nat.lt_succ_self _, by simp⟩

structure Left0 (P : Program) (esc quiet : List Nat) (ops : Array Oper) (listed : Array Bool) (os : List DRow) : Prop where
  size : listed.size = ops.size
  mem : ∀ i, i < ops.size → (listed[i]? = some false ↔ i ∈ os.map (·.i))
  nodup : (os.map (·.i)).Nodup
  lt : ∀ p ∈ os, p.i < ops.size
  tr : ∀ p ∈ os, ∃ o, ops[p.i]? = some o ∧ u35 P esc (some quiet) ops [] o = some p.o
  closed : ∀ j, listed[j]? = some true → ∀ x, ((masks ops.toList []).getD j 0).testBit x = true → listed[x]? = some true
  linear : ∀ (q : List DRow) (p : DRow) (r : List DRow), os = q ++ p :: r → ∀ o, ops[p.i]? = some o → ∀ e ∈ o.after.toList, Region.binds .any e = true → listed[e.on]? = some true ∨ e.on ∈ q.map (·.i)
theorem Left0.pairs {esc quiet : List Nat} {ops : Array Oper} {listed : Array Bool} {os : List DRow} (L : Left0 P esc quiet ops listed os) (h : u2v (masks ops.toList []) os = true) : Left P esc quiet ops listed os :=
  ⟨L.size, L.mem, L.nodup, L.lt, L.tr, h, L.closed, L.linear⟩
theorem Left0.free {esc quiet : List Nat} {ops : Array Oper} {listed : Array Bool} {os : List DRow} (L : Left0 P esc quiet ops listed os) {i : Nat} {o : Oper} (ho : ops[i]? = some o) (hed : ∀ e ∈ o.after.toList, Region.binds .any e = true → listed[e.on]? = some true)
    {x : Nat} (hx : listed[x]? = some false) : ((masks ops.toList []).getD i 0).testBit x = false := by
  cases hb : ((masks ops.toList []).getD i 0).testBit x with
  | false => rfl
  | true =>
    exfalso
    obtain ⟨e, e1, e2, e3⟩ := u41 ops.toList [] i o x (by simpa using ho) (by simpa using hb)
    have hl := hed e e1 e2
    rcases e3 with e3 | e3
    · rw [e3, hl] at hx; cases hx
    · rw [L.closed e.on hl x e3] at hx; cases hx
theorem Left0.step {esc quiet : List Nat} {ops : Array Oper} {listed : Array Bool} {q r : List DRow} {p : DRow} (L : Left0 P esc quiet ops listed (q ++ p :: r)) {o : Oper} (ho : ops[p.i]? = some o) (h1 : p.i < ops.size) (hed : ∀ e ∈ o.after.toList, Region.binds .any e = true → listed[e.on]? = some true) :
    Left0 P esc quiet ops (listed.setIfInBounds p.i true) (q ++ r) := by
  have hget : ∀ j : Nat, (listed.setIfInBounds p.i true)[j]? = if p.i = j then (if j < listed.size then some true else none) else listed[j]? := fun j => by
    rw [Array.getElem?_setIfInBounds]
    split
    · rename_i e; rw [e]
    · rfl
  have keep : ∀ j : Nat, listed[j]? = some true → (listed.setIfInBounds p.i true)[j]? = some true := by
    intro j hj
    rw [hget]
    split
    · rw [if_pos]; exact (Array.getElem?_eq_some_iff.1 hj).1
    · exact hj
  have hnd := L.nodup
  rw [List.map_append, List.map_cons, List.nodup_append] at hnd
  obtain ⟨n1, n2, n3⟩ := hnd
  rw [List.nodup_cons] at n2
  have hpq : p.i ∉ (q ++ r).map (·.i) := by
    rw [List.map_append, List.mem_append]
    rintro (g | g)
    · exact n3 _ g _ (by simp) rfl
    · exact n2.1 g
  refine ⟨by simp [L.size], fun j hj => ?_, ?_, fun x hx => L.lt x ?_, fun x hx => L.tr x ?_, fun j hj x hx => ?_, fun q' p' r' he o' ho' e he1 he2 => ?_⟩
  · rw [hget]
    by_cases hpj : p.i = j
    · subst hpj
      rw [if_pos rfl, if_pos (by rw [L.size]; exact hj)]
      exact ⟨fun g => (by cases g), fun g => absurd g hpq⟩
    · rw [if_neg hpj, L.mem j hj]
      simp only [List.map_append, List.map_cons, List.mem_append, List.mem_cons]
      constructor
      · rintro (g | g | g)
        · exact .inl g
        · exact absurd g.symm hpj
        · exact .inr g
      · rintro (g | g)
        · exact .inl g
        · exact .inr (.inr g)
  · rw [List.map_append, List.nodup_append]
    exact ⟨n1, n2.2, fun a ha b hb => n3 a ha b (List.mem_cons_of_mem _ hb)⟩
  · simp only [List.mem_append, List.mem_cons] at hx ⊢; exact hx.imp id .inr
  · simp only [List.mem_append, List.mem_cons] at hx ⊢; exact hx.imp id .inr
  · rw [hget] at hj
    split at hj
    · rename_i hpj
      subst hpj
      obtain ⟨e, e1, e2, e3⟩ := u41 ops.toList [] p.i o x (by simpa using ho) (by simpa using hx)
      have hl := hed e e1 e2
      rcases e3 with e3 | e3
      · rw [e3]; exact keep _ hl
      · exact keep _ (L.closed e.on hl x e3)
    · exact keep _ (L.closed j hj x hx)
  · rw [List.append_eq_append_iff] at he
    rcases he with ⟨m, he3, he4⟩ | ⟨m, he3, he4⟩
    · -- it stands in r
      rcases m with _ | ⟨y, m⟩
      · simp only [List.append_nil] at he3
        simp only [List.nil_append] at he4
        subst he3
        rcases L.linear (q' ++ [p]) p' r' (by simp [he4]) o' ho' e he1 he2 with g | g
        · exact .inl (keep _ g)
        · simp only [List.map_append, List.map_cons, List.map_nil, List.mem_append, List.mem_singleton] at g
          rcases g with g | g
          · exact .inr g
          · refine .inl ?_
            rw [hget, if_pos g.symm, if_pos (by rw [L.size, g]; exact h1)]
      · subst he3
        rw [he4] at L
        rcases L.linear (q ++ p :: y :: m) p' r' (by simp) o' ho' e he1 he2 with g | g
        · exact .inl (keep _ g)
        · simp only [List.map_append, List.map_cons, List.mem_append, List.mem_cons] at g ⊢
          rcases g with g | g | g | g
          · exact .inr (.inl g)
          · refine .inl ?_
            rw [hget, if_pos g.symm, if_pos (by rw [L.size, g]; exact h1)]
          · exact .inr (.inr (.inl g))
          · exact .inr (.inr (.inr g))
    · -- it stands in q
      rcases m with _ | ⟨y, m⟩
      · simp only [List.append_nil] at he3
        simp only [List.nil_append] at he4
        subst he3
        rw [← he4] at L
        rcases L.linear (q ++ [p]) p' r' (by simp) o' ho' e he1 he2 with g | g
        · exact .inl (keep _ g)
        · simp only [List.map_append, List.map_cons, List.map_nil, List.mem_append, List.mem_singleton] at g
          rcases g with g | g
          · exact .inr g
          · refine .inl ?_
            rw [hget, if_pos g.symm, if_pos (by rw [L.size, g]; exact h1)]
      · simp only [List.cons_append, List.cons.injEq] at he4
        obtain ⟨rfl, rfl⟩ := he4
        subst he3
        rcases L.linear q' p' (m ++ p :: r) (by simp) o' ho' e he1 he2 with g | g
        · exact .inl (keep _ g)
        · exact .inr g

theorem VS.setL {X : Cx} {L : Bool} {l : List DV} {us : List Value} {t : Nat} {d : DV} {u : Value} (k : VS X L l us) (hu : us[t]? = some u ∨ us.length ≤ t) (h : V X L d u) : VS X L (l.set t d) us := by
  rcases hu with hu | hu
  case inr => rw [List.set_eq_of_length_le (by rw [k.length]; exact hu)]; exact k
  have := VS.set (i := t) k h
  obtain ⟨ht, e⟩ := List.getElem?_eq_some_iff.1 hu
  rwa [← e, List.set_getElem_self] at this
theorem VS.setR {X : Cx} {L : Bool} {l : List DV} {us : List Value} {t : Nat} {u : Value} (k : VS X L l us) (hl : l[t]? = some .undef ∨ l.length ≤ t) : VS X L l (us.set t u) := by
  rcases hl with hl | hl
  case inr => rw [List.set_eq_of_length_le (by rw [← k.length]; exact hl)]; exact k
  have := VS.set (i := t) (d := .undef) (u := u) k (by simp [V])
  obtain ⟨ht, e⟩ := List.getElem?_eq_some_iff.1 hl
  rwa [← e, List.set_getElem_self] at this

structure Kept (X : Cx) (W : World) (a : Act) (p : DRow) (B : Nat) : Prop where
  z : ∀ o, X.Z B o = none
  at_ : ∃ t cs us e, p.o = ⟨some t, .alloc false cs.length cs, none⟩ ∧ W.heap[B]? = some (.cells us e) ∧ (∀ (Y : Cx) (L : Bool), VS Y L cs us.toList) ∧ (∀ v ∈ us.toList, v.oneCell' = true) ∧ (a.tmps[t]? = some (.pointer (some ⟨B, 0, none⟩)) ∨ a.tmps.size ≤ t)

theorem adopt_all {K : Oracle} {E O : List DRow} {R : List DV × Hp} {w : World} {a : Act} {f : Nat → Nat} : ∀ (A : List DRow) (X : Cx) (h : Hp) (l : List DV) (g : Log), (∀ e ∈ E, ∀ p ∈ A, indep e p = true) → (A.map (·.i)).Nodup → Sim X h w → TM X l a →
    (∀ p ∈ A, Kept X w a p (f p.i) ∧ (X.U (f p.i) ∨ X.N ≤ f p.i) ∧ ∀ (hb : Bool) (i : Nat) (k : Blk), (h.heap hb)[i]? = some k → (X.p k.s).B ≠ f p.i) → (∀ p ∈ A, ∀ q ∈ A, p.i ≠ q.i → f p.i ≠ f q.i) →
    Go.Dv.draws K (E ++ (A ++ O)) l h g = some R → ∃ X2 h2 l2 g2, X.le X2 ∧ Sim X2 h2 w ∧ TM X2 l2 a ∧ Go.Dv.draws K (E ++ O) l2 h2 g2 = some R
  | [], X, h, l, g, _, _, S, T, _, _, hr => ⟨X, h, l, g, Cx.le.refl X, S, T, hr⟩
  | p :: A, X, h, l, g, hE, hn, S, T, hk, hf, hr => by
    replace hr := u3J E (fun e he => hE e he p (by simp)) l h g hr
    obtain ⟨⟨kz, t, cs, us, e, ke, kh, kv, k1, kt⟩, ko, kd⟩ := hk p (by simp)
    rw [List.map_cons, List.nodup_cons] at hn
    obtain ⟨le, S1, hv⟩ := S.adopt kh (kv X true) k1 kz ko kd
    rw [Go.Dv.draws, ke] at hr
    simp only [wants, DOp.withAp, Go.Dv.step, logOf, u3t] at hr
    have T1 : TM (X.mark ⟨f p.i, 0, cs.length, 1⟩) (putT l (some t) (.ptr false (h.new false cs.length [cs]).1 h.c 0 0)) a := by
      unfold TM putT
      exact VS.setL (VS.mono le T) (by simpa using kt) hv
    obtain ⟨X2, h2, l2, g2, q1, q2, q3, q4⟩ := adopt_all A _ _ _ _ (fun e he q hq => hE e he q (List.mem_cons_of_mem _ hq)) hn.2 S1 T1 (fun q hq => by
      obtain ⟨⟨mz, m⟩, mo, md⟩ := hk q (List.mem_cons_of_mem _ hq)
      refine ⟨⟨mz, m⟩, mo, fun hb i k e => ?_⟩
      rcases u3G e with e | ⟨_, _, rfl⟩
      · rw [le.p _ (S.blk _ _ _ e).c]; exact md hb i k e
      · rw [show ((X.mark ⟨f p.i, 0, cs.length, 1⟩).p h.c) = ⟨f p.i, 0, cs.length, 1⟩ by rw [S.c]; exact Cx.mark_p _ _]
        exact hf p (by simp) q (List.mem_cons_of_mem _ hq) fun e => hn.1 (e ▸ List.mem_map.2 ⟨q, hq, rfl⟩)) (fun x hx y hy => hf x (List.mem_cons_of_mem _ hx) y (List.mem_cons_of_mem _ hy)) hr
    exact ⟨X2, h2, l2, g2, le.trans q1, q2, q3, q4⟩

theorem put_tmps {a : Act} {d : Option Nat} {u : Value} {t : Nat} (h : ∀ x, d = some x → x ≠ t) : (a.put d u).tmps[t]? = a.tmps[t]? := by
  cases d with
  | none => rfl
  | some x => simp only [Act.put]; rw [Array.getElem?_setIfInBounds_ne (h x rfl)]
theorem put_size {a : Act} {d : Option Nat} {u : Value} : (a.put d u).tmps.size = a.tmps.size := by
  cases d with
  | none => rfl
  | some x => simp [Act.put]
theorem dst_of {esc quiet : List Nat} {ops : Array Oper} {o : Oper} {d : DOper} (h : u35 P esc (some quiet) ops [] o = some d) : d.dst = o.dst := by
  unfold u35 at h
  split at h
  · cases h; rfl
  · cases h
theorem dstNe_ne {d e : Option Nat} (h : dstNe d e = true) {x y : Nat} (hx : d = some x) (hy : e = some y) : x ≠ y := by
  subst hx; subst hy
  simpa [dstNe] using h

theorem nodup_inj : ∀ {A : List DRow}, (A.map (·.i)).Nodup → ∀ {x p : DRow}, x ∈ A → p ∈ A → x.i = p.i → x = p
  | [], _, _, _, hx, _, _ => by simp at hx
  | y :: A, h, x, p, hx, hp, e => by
    rw [List.map_cons, List.nodup_cons] at h
    rcases List.mem_cons.1 hx with h1 | h1 <;> rcases List.mem_cons.1 hp with h2 | h2
    · rw [h1, h2]
    · subst h1; exact absurd (List.mem_map.2 ⟨p, h2, e.symm⟩) h.1
    · subst h2; exact absurd (List.mem_map.2 ⟨x, h1, e⟩) h.1
    · exact nodup_inj h.2 h1 h2 e

def hardA (A : List DRow) (e : DRow) : Bool := !(A.all fun p => indep e p)
theorem leftA_wp {K : Oracle} (OK : OracleOk P K) {esc quiet : List Nat} {ops : Array Oper} {Q : Exit → Act → World → Prop} {l' : List DV} {h' : Hp} {A : List DRow} (hA : ∀ p ∈ A, isAl p = true) (hAn : (A.map (·.i)).Nodup)
    (hAd : ∀ p ∈ A, ∀ q ∈ A, p.i ≠ q.i → dstNe p.o.dst q.o.dst = true) {X0 : Cx} {df : List Deferred} (hk : ∀ X' a' w', X0.le X' → Sim X' h' w' → TM X' l' a' → a'.defers = df → Q .normal a' w') :
    ∀ (n : Nat) (listed : Array Bool) (R E O : List DRow) (X : Cx) (h : Hp) (w : World) (l : List DV) (g : Log) (a : Act) (f : Nat → Nat), (R ++ (E ++ O)).length = n → Left0 P esc quiet ops listed (R ++ (E ++ O)) →
      (∀ p ∈ R, p ∈ A) → (∀ p ∈ A, p ∈ R ∨ listed[p.i]? = some true) → u2v (masks ops.toList []) (E ++ O) = true →
      (∀ e ∈ E, ∀ p ∈ A, dstNe p.o.dst e.o.dst = true) →
      (∀ o ∈ O, (∀ p ∈ A, ((masks ops.toList []).getD o.i 0).testBit p.i = true) ∧ ∀ e ∈ E, hardA A e = true → ((masks ops.toList []).getD o.i 0).testBit e.i = true) →
      Base X0 X → Sim X h w → TM X l a → (∀ p ∈ A, ∀ t, p.o.dst = some t → l[t]? = some .undef ∨ l.length ≤ t) →
      (∀ p ∈ A, listed[p.i]? = some true → Kept X X.W a p (f p.i) ∧ f p.i < X.N ∧ ¬ X.U (f p.i) ∧ (X0.U (f p.i) ∨ X0.N ≤ f p.i)) →
      (∀ p ∈ A, ∀ q ∈ A, listed[p.i]? = some true → listed[q.i]? = some true → p.i ≠ q.i → f p.i ≠ f q.i) →
      Go.Dv.draws K (E ++ (A ++ O)) l h g = some (l', h') → a.defers = df → wpAny P .any ops Q n listed a w := by
  have adopt : ∀ (n : Nat) (listed : Array Bool) (E O : List DRow) (X : Cx) (h : Hp) (w : World) (l : List DV) (g : Log) (a : Act) (f : Nat → Nat), (E ++ O).length = n → Left0 P esc quiet ops listed (E ++ O) → (∀ e ∈ E, hardA A e = false) →
      (∀ p ∈ A, listed[p.i]? = some true) → u2v (masks ops.toList []) (E ++ O) = true → Base X0 X → Sim X h w → TM X l a →
      (∀ p ∈ A, listed[p.i]? = some true → Kept X X.W a p (f p.i) ∧ f p.i < X.N ∧ ¬ X.U (f p.i) ∧ (X0.U (f p.i) ∨ X0.N ≤ f p.i)) →
      (∀ p ∈ A, ∀ q ∈ A, listed[p.i]? = some true → listed[q.i]? = some true → p.i ≠ q.i → f p.i ≠ f q.i) →
      Go.Dv.draws K (E ++ (A ++ O)) l h g = some (l', h') → a.defers = df → wpAny P .any ops Q n listed a w := by
    intro n listed E O X h w l g a f hn L hhd hall hpO Bs S T hkp hfd hr hdf
    obtain ⟨le0, S2⟩ := Bs.sim S
    have T2 : TM (X.on X0) l a := VS.on T
    obtain ⟨X2, h2, l2, g2, q1, q2, q3, q4⟩ := adopt_all (f := f) A _ h l g (fun e he p hp => by
        have := hhd e he
        unfold hardA at this
        exact List.all_eq_true.1 (by simpa using this) p hp) hAn S2 T2 (fun x hx => by
      obtain ⟨⟨kz, t, cs, us, e, ke, kh, kv, k1, kt⟩, c1, c2, c3⟩ := hkp x hx (hall x hx)
      refine ⟨⟨kz, t, cs, us, e, ke, by rw [S.keep _ c1 c2]; exact kh, kv, k1, kt⟩, c3, fun hb i k hki => ?_⟩
      have hbk := S.blk hb i k hki
      show (X.p k.s).B ≠ f x.i
      intro he
      rcases hbk.own with g | g
      · rw [he] at g; exact c2 g
      · rw [he] at g; exact absurd c1 (Nat.not_lt.mpr g)) (fun x hx y hy => hfd x hx y hy (hall x hx) (hall y hy)) hr
    exact left_wp OK n _ (E ++ O) X2 h2 _ l2 g2 _ hn (L.pairs hpO) q2 q3 q4 fun X' a' w' le' S' T' hd' => hk X' a' w' (le0.trans (q1.trans le')) S' T' (hd'.trans hdf)
  intro n
  induction n with
  | zero =>
    intro listed R E O X h w l g a f hn L hRA hAR hpO hEd hcr Bs S T hun hkp hfd hr hdf
    have e1 : R = [] := by cases R with | nil => rfl | cons _ _ => simp at hn
    have e2 : E = [] := by cases E with | nil => rfl | cons _ _ => simp at hn
    subst e1; subst e2
    exact adopt 0 listed [] O X h w l g a f (by simpa using hn) (by simpa using L) (by simp) (fun p hp => (hAR p hp).resolve_left (by simp)) hpO Bs S T hkp hfd hr hdf
  | succ n ih =>
    intro listed R E O X h w l g a f hn L hRA hAR hpO hEd hcr Bs S T hun hkp hfd hr hdf
    by_cases hready : R = [] ∧ ∀ e ∈ E, hardA A e = false
    · obtain ⟨rfl, hh⟩ := hready
      exact adopt (n+1) listed E O X h w l g a f (by simpa using hn) (by simpa using L) hh (fun p hp => (hAR p hp).resolve_left (by simp)) hpO Bs S T hkp hfd hr hdf
    constructor
    · intro hnil
      exfalso
      obtain ⟨p, rest, hp0⟩ := List.exists_cons_of_ne_nil (l := R ++ (E ++ O)) (by intro e; rw [e] at hn; simp at hn)
      rw [hp0] at L
      have hp := L.lt p (by simp)
      obtain ⟨o, ho, _⟩ := L.tr p (by simp)
      have : p.i ∈ Region.ready .any ops listed := (u3Z L.size).2 ⟨hp, (L.mem p.i hp).2 (by simp), o, ho, fun e he hb => by
        rcases L.linear [] p rest rfl o ho e he hb with g | g
        · exact g
        · simp at g⟩
      rw [hnil] at this
      cases this
    · intro i hi
      obtain ⟨h1, h2, o, ho, hed⟩ := (u3Z L.size).1 hi
      have hmem := (L.mem i h1).1 h2
      obtain ⟨p, hp, rfl⟩ := List.mem_map.1 hmem
      have hnl : ∀ j : Nat, (listed.setIfInBounds p.i true)[j]? = some true → p.i = j ∨ listed[j]? = some true := by
        intro j hj
        rw [Array.getElem?_setIfInBounds] at hj
        split at hj
        · rename_i e; exact .inl e
        · exact .inr hj
      have hkeep : ∀ j : Nat, listed[j]? = some true → (listed.setIfInBounds p.i true)[j]? = some true := by
        intro j hj
        rw [Array.getElem?_setIfInBounds]
        split
        · rename_i e; subst e; rw [h2] at hj; cases hj
        · exact hj
      have hself : (listed.setIfInBounds p.i true)[p.i]? = some true := by
        rw [Array.getElem?_setIfInBounds, if_pos rfl, if_pos (by rw [L.size]; exact h1)]
      rcases List.mem_append.1 hp with hp | hp
      · -- a box
        obtain ⟨q, r, rfl⟩ := List.append_of_mem hp
        have hpA := hRA p (by simp)
        obtain ⟨t, z, cs, hpo⟩ := isAl_is (hA p hpA)
        obtain ⟨o2, ho2, htr⟩ := L.tr p (by simp)
        rw [ho] at ho2
        cases ho2
        rw [hpo] at htr
        obtain ⟨e1, e2, rfl, us, e, hex, hvs, hone⟩ := al_exec htr a w
        have L1 : Left0 P esc quiet ops (listed.setIfInBounds p.i true) (q ++ (r ++ (E ++ O))) := Left0.step (q := q) (p := p) (r := r ++ (E ++ O)) (by simpa using L) ho h1 hed
        have lt0 := hun p hpA t (by rw [hpo])
        have T1 : TM (X.guard w (.cells us e)) l (a.put (some t) (.pointer (some ⟨w.heap.size, 0, none⟩))) := by
          unfold TM
          simp only [Act.put, Array.toList_setIfInBounds]
          exact VS.setR (VS.guard T) lt0
        have S1 := S.guard (.cells us e)
        have B1 := Bs.guard S (.cells us e)
        obtain ⟨b1, b2⟩ := But.alloc w (.cells us e)
        let f1 : Nat → Nat := fun j => if j = p.i then w.heap.size else f j
        have kp1 : ∀ x ∈ A, (listed.setIfInBounds p.i true)[x.i]? = some true → Kept (X.guard w (.cells us e)) (w.alloc (.cells us e)) (a.put (some t) (.pointer (some ⟨w.heap.size, 0, none⟩))) x (f1 x.i) ∧ f1 x.i < w.heap.size + 1 ∧ (f1 x.i = w.heap.size ∨ ¬ (X.U (f1 x.i) ∨ X.N ≤ f1 x.i)) ∧ (X0.U (f1 x.i) ∨ X0.N ≤ f1 x.i) := by
          intro x hx hl
          by_cases hxp : x.i = p.i
          · have hxe : x = p := by
              exact nodup_inj hAn hx hpA hxp
            subst hxe
            have hf1 : f1 x.i = w.heap.size := by simp [f1]
            rw [hf1]
            refine ⟨⟨fun o => S.Znone (Nat.le_refl _) o, t, cs, us, e, hpo, b2, hvs, hone, ?_⟩, Nat.lt_succ_self _, .inl rfl, .inr (Nat.le_trans Bs.N S.N)⟩
            simp only [Act.put, Array.size_setIfInBounds]
            rw [Array.getElem?_setIfInBounds, if_pos rfl]
            by_cases hts : t < a.tmps.size
            · exact .inl (if_pos hts)
            · exact .inr (Nat.le_of_not_lt hts)
          · have hf1 : f1 x.i = f x.i := by simp [f1, hxp]
            rw [hf1]
            have hl' : listed[x.i]? = some true := (hnl _ hl).resolve_left (fun e => hxp e.symm)
            obtain ⟨⟨kz, t', cs', us', e', ke, kh, kv, k1, kt⟩, c1, c2, c3⟩ := hkp x hx hl'
            have hlt : f x.i < w.heap.size := Nat.lt_of_lt_of_le c1 S.N
            refine ⟨⟨kz, t', cs', us', e', ke, ?_, kv, k1, ?_⟩, Nat.lt_succ_of_lt hlt, .inr ?_, c3⟩
            · rw [b1.same _ (Nat.ne_of_lt hlt) hlt, S.keep _ c1 c2]; exact kh
            · rw [put_tmps, put_size]
              · exact kt
              · intro y hy
                cases hy
                exact (dstNe_ne (hAd x hx p hpA hxp) (by rw [ke]) (by rw [hpo])).symm
            · rintro (g | g)
              · exact c2 g
              · exact absurd c1 (Nat.not_lt.mpr g)
        have fd1 : ∀ x ∈ A, ∀ y ∈ A, (listed.setIfInBounds p.i true)[x.i]? = some true → (listed.setIfInBounds p.i true)[y.i]? = some true → x.i ≠ y.i → f1 x.i ≠ f1 y.i := by
          intro x hx y hy hlx hly hne
          have small : ∀ z ∈ A, z.i ≠ p.i → (listed.setIfInBounds p.i true)[z.i]? = some true → f z.i < w.heap.size := fun z hz hzp hlz =>
            Nat.lt_of_lt_of_le (hkp z hz ((hnl _ hlz).resolve_left (fun e => hzp e.symm))).2.1 S.N
          by_cases hxp : x.i = p.i
          · have hyp : y.i ≠ p.i := fun e => hne (hxp.trans e.symm)
            simp only [f1, if_pos hxp, if_neg hyp]
            exact (Nat.ne_of_lt (small y hy hyp hly)).symm
          · by_cases hyp : y.i = p.i
            · simp only [f1, if_neg hxp, if_pos hyp]
              exact Nat.ne_of_lt (small x hx hxp hlx)
            · simp only [f1, if_neg hxp, if_neg hyp]
              exact hfd x hx y hy ((hnl _ hlx).resolve_left (fun e => hxp e.symm)) ((hnl _ hly).resolve_left (fun e => hyp e.symm)) hne
        have main : wpAny P .any ops Q n (listed.setIfInBounds p.i true) (a.put (some t) (.pointer (some ⟨w.heap.size, 0, none⟩))) (w.alloc (.cells us e)) := by
          exact ih _ (q ++ r) E O (X.guard w (.cells us e)) h _ l g _ f1 (by simp at hn ⊢; omega) (by simpa using L1) (fun x hx => hRA x (by simp at hx ⊢; rcases hx with g | g; exact .inl g; exact .inr (.inr g)))
              (fun x hx => by
                rcases hAR x hx with g | g
                · simp only [List.mem_append, List.mem_cons] at g ⊢
                  rcases g with g | g | g
                  · exact .inl (.inl g)
                  · subst g; exact .inr hself
                  · exact .inl (.inr g)
                · exact .inr (hkeep _ g)) hpO hEd hcr B1 S1 T1 hun (fun x hx hl => by
                obtain ⟨c0, c1, c2, c3⟩ := kp1 x hx hl
                refine ⟨c0, c1, ?_, c3⟩
                rintro ⟨g1, g2⟩
                rcases c2 with c2 | c2
                · exact g1 c2
                · exact c2 g2) fd1 hr hdf
        unfold wpOp
        rw [ho]
        simp only
        have hw : Region.wanted o (yielded ops a.tmps) = true := by unfold Region.wanted; rw [e2]
        rw [if_pos hw]
        refine .inl ?_
        unfold Oper.wp
        rw [hex, Oper.upon_value, e1]
        exact main
      · -- another one
        have hbit : ∀ x ∈ R ++ (E ++ O), ((masks ops.toList []).getD p.i 0).testBit x.i = false := fun x hx => L.free ho hed ((L.mem x.i (L.lt x hx)).2 (List.mem_map.2 ⟨x, hx, rfl⟩))
        have hpE : p ∈ E := by
          rcases List.mem_append.1 hp with g | g
          · exact g
          · exfalso
            obtain ⟨m1, m2⟩ := hcr p g
            apply hready
            refine ⟨?_, fun e he => ?_⟩
            · cases R with
              | nil => rfl
              | cons y R' =>
                have := m1 y (hRA y (by simp))
                rw [hbit y (by simp)] at this
                cases this
            · cases hh : hardA A e with
              | false => rfl
              | true =>
                have := m2 e he hh
                rw [hbit e (by simp [he])] at this
                cases this
        clear hp
        obtain ⟨q, r, rfl⟩ := List.append_of_mem hpE
        obtain ⟨o2, ho2, htr⟩ := L.tr p (by simp)
        rw [ho] at ho2
        cases ho2
        have hpO' : u2v (masks ops.toList []) (q ++ p :: (r ++ O)) = true := by simpa using hpO
        have hind : ∀ y ∈ q, indep y p = true := by
          intro y hy
          rcases pairs_at hpO' y hy with g | g
          · rw [hbit y (by simp [hy])] at g; cases g
          · exact g
        have hr2 : Go.Dv.draws K (p :: (q ++ (r ++ (A ++ O)))) l h g = some (l', h') := u3J q hind l h g (by simpa using hr)
        have L1 : Left0 P esc quiet ops (listed.setIfInBounds p.i true) (R ++ ((q ++ r) ++ O)) := by
          have := Left0.step (q := R ++ q) (p := p) (r := r ++ O) (by simpa using L) ho h1 hed
          simpa using this
        have hdst := dst_of htr
        have hne : ∀ x ∈ A, ∀ t, x.o.dst = some t → ∀ y, p.o.dst = some y → y ≠ t := fun x hx t ht y hy => by
          exact (dstNe_ne (hEd p (by simp) x hx) ht hy).symm
        have cont : ∀ (v : DV) (h1 : Hp) (g' : Log), Go.Dv.draws K (q ++ (r ++ (A ++ O))) (putT l p.o.dst v) h1 g' = some (l', h') → ∀ X' a' w', X.le X' → Sim X' h1 w' → TM X' (putT l p.o.dst v) a' → a'.defers = a.defers → (∃ u, a'.tmps = (a.put o.dst u).tmps) → wpAny P .any ops Q n (listed.setIfInBounds p.i true) a' w' := by
          intro v h1 g' hr1 X' a' w' le S' T' hdf' ⟨u, hu⟩
          refine ih _ R (q ++ r) O X' h1 w' _ g' a' f (by simp at hn ⊢; omega) L1 hRA (fun x hx => (hAR x hx).imp id (hkeep _)) (by have := u5A hpO'; simpa using this) (fun x hx => hEd x (by simp at hx ⊢; rcases hx with g | g; exact .inl g; exact .inr (.inr g))) (fun x hx => ⟨(hcr x hx).1, fun e he => (hcr x hx).2 e (by simp at he ⊢; rcases he with g | g; exact .inl g; exact .inr (.inr g))⟩) (Bs.le le) S' T' (fun x hx t ht => ?_) (fun x hx hl => ?_) (fun x hx y hy hlx hly => ?_) (by simpa using hr1) (hdf'.trans hdf)
          · have := hun x hx t ht
            cases hpd : p.o.dst with
            | none => exact this
            | some y => simp only [putT, List.length_set]; rw [List.getElem?_set_ne (hne x hx t ht y hpd)]; exact this
          · have hxp : p.i ≠ x.i := by
              intro e
              have hnd := L.nodup
              rw [List.map_append, List.nodup_append] at hnd
              rcases hAR x hx with g | g
              · exact hnd.2.2 x.i (List.mem_map.2 ⟨x, g, rfl⟩) p.i (List.mem_map.2 ⟨p, by simp, rfl⟩) e.symm
              · rw [← e, h2] at g; cases g
            have hl' := (hnl _ hl).resolve_left hxp
            obtain ⟨⟨kz, t', cs', us', e', ke, kh, kv, k1, kt⟩, c1, c2, c3⟩ := hkp x hx hl'
            refine ⟨⟨fun o => by rw [le.old _ _ c1 c2]; exact kz o, t', cs', us', e', ke, by rw [le.W]; exact kh, kv, k1, ?_⟩, by rw [le.N]; exact c1, by rw [le.U]; exact c2, c3⟩
            rw [hu, put_tmps, put_size]
            · exact kt
            · intro y hy
              exact hne x hx t' (by rw [ke]) y (by rw [hdst]; exact hy)
          · have back : ∀ z ∈ A, (listed.setIfInBounds p.i true)[z.i]? = some true → listed[z.i]? = some true := by
              intro z hz hlz
              rcases hnl _ hlz with e | e
              · exfalso
                have hnd := L.nodup
                rw [List.map_append, List.nodup_append] at hnd
                rcases hAR z hz with g | g
                · exact hnd.2.2 z.i (List.mem_map.2 ⟨z, g, rfl⟩) p.i (List.mem_map.2 ⟨p, by simp, rfl⟩) e.symm
                · rw [← e, h2] at g; cases g
              · exact e
            exact hfd x hx y hy (back x hx hlx) (back y hy hly)
        unfold wpOp
        rw [ho]
        simp only
        have fin : (if Region.wanted o (yielded ops a.tmps) then o.wp P a w (fun a' w' => (∃ u, a'.tmps = (a.put o.dst u).tmps) → wpAny P .any ops Q n (listed.setIfInBounds p.i true) a' w') Q ∨ (o.asks P a w ∧ LetsOut Q) else ((∃ u, (a.put o.dst Go.undef).tmps = (a.put o.dst u).tmps) → wpAny P .any ops Q n (listed.setIfInBounds p.i true) (a.put o.dst Go.undef) w)) →
            (if Region.wanted o (yielded ops a.tmps) then o.wp P a w (wpAny P .any ops Q n (listed.setIfInBounds p.i true)) Q ∨ (o.asks P a w ∧ LetsOut Q) else wpAny P .any ops Q n (listed.setIfInBounds p.i true) (a.put o.dst Go.undef) w) := by
          intro hh
          by_cases hw : Region.wanted o (yielded ops a.tmps) = true
          · rw [if_pos hw] at hh ⊢; exact hh.imp wp_dst id
          · rw [if_neg hw] at hh ⊢; exact hh ⟨_, rfl⟩
        refine fin ?_
        rw [Go.Dv.draws] at hr2
        split at hr2
        · rename_i hw
          split at hr2
          · rename_i v h1' hs
            exact u5C OK (trOper_ap htr (pick g p.ck)) S T (d := ⟨p.o.dst, p.o.op.withAp (pick g p.ck), p.o.guard⟩) hw (b := true) (v := v) (h' := h1') (by simpa using hs) (N := fun a' w' => (∃ u, a'.tmps = (a.put o.dst u).tmps) → wpAny P .any ops Q n (listed.setIfInBounds p.i true) a' w') (cont v h1' _ hr2)
          · cases hr2
        · rename_i hw
          exact u5C OK htr S T hw (b := false) (v := .tup []) (h' := h) (by simp) (N := fun a' w' => (∃ u, a'.tmps = (a.put o.dst u).tmps) → wpAny P .any ops Q n (listed.setIfInBounds p.i true) a' w') (cont _ h _ hr2)
        · cases hr2

def dstsB : List DRow → Bool
  | [] => true
  | x :: r => (r.all fun y => dstNe x.o.dst y.o.dst && dstNe y.o.dst x.o.dst) && dstsB r
theorem dstsB_ok : ∀ {A : List DRow}, dstsB A = true → ∀ p ∈ A, ∀ q ∈ A, p.i ≠ q.i → dstNe p.o.dst q.o.dst = true
  | [], _, p, hp, _, _, _ => by simp at hp
  | x :: A, h, p, hp, q, hq, hne => by
    simp only [dstsB, Bool.and_eq_true] at h
    have h1 := List.all_eq_true.1 h.1
    rcases List.mem_cons.1 hp with g | g <;> rcases List.mem_cons.1 hq with k | k
    · exact absurd (by rw [g, k]) hne
    · have := h1 q k; rw [Bool.and_eq_true] at this; rw [g]; exact this.1
    · have := h1 p g; rw [Bool.and_eq_true] at this; rw [k]; exact this.2
    · exact dstsB_ok h.2 p g q k hne
def lateB (M : List Nat) (A D : List DRow) (o : DRow) : Bool := match M.getD o.i 0 with | m => (A.all fun p => m.testBit p.i) && D.all fun e => m.testBit e.i
def crossB (A E : List DRow) : Bool := E.all fun e => A.all fun p => dstNe p.o.dst e.o.dst
def preOf (A : List DRow) : List DRow := A.map fun p => ⟨p.i, [], p.o.dst, .move (.val .undef), none⟩
def trDrawA (P : Program) (esc quiet : List Nat) (ops : Array Oper) : Option (List DRow) :=
  let M := masks ops.toList []
  match trIdx P esc quiet ops (fun _ => []) (List.range ops.size) with
  | none => none
  | some ds =>
    let A0 := ds.filter isAl
    let al := A0.map (·.i)
    let hd := ds.filter fun p => !al.contains p.i && !lateB M A0 [] p && hardA A0 p
    let lt := (ds.filter fun p => !al.contains p.i && lateB M A0 hd p).map (·.i)
    let ord := (u4E M ops.size 0 (ds.map fun p => (p.i, rank p.o.op))).filter fun i => !al.contains i
    let er := ord.filter fun i => !lt.contains i
    let ls := ord.filter fun i => lt.contains i
    let cks := cksOf M ((ds.filter fun p => told quiet p.o.op).map (·.i)) [] (er ++ (al ++ ls))
    match trIdx P esc quiet ops (fun j => (cks.lookup j).getD []) al, trIdx P esc quiet ops (fun j => (cks.lookup j).getD []) er, trIdx P esc quiet ops (fun j => (cks.lookup j).getD []) ls with
    | some A, some E, some O => if u66 ops.size (al ++ (er ++ ls)) && linear ops [] (al ++ (er ++ ls)) && A.all isAl && dstsB A && crossB A E && (O.all fun o => lateB M A (E.filter (hardA A)) o) && pairsQ ((E ++ O).map fun d => (d, M.getD d.i 0)) then some (preOf A ++ (E ++ (A ++ O))) else none
    | _, _, _ => none

theorem pre_ok {K : Oracle} {X : Cx} {a : Act} {h : Hp} {D : List DRow} {R : List DV × Hp} : ∀ (A : List DRow) (l : List DV) (g : Log), TM X l a → Go.Dv.draws K (preOf A ++ D) l h g = some R →
    ∃ l1, Go.Dv.draws K D l1 h g = some R ∧ TM X l1 a ∧ l1.length = l.length ∧ ∀ t, ((∃ p ∈ A, p.o.dst = some t) ∨ l[t]? = some .undef ∨ l.length ≤ t) → (l1[t]? = some .undef ∨ l1.length ≤ t)
  | [], l, g, T, hr => by
    refine ⟨l, hr, T, rfl, fun t ht => ?_⟩
    rcases ht with ⟨p, hp, _⟩ | ht
    · simp at hp
    · exact ht
  | p :: A, l, g, T, hr => by
    simp only [preOf, List.map_cons, List.cons_append, Go.Dv.draws, wants, DOp.withAp, Go.Dv.step, Opd.ev, logOf, u3t] at hr
    have T1 : TM X (putT l p.o.dst .undef) a := by
      cases hd : p.o.dst with
      | none => exact T
      | some t =>
        simp only [putT]
        unfold TM
        refine VS.mk (by rw [List.length_set]; exact T.length) fun i d u hd hu => ?_
        rw [List.getElem?_set] at hd
        split at hd
        · split at hd
          · cases hd; simp [V]
          · cases hd
        · obtain ⟨u', h1, h2⟩ := VS.get T hd
          rw [hu] at h1; cases h1; exact h2
    obtain ⟨l1, g1, g2, g3, g4⟩ := pre_ok A _ g T1 hr
    have hlen : (putT l p.o.dst .undef).length = l.length := by cases p.o.dst <;> simp [putT]
    refine ⟨l1, g1, g2, g3.trans hlen, fun t ht => g4 t ?_⟩
    have keep : l[t]? = some .undef ∨ l.length ≤ t → (putT l p.o.dst .undef)[t]? = some .undef ∨ (putT l p.o.dst .undef).length ≤ t := by
      intro hh
      rw [hlen]
      rcases hh with hh | hh
      · left
        cases hd : p.o.dst with
        | none => exact hh
        | some y =>
          simp only [putT]
          rw [List.getElem?_set]
          split
          · rename_i e; subst e; rw [if_pos (List.getElem?_eq_some_iff.1 hh).1]
          · exact hh
      · exact .inr hh
    rcases ht with ⟨q, hq, hqd⟩ | ht
    · rcases List.mem_cons.1 hq with rfl | hq
      · right
        rw [hlen, hqd]
        simp only [putT]
        rcases Nat.lt_or_ge t l.length with hlt | hge
        · left; rw [List.getElem?_set, if_pos rfl, if_pos hlt]
        · exact .inr hge
      · exact .inl ⟨q, hq, hqd⟩
    · exact .inr (keep ht)

theorem drawA_ok {K : Oracle} (OK : OracleOk P K) (hm : P.follows .mixedOrders = true) {esc quiet : List Nat} {id : Nat} {ops : Array Oper} {Q : Exit → Act → World → Prop} {ds : List DRow} (ht : trDrawA P esc quiet ops = some ds)
    {X : Cx} {h : Hp} {w : World} {l : List DV} {a : Act} {l' : List DV} {h' : Hp} (S : Sim X h w) (T : TM X l a) (hr : Go.Dv.draws K ds l h [] = some (l', h'))
    (hk : ∀ X' a' w', X.le X' → Sim X' h' w' → TM X' l' a' → a'.defers = a.defers → Q .normal a' w') : (Code.region id ops true).wp P Q a w := by
  unfold trDrawA at ht
  simp only at ht
  split at ht
  · cases ht
  · rename_i ds0 h0
    generalize hal : (ds0.filter isAl).map (·.i) = al at ht
    generalize her : ((u4E (masks ops.toList []) ops.size 0 (ds0.map fun p => (p.i, rank p.o.op))).filter fun i => !al.contains i).filter _ = er at ht
    generalize hls : ((u4E (masks ops.toList []) ops.size 0 (ds0.map fun p => (p.i, rank p.o.op))).filter fun i => !al.contains i).filter _ = ls at ht
    generalize (fun j => ((cksOf (masks ops.toList []) ((ds0.filter fun p => told quiet p.o.op).map (·.i)) [] (er ++ (al ++ ls))).lookup j).getD []) = ck at ht
    split at ht
    · rename_i A E O hA hE hO
      split at ht
      · rename_i hc
        cases ht
        simp only [Bool.and_eq_true] at hc
        obtain ⟨⟨⟨⟨⟨⟨c1, c2⟩, c4⟩, c5⟩, c6⟩, c8⟩, c7⟩ := hc
        obtain ⟨gA1, gA2⟩ := u4N hA
        obtain ⟨gE1, gE2⟩ := u4N hE
        obtain ⟨gO1, gO2⟩ := u4N hO
        obtain ⟨k1, k2, k3⟩ := u6J c1
        have hmap : (A ++ (E ++ O)).map (·.i) = al ++ (er ++ ls) := by rw [List.map_append, List.map_append, gA1, gE1, gO1]
        have hlen : (A ++ (E ++ O)).length = ops.size := by
          have := congrArg List.length hmap
          rw [← k3, ← this]; simp
        obtain ⟨l1, p1, p2, p3, p4⟩ := pre_ok A l [] T hr
        have hnd : (A.map (·.i)).Nodup := by rw [gA1]; exact (List.nodup_append.1 k1).1
        refine wp_region_any hm (leftA_wp (esc := esc) (quiet := quiet) OK (A := A) (fun p hp => List.all_eq_true.1 c4 p hp) hnd (dstsB_ok c5) (X0 := X) (df := a.defers) hk ops.size _ A E O X h _ l1 [] a (fun _ => 0) hlen ⟨by simp, fun i hi => ?_, by rw [hmap]; exact k1, fun p hp => ?_, fun p hp => ?_, fun j hj x hx => ?_, fun q p r he o ho e he1 he2 => ?_⟩
          (fun p hp => hp) (fun p hp => .inl hp) (u6G c7) (fun e he p hp => List.all_eq_true.1 (List.all_eq_true.1 c6 e he) p hp) (fun o ho => ?_) (Base.refl X) (S.drew _) p2 (fun p hp t ht => p4 t (.inl ⟨p, hp, ht⟩)) (fun p hp hl => ?_) (fun p hp q hq hl => ?_) p1 rfl)
        · rw [hmap, k2]
          exact ⟨fun _ => hi, fun _ => by simp [hi]⟩
        · rw [← k2, ← hmap]; exact List.mem_map.2 ⟨p, hp, rfl⟩
        · rcases List.mem_append.1 hp with hp | hp
          · exact gA2 p hp
          · rcases List.mem_append.1 hp with hp | hp
            · exact gE2 p hp
            · exact gO2 p hp
        · exfalso
          obtain ⟨q1, q2⟩ := Array.getElem?_eq_some_iff.1 hj
          simp at q2
        · refine .inr ?_
          rw [he] at hmap
          rw [← hmap, List.map_append, List.map_cons] at c2
          rcases linear_at _ _ _ _ c2 o ho e he1 he2 with g | g
          · cases g
          · exact g
        · have := List.all_eq_true.1 c8 o ho
          simp only [lateB, Bool.and_eq_true] at this
          exact ⟨fun p hp => List.all_eq_true.1 this.1 p hp, fun e he hh => List.all_eq_true.1 this.2 e (List.mem_filter.2 ⟨he, hh⟩)⟩
        · exfalso
          obtain ⟨q1, q2⟩ := Array.getElem?_eq_some_iff.1 hl
          simp at q2
        · exfalso
          obtain ⟨q1, q2⟩ := Array.getElem?_eq_some_iff.1 hl
          simp at q2
      · cases ht
    · cases ht
end Go.Dv
/- The engine: what its run comes to, Go's comes to, whatever is drawn (u6y), and so a call (call_ok). -/
set_option linter.unusedVariables false
set_option linter.unusedSimpArgs false
namespace Go.Dv
variable {P : Program}

def trModes (P : Program) (esc : List Nat) (ops : Array Oper) : List (List Nat) → Option (List DRow)
  | [] => none
  | q :: r => match trDraw P esc q ops with
    | some ds => some ds
    | none => match trDrawA P esc q ops with
      | some ds => some ds
      | none => trModes P esc ops r
theorem trModes_ok {esc : List Nat} {ops : Array Oper} {ds : List DRow} : ∀ {l : List (List Nat)}, trModes P esc ops l = some ds → ∃ q, trDraw P esc q ops = some ds ∨ trDrawA P esc q ops = some ds
  | [], h => by cases h
  | q :: r, h => by
    rw [trModes] at h
    split at h
    · rename_i ds1 h1; cases h; exact ⟨q, .inl h1⟩
    · split at h
      · rename_i ds1 h1; cases h; exact ⟨q, .inr h1⟩
      · exact trModes_ok h
def u0l (P : Program) (esc quiet : List Nat) : Code → Option DC
  | .skip => some .skip
  | .region _ ops draw =>
    if draw then (trModes P esc ops [quiet, 4000000 :: 6000000 :: quiet, 5000000 :: quiet, 5000000 :: 6000000 :: quiet]).map .draw else (ops.toList.mapM fun o => u35 P esc (some (quiet.filter fun x => decide (2000000 ≤ x))) ops [] o).map .ops
  | .seq a b => match u0l P esc quiet a, u0l P esc quiet b with
    | some a, some b => some (.seq a b)
    | _, _ => none
  | .cond c a b => match trO c, u0l P esc quiet a, u0l P esc quiet b with
    | some c, some a, some b => some (.cond c a b)
    | _, _, _ => none
  | .block id a => if esc.contains (3000000 + id) then (u0l P esc quiet a).map (.fblock id) else (u0l P esc quiet a).map (.block id)
  | .loop a => (u0l P esc quiet a).map .loop
  | .scope a => (u0l P esc quiet a).map fun d => .scope d d
  | .label m => some (.label m)
  | .goto m => some (.goto m)
  | .exit id => some (.exit id)
  | .ret => some .ret
  | _ => none

def trRes (P : Program) : List ResultVar → Option (List (Nat × Option (Option Nat)))
  | [] => some []
  | .tmp t :: r => (trRes P r).map ((t, none) :: ·)
  | .cell a t :: r => match aggP P t, trRes P r with
    | some z, some l => some ((a, some z) :: l)
    | _, _ => none

def Ex.to : Ex → Exit
  | .normal => .normal
  | .exit id => .exit id
  | .goto l => .goto l
  | .ret => .ret

def PrimOk (P : Program) (f : FuncId) (p : List DV → Hp → Option (DV × Hp)) : Prop :=
  ∀ (args : List DV) (h : Hp) (v : DV) (h' : Hp), p args h = some (v, h') → ∀ (X : Cx) (w : World) (us : List Value), Sim X h w → VS X true args us → u62 P X w h' v (.func (.func f) #[] #[]) us
structure TblOk (P : Program) (esc quiet : FuncId → List Nat) (tbl : Table) : Prop where
  mixed : P.follows .mixedOrders = true
  at_ : ∀ (f : FuncId) (d : DF), tbl.fn f = some d → ∃ fn c, P.funcs[real f]? = some fn ∧ fn.body = some c ∧ u0l P (esc f) (quiet f) c = some d.body ∧ fn.ntmps = d.n ∧ trRes P fn.results.toList = some d.results ∧ (fn.name == "runtime.NumGoroutine") = false
  prim : ∀ f p, tbl.prim f = some p → PrimOk P (real f) p

def Ends (X : Cx) (h' : Hp) (l' : List DV) (Q : Act → World → Prop) : Prop :=
  ∀ X' a' w', X.le X' → Sim X' h' w' → TM X' l' a' → a'.defers = [] → Q a' w'

theorem after_ok {esc quiet : List Nat} {m : Nat} : ∀ (c : Code) (d : DC), u0l P esc quiet c = some d →
    (∀ r, d.after m = some r → ∃ c', findLabel c m = some c' ∧ u0l P esc quiet c' = some r) ∧ (d.after m = none → findLabel c m = none) := by
  intro c
  induction c with
  | seq a b iha ihb =>
    intro d h
    simp only [u0l] at h
    split at h
    · rename_i da db ha hb
      cases h
      obtain ⟨a1, a2⟩ := iha da ha
      obtain ⟨b1, b2⟩ := ihb db hb
      simp only [DC.after, findLabel]
      constructor
      · intro r hr
        split at hr
        · rename_i ra hra
          cases hr
          obtain ⟨c', h1, h2⟩ := a1 ra hra
          exact ⟨.seq c' b, by rw [h1], by simp [u0l, h2, hb]⟩
        · rename_i hra
          rw [a2 hra]
          exact b1 r hr
      · intro hr
        split at hr
        · cases hr
        · rename_i hra
          rw [a2 hra]
          exact b2 hr
    · cases h
  | label l' =>
    intro d h
    simp only [u0l, Option.some.injEq] at h
    subst h
    simp only [DC.after, findLabel]
    by_cases hl : (l' == m) = true
    · rw [if_pos hl, if_pos hl]; exact ⟨fun r hr => (by cases hr; exact ⟨.skip, rfl, rfl⟩), fun h => (by cases h)⟩
    · rw [if_neg hl, if_neg hl]; exact ⟨fun r hr => (by cases hr), fun _ => rfl⟩
  | _ =>
    intro d h
    have hd : d.after m = none := by
      simp only [u0l] at h
      first
        | (cases h; done)
        | (cases h; rfl)
        | (rw [Option.map_eq_some_iff] at h; obtain ⟨_, _, rfl⟩ := h; rfl)
        | (split at h
           · first
               | (rw [Option.map_eq_some_iff] at h; obtain ⟨_, _, rfl⟩ := h; rfl)
               | (cases h; rfl)
           · first
               | (rw [Option.map_eq_some_iff] at h; obtain ⟨_, _, rfl⟩ := h; rfl)
               | cases h)
    exact ⟨fun r hr => (by rw [hd] at hr; cases hr), fun _ => rfl⟩

def scopeWp (P : Program) (body cur : Code) (Q : Exit → Act → World → Prop) (a : Act) (w : World) : Prop :=
  ∀ (b : Frame) (k : List Item) (cs : List Frame), ∃ e a' w', Q e a' w' ∧ Arrives P (lone (b.at a (.code cur :: .inScope body :: k)) cs w) b k cs e a' w'

theorem step_scope' {b : Frame} {a : Act} {k : List Item} {cs : List Frame} {w : World} {c : Code} :
    Go.step P (lone (b.at a (.code (.scope c) :: k)) cs w) = .next (lone (b.at a (.code c :: .inScope c :: k)) cs w) :=
  step_lone_go (by simp [stepG, stepG.exec, Frame.at])
theorem step_inScope' {b : Frame} {a : Act} {k : List Item} {cs : List Frame} {w : World} {c : Code} :
    Go.step P (lone (b.at a (.inScope c :: k)) cs w) = .next (lone (b.at a k) cs w) :=
  step_lone_go (by simp [stepG, stepG.exec, Frame.at])

structure RunOk (P : Program) (esc quiet : FuncId → List Nat) (n : Nat) (r : DC → List DV → Hp → Option (Ex × List DV × Hp)) : Prop where
  code : ∀ (f : FuncId) (c : Code) (d : DC), u0l P (esc f) (quiet f) c = some d → ∀ (l : List DV) (h : Hp) (e : Ex) (l' : List DV) (h' : Hp), r d l h = some (e, l', h') →
    ∀ (X : Cx) (a : Act) (w : World), Sim X h w → TM X l a → a.defers = [] → ∀ Q : Exit → Act → World → Prop, Ends X h' l' (Q e.to) → c.wp P Q a w
  loop : ∀ (f : FuncId) (c : Code) (d : DC), u0l P (esc f) (quiet f) c = some d → ∀ (l : List DV) (h : Hp) (e : Ex) (l' : List DV) (h' : Hp), r (.loop d) l h = some (e, l', h') →
    ∀ (X : Cx) (a : Act) (w : World), Sim X h w → TM X l a → a.defers = [] → ∀ Q : Exit → Act → World → Prop, Ends X h' l' (Q e.to) → Code.rounds P c Q n a w
  scope : ∀ (f : FuncId) (c cur : Code) (d dcur : DC), u0l P (esc f) (quiet f) c = some d → u0l P (esc f) (quiet f) cur = some dcur → ∀ (l : List DV) (h : Hp) (e : Ex) (l' : List DV) (h' : Hp), r (.scope d dcur) l h = some (e, l', h') →
    ∀ (X : Cx) (a : Act) (w : World), Sim X h w → TM X l a → a.defers = [] → ∀ Q : Exit → Act → World → Prop, Ends X h' l' (Q e.to) → scopeWp P c cur Q a w

theorem flat1_any {X Y : Cx} {L M : Bool} {d : DV} {u : Value} (h : d.flat1 = true) (k : V X L d u) : V Y M d u := by
  cases d <;> simp [DV.flat1] at h <;> simpa only [V] using k
theorem VS.all {X Y : Cx} {L M : Bool} {p : DV → Bool} (hp : ∀ d u, p d = true → V X L d u → V Y M d u) : ∀ {ds : List DV} {us : List Value}, ds.all p = true → VS X L ds us → VS Y M ds us
  | [], [], _, _ => by simp [VS]
  | [], _ :: _, _, k => by simp [VS] at k
  | _ :: _, [], _, k => by simp [VS] at k
  | d :: ds, u :: us, h, k => by
    simp only [List.all_cons, Bool.and_eq_true] at h
    simp only [VS] at k ⊢
    exact ⟨hp d u h.1 k.1, VS.all hp h.2 k.2⟩
theorem flat2_any {X Y : Cx} {L M : Bool} {d : DV} {u : Value} (h : d.flat2 = true) (k : V X L d u) : V Y M d u := by
  unfold DV.flat2 at h
  split at h
  · simp only [V] at k ⊢
    obtain ⟨arr, k1, k2⟩ := k
    exact ⟨arr, k1, VS.all (fun d u => flat1_any) h k2⟩
  · exact flat1_any h k
theorem flat_any {X Y : Cx} {L M : Bool} {d : DV} {u : Value} (h : d.flat = true) (k : V X L d u) : V Y M d u := by
  unfold DV.flat at h
  split at h
  · simp only [V] at k ⊢
    obtain ⟨arr, k1, k2⟩ := k
    exact ⟨arr, k1, VS.all (fun d u => flat2_any) h k2⟩
  · exact flat2_any h k

theorem u5q {X : Cx} {h : Hp} {n : Nat} {d : DV} {u : Value} (hs : d.still1 = true) (k : V X true d u) : V X false (res h n d) u := by
  have e : res h n d = d := by
    cases n with
    | zero => simp [res, hs]
    | succ n => cases d <;> first | rfl | simp [DV.still1] at hs
  rw [e]
  cases d with
  | undef => simp [V]
  | fp cs => simp only [V] at k ⊢; exact k
  | row z xs => simp only [V] at k ⊢; exact k
  | bool b => simpa only [V] using k
  | int a b => simpa only [V] using k
  | str b => simpa only [V] using k
  | cell => simpa only [V] using k
  | nilp => simpa only [V] using k
  | nils => simpa only [V] using k
  | _ => simp [DV.still1] at hs
theorem VS.allMap {X Y : Cx} {L M : Bool} {p : DV → Bool} {g : DV → DV} (hp : ∀ d u, p d = true → V X L d u → V Y M (g d) u) : ∀ {ds : List DV} {us : List Value}, ds.all p = true → VS X L ds us → VS Y M (ds.map g) us
  | [], [], _, _ => by simp [VS]
  | [], _ :: _, _, k => by simp [VS] at k
  | _ :: _, [], _, k => by simp [VS] at k
  | d :: ds, u :: us, h, k => by
    simp only [List.all_cons, Bool.and_eq_true] at h
    simp only [List.map_cons, VS] at k ⊢
    exact ⟨hp d u h.1 k.1, VS.allMap hp h.2 k.2⟩
theorem still2_res {X : Cx} {h : Hp} {n : Nat} {d : DV} {u : Value} (hs : d.still2 = true) (k : V X true d u) : V X false (res h (n + 1) d) u := by
  unfold DV.still2 at hs
  split at hs
  · simp only [res, V] at k ⊢
    obtain ⟨arr, k1, k2⟩ := k
    exact ⟨arr, k1, VS.allMap (fun d u => u5q) hs k2⟩
  · simp only [res, V] at k ⊢
    obtain ⟨arr, k1, k2⟩ := k
    exact ⟨arr, k1, VS.allMap (fun d u => u5q) hs k2⟩
  · exact u5q hs k
theorem still_res {X : Cx} {h : Hp} {n : Nat} {d : DV} {u : Value} (hs : d.still = true) (k : V X true d u) : V X false (res h (n + 2) d) u := by
  unfold DV.still at hs
  split at hs
  · simp only [res, V] at k ⊢
    obtain ⟨arr, k1, k2⟩ := k
    exact ⟨arr, k1, VS.allMap (fun d u => still2_res) hs k2⟩
  · exact still2_res hs k

theorem load_run {K : Oracle} {X : Cx} {h h' : Hp} {w : World} {l : List DV} {x : Opd} {u : Value} {v : DV} {z : Option Nat} {t : TypeId} (S : Sim X h w) (hv : V X true (x.ev l) u) (hz : aggP P t = some z) (hs : step K l h (.load z x) = some (v, h')) :
    ∃ a r, u = .pointer (some a) ∧ (loadVar t a).run P w = .ok r w ∧ V X true v r := by
  have fin : ∀ b o r, (Instr.loadAt t (.pointer (some ⟨b, o, none⟩))).run P w = .ok r w → (loadVar t ⟨b, o, none⟩).run P w = .ok r w := fun b o r h => by
    simpa [Instr.loadAt, Instr.sureAddr] using h
  simp only [step] at hs
  split at hs
  · rename_i b i s e o hye
    rw [hye] at hv
    split at hs
    · rename_i k hb
      split at hs
      · rename_i r hr
        obtain ⟨g1, g2, g3⟩ := ptr_lies S hb hr hv
        split at hs
        · rename_i n
          split at hs
          · rename_i hn
            cases hs
            obtain ⟨u', u1, u2⟩ := u57 hz g3 (by simp; omega)
            exact ⟨_, u', g1, fin _ _ _ u1, u2⟩
          · cases hs
        · split at hs
          · rename_i v' hv'
            cases hs
            obtain ⟨u', u1, u2⟩ := u6f hz g3 (by rw [List.getElem?_drop]; simpa using hv')
            exact ⟨_, u', g1, fin _ _ _ u1, u2⟩
          · cases hs
      · cases hs
    · cases hs
  · rename_i r hye
    rw [hye] at hv
    obtain ⟨b, o, g1, g3, _⟩ := fp_lies S hv
    split at hs
    · rename_i n
      split at hs
      · rename_i hn
        cases hs
        obtain ⟨u', u1, u2⟩ := u57 hz g3 hn
        exact ⟨_, u', g1, fin _ _ _ u1, u2⟩
      · cases hs
    · split at hs
      · cases hs
        obtain ⟨u', u1, u2⟩ := u6f hz g3 (v := v) rfl
        exact ⟨_, u', g1, fin _ _ _ u1, u2⟩
      · cases hs
  · cases hs

def u4X (tmps : Array Value) : ResultVar → Sem Value
  | .tmp t => pure (tmps.getD t Go.undef)
  | .cell q t => do loadVar t (← asAddr (tmps.getD q Go.undef))
theorem results_eq (fn : Func) (tmps : Array Value) : results fn tmps = (do
    let vs ← fn.results.mapM (u4X tmps)
    pure (if h : vs.size = 1 then vs[0] else .tuple vs)) := by
  unfold results
  congr 2
theorem u6z {fn : Func} {rs : List (Nat × Option (Option Nat))} (hr : trRes P fn.results.toList = some rs) {X : Cx} {h : Hp} {l : List DV} {a : Act} {w : World} {v : DV} (S : Sim X h w) (T : TM X l a) (hv : u29 l h rs = some v) :
    ∃ u, (results fn a.tmps).run P w = .ok u w ∧ V X true v u := by
  have gv : ∀ t, V X true (gt l t) (a.tmps.getD t Go.undef) := fun t => u0q (x := .tmp t) rfl T
  have hm : ∀ (vars : List ResultVar) (rs : List (Nat × Option (Option Nat))) (vs : List DV), trRes P vars = some rs → u2k l h rs = some vs →
      ∃ us, (vars.mapM (u4X a.tmps)).run P w = .ok us w ∧ VS X true vs us := by
    have hf1 : ∀ t, u4X a.tmps (.tmp t) = pure (a.tmps.getD t Go.undef) := fun _ => rfl
    have hf2 : ∀ q t, u4X a.tmps (.cell q t) = (do loadVar t (← asAddr (a.tmps.getD q Go.undef))) := fun _ _ => rfl
    intro vars
    induction vars with
    | nil =>
      intro rs vs h1 h2
      simp only [trRes, Option.some.injEq] at h1
      subst h1
      simp only [u2k, Option.some.injEq] at h2
      subst h2
      exact ⟨[], by simp, by simp [VS]⟩
    | cons r vars ih =>
      intro rs vs h1 h2
      cases r with
      | tmp t =>
        simp only [trRes, Option.map_eq_some_iff] at h1
        obtain ⟨q, h3, rfl⟩ := h1
        simp only [u2k, u4t] at h2
        split at h2
        · rename_i v' vs' e1 e2
          cases h2
          cases e1
          obtain ⟨us, g1, g2⟩ := ih q vs' h3 e2
          exact ⟨a.tmps.getD t Go.undef :: us, by simp only [List.mapM_cons, hf1, Sem.run_bind, Sem.run_pure, Result.andThen_ok, g1], by simp only [VS]; exact ⟨gv t, g2⟩⟩
        · cases h2
      | cell q t =>
        simp only [trRes] at h1
        split at h1
        · rename_i z q' hz h3
          cases h1
          simp only [u2k] at h2
          split at h2
          · rename_i v' vs' e1 e2
            cases h2
            obtain ⟨us, g1, g2⟩ := ih q' vs' h3 e2
            simp only [u4t] at e1
            split at e1
            · rename_i v2 h2 hst
              cases e1
              obtain ⟨ad, r, k1, k2, k3⟩ := load_run (P := P) (x := .tmp q) S (gv q) hz hst
              refine ⟨r :: us, ?_, by simp only [VS]; exact ⟨k3, g2⟩⟩
              simp only [List.mapM_cons, hf2, k1, asAddr, Sem.run_bind, Sem.run_pure, Result.andThen_ok, k2, g1]
            · cases e1
          · cases h2
        · cases h1
  unfold u29 at hv
  rw [results_eq, ← Array.toArray_toList (xs := fn.results), List.mapM_toArray, Sem.run_bind, Sem.run_map]
  split at hv
  · rename_i v' he
    cases hv
    obtain ⟨us, g1, g2⟩ := hm _ _ _ hr he
    rw [g1]
    match us, g2 with
    | [], g2 => simp [VS] at g2
    | _ :: _ :: _, g2 => simp [VS] at g2
    | [u], g2 =>
      simp only [VS, and_true] at g2
      exact ⟨u, by simp, g2⟩
  · rename_i vs hne he
    cases hv
    obtain ⟨us, g1, g2⟩ := hm _ _ _ hr he
    rw [g1]
    have hl : ¬ us.toArray.size = 1 := by
      intro e
      have := g2.length
      have h1 : vs.length = 1 := by rw [this]; simpa using e
      match vs, h1 with
      | [x], _ => exact hne x rfl
    refine ⟨.tuple us.toArray, ?_, by simp only [V]; exact ⟨_, rfl, by simpa using g2⟩⟩
    simp only [Result.andThen_ok, Sem.run_pure]
    rw [dif_neg hl]
  · cases hv

theorem u6g (hb : Bool) (i : Nat) (k : Blk) : ¬ ((⟨[], [], 0⟩ : Hp).heap hb)[i]? = some k := by cases hb <;> simp [Hp.heap]

theorem callQ_ok {esc quiet : FuncId → List Nat} {tbl : Table} (TO : TblOk P esc quiet tbl) {r : DC → List DV → Hp → Option (Ex × List DV × Hp)} {n : Nat} (R : RunOk P esc quiet n r) {f : DV} {args : List DV} {h : Hp} {v : DV}
    (hq : callQ tbl r (res h 8 f) (args.map (res h 8)) = some v) (hfl : (v.flat || (f.still && args.all DV.still)) = true) {X : Cx} {w : World} {uf : Value} {us : List Value} (S : Sim X h w) (vf : V X true f uf) (vs : VS X true args us) : u62 P X w h v uf us := by
  unfold callQ at hq
  split at hq
  · rename_i g cap hf
    split at hq
    · cases hq
    · rename_i d hd
      split at hq
      · cases hq
      · rename_i hpar
        obtain ⟨fn, c, t1, t2, t3, t4, t5, t6⟩ := TO.at_ g d hd
        -- what is handed on
        have hZ : ∃ Z1 : Nat → Nat → Option Value, (∀ b o v, X.Z b o = some v → Z1 b o = some v) ∧ (∀ b o v, Z1 b o = some v → w.cell? ⟨b, o, none⟩ = some v) ∧ ((f.still && args.all DV.still) = true → Z1 = X.Z) ∧
            V { X with Z := Z1 } false (res h 8 f) uf ∧ VS { X with Z := Z1 } false (args.map (res h 8)) us := by
          by_cases hs : (f.still && args.all DV.still) = true
          · have hs' := hs
            rw [Bool.and_eq_true] at hs'
            exact ⟨X.Z, fun _ _ _ h => h, S.z, fun _ => rfl, still_res (n := 6) hs'.1 vf, VS.allMap (fun d u k => still_res (n := 6) k) hs'.2 vs⟩
          · exact ⟨(X.snap h w).Z, Cx.snap_Z S, Cx.snap_cell S, fun e => absurd e hs, res_ok S 8 f uf vf, vs.map (res_ok S 8)⟩
        obtain ⟨Z1, z1, z2, z3, z4, z5⟩ := hZ
        rw [hf] at z4
        have z4' := z4
        simp only [V] at z4'
        obtain ⟨arr, rfl, z6⟩ := z4'
        let Y : Cx := ⟨Z1, fun _ => ⟨0, 0, 0, 0⟩, 0, w.heap.size, fun _ => False, w⟩
        have SY : Sim Y ⟨[], [], 0⟩ w := ⟨z2, fun hb i k e => absurd e (u6g hb i k), fun hb i k hb' i' k' e => absurd e (u6g hb i k), rfl, Nat.le_refl _, fun _ _ _ => rfl, rfl, rfl, rfl, Nat.le_refl _⟩
        have hargs : VS Y true (args.map (res h 8) ++ cap) (us ++ arr.toList) :=
          (VS.gen (X := { X with Z := Z1 }) (Y := Y) (L := false) (M := true) (fun e => by cases e) (fun _ _ _ h => h) (fun e => by cases e) _ _ z5).append (VS.gen (X := { X with Z := Z1 }) (Y := Y) (L := false) (M := true) (fun e => by cases e) (fun _ _ _ h => h) (fun e => by cases e) _ _ z6)
        have hlen : (args.map (res h 8) ++ cap).length = us.length + arr.size := by simpa using hargs.length
        have hcall : (callFunc (real g) (us.toArray ++ arr)).run P w = .ok (.enter (real g) (us.toArray ++ arr)) w := by
          simp only [callFunc, Sem.run_bind, run_program, Result.andThen_ok, t1, t6, t2, Option.isNone_some, Bool.false_eq_true, if_false, Sem.run_pure]
        refine ⟨real g, arr, rfl, hcall, ?_⟩
        -- what comes back
        have fin : ∀ (e : Ex) (l' : List DV) (h' : Hp), r d.body (args.map (res h 8) ++ cap ++ List.replicate (d.n - (args.map (res h 8) ++ cap).length) .undef) ⟨[], [], 0⟩ = some (e, l', h') → e = .ret ∨ e = .normal → (u29 l' h' d.results).map (res h' 8) = some v →
            Calls P (real g) (us.toArray ++ arr) w fun e w' => ∃ u X', e = .returned u ∧ X.le X' ∧ Sim X' h w' ∧ V X' true v u := by
          intro e l' h' hr he hv
          have T0 : TM Y (args.map (res h 8) ++ cap ++ List.replicate (d.n - (args.map (res h 8) ++ cap).length) .undef) { tmps := (us.toArray ++ arr) ++ Array.replicate (fn.ntmps - (us.toArray ++ arr).size) Go.undef, defers := [] } := by
            unfold TM
            have hn : d.n - (args.map (res h 8) ++ cap).length = fn.ntmps - (us.toArray ++ arr).size := by rw [t4, hlen]; simp
            rw [hn]
            simpa using hargs.append (VS.replicate_undef (X := Y) (L := true) (fn.ntmps - (us.toArray ++ arr).size))
          refine calls_of_wp t1 t2 (R.code g c d.body t3 _ _ e l' h' hr Y _ w SY T0 rfl _ fun Y' a' w' le S' T' hdf => ?_)
          have concl : ∃ v0, (results fn a'.tmps).run P w' = .ok v0 w' ∧ ∃ u X', Ending.returned v0 = .returned u ∧ X.le X' ∧ Sim X' h w' ∧ V X' true v u := by
            rw [Option.map_eq_some_iff] at hv
            obtain ⟨v1, hv1, hv⟩ := hv
            obtain ⟨u, u1, u2⟩ := u6z (P := P) t5 S' T' hv1
            refine ⟨u, u1, u, ?_⟩
            have u3 := res_ok S' 8 _ _ u2
            rw [hv] at u3
            have hold : ∀ b, b < w.heap.size → w'.heap[b]? = w.heap[b]? := fun b hb => by
              have := S'.keep b (by rw [le.N]; exact hb) (by rw [le.U]; exact fun h => h)
              rw [le.W] at this; exact this
            have hsize : w.heap.size ≤ w'.heap.size := by have := S'.N; rw [le.N] at this; exact this
            have hos : w'.os = w.os := by have := S'.os; rw [le.W] at this; exact this
            have htape : w'.tape = w.tape := by have := S'.tape; rw [le.W] at this; exact this
            have hout : w'.output = w.output := by have := S'.out; rw [le.W] at this; exact this
            have hdr : w.drawn ≤ w'.drawn := by have := S'.dr; rw [le.W] at this; exact this
            -- the caller's heap stands, with whatever more is known
            have simX : ∀ Z2 : Nat → Nat → Option Value, (∀ b o v, X.Z b o = some v → Z2 b o = some v) → (∀ b o v, Z2 b o = some v → w'.cell? ⟨b, o, none⟩ = some v) → (∀ b o, b < w.heap.size → Z2 b o = X.Z b o) →
                X.le { X with Z := Z2 } ∧ Sim { X with Z := Z2 } h w' := by
              intro Z2 g1 g2 g3
              have le2 : X.le { X with Z := Z2 } := ⟨g1, fun b o hb _ => g3 b o (Nat.lt_of_lt_of_le hb S.N), Nat.le_refl _, fun _ _ => rfl, rfl, rfl, rfl⟩
              refine ⟨le2, ⟨g2, fun hb i k e => ?_, S.dist, S.c, Nat.le_trans S.N hsize, fun b hb hu => ?_, hos.trans S.os, htape.trans S.tape, hout.trans S.out, Nat.le_trans S.dr hdr⟩⟩
              · have B := S.blk hb i k e
                exact B.mono le2 (fun o => by rw [show ({ X with Z := Z2 } : Cx).Z = Z2 from rfl, g3 _ _ B.lt]; exact B.off o) (hold _ B.lt)
              · rw [hold b (Nat.lt_of_lt_of_le hb S.N)]; exact S.keep b hb hu
            by_cases hs : (f.still && args.all DV.still) = true
            · have hZ0 := z3 hs
              obtain ⟨k1, k2⟩ := simX (Y'.snap h' w').Z (fun b o v e => Cx.snap_Z S' b o v (le.Z b o v (z1 b o v e))) (Cx.snap_cell S') (fun b o hb => by
                have e1 : (Y'.snap h' w').Z b o = Y'.Z b o := by
                  simp only [Cx.snap]
                  rw [if_neg]
                  rintro ⟨hb', i, k, hk, rfl⟩
                  have B := S'.blk _ _ _ hk
                  rcases B.own with q | q
                  · rw [le.U] at q; exact q
                  · rw [le.N] at q; exact absurd hb (Nat.not_lt.mpr q)
                rw [e1, le.old b o hb (fun q => q)]
                exact congrFun (congrFun hZ0 b) o)
              exact ⟨_, rfl, k1, k2, V.gen (X := Y'.snap h' w') (Y := { X with Z := (Y'.snap h' w').Z }) (L := false) (M := true) (fun e => by cases e) (fun _ _ _ h => h) (fun e => by cases e) _ _ u3⟩
            · have hflat : v.flat = true := by
                rcases Bool.or_eq_true_iff.1 hfl with q | q
                · exact q
                · exact absurd q hs
              obtain ⟨k1, k2⟩ := simX X.Z (fun _ _ _ h => h) (fun b o v e => by
                have hc := S.z b o v e
                rw [u3z (hold b (u2m hc))]; exact hc) (fun _ _ _ => rfl)
              exact ⟨X, rfl, Cx.le.refl X, k2, flat_any hflat u3⟩
          obtain ⟨v0, q1, q2⟩ := concl
          rcases he with rfl | rfl
          · exact ⟨hdf, v0, q1, q2⟩
          · exact ⟨hdf, v0, q1, q2⟩
        split at hq
        · rename_i l' h' hr
          exact fin _ _ _ hr (.inl rfl) hq
        · rename_i l' h' hr
          exact fin _ _ _ hr (.inr rfl) hq
        · cases hq
  · cases hq

theorem u4p {esc quiet : FuncId → List Nat} {tbl : Table} (TO : TblOk P esc quiet tbl) {r : DC → List DV → Hp → Option (Ex × List DV × Hp)} {n : Nat} (R : RunOk P esc quiet n r) {f : DV} {args : List DV} {h h' : Hp} {v : DV}
    (hq : callK tbl r f args h = some (v, h')) {X : Cx} {w : World} {uf : Value} {us : List Value} (S : Sim X h w) (vf : V X true f uf) (vs : VS X true args us) : u62 P X w h' v uf us := by
  unfold callK at hq
  split at hq
  · rename_i g cap
    split at hq
    · rename_i p hp
      split at hq
      · rename_i hcap
        have hcap : cap = [] := by simpa using hcap
        subst hcap
        simp only [V] at vf
        obtain ⟨arr, rfl, varr⟩ := vf
        have : arr = #[] := by
          cases e : arr.toList with
          | nil => rw [← Array.toArray_toList (xs := arr), e]
          | cons x r => rw [e] at varr; simp [VS] at varr
        subst this
        exact TO.prim g p hp args h v h' hq X w us S vs
      · cases hq
    · split at hq
      · cases hq
      rename_i d hd
      split at hq
      · split at hq
        · rename_i v' hq'
          split at hq
          · rename_i hfl
            cases hq
            exact callQ_ok TO R hq' hfl S vf vs
          · cases hq
        · cases hq
      · split at hq
        · cases hq
        · rename_i hpar
          obtain ⟨fn, c, t1, t2, t3, t4, t5, t6⟩ := TO.at_ g d hd
          have vf' := vf
          simp only [V] at vf'
          obtain ⟨arr, rfl, z6⟩ := vf'
          have hargs : VS X true (args ++ cap) (us ++ arr.toList) := vs.append z6
          have hlen : (args ++ cap).length = us.length + arr.size := by simpa using hargs.length
          have hcall : (callFunc (real g) (us.toArray ++ arr)).run P w = .ok (.enter (real g) (us.toArray ++ arr)) w := by
            simp only [callFunc, Sem.run_bind, run_program, Result.andThen_ok, t1, t6, t2, Option.isNone_some, Bool.false_eq_true, if_false, Sem.run_pure]
          refine ⟨real g, arr, rfl, hcall, ?_⟩
          have fin : ∀ (e : Ex) (l1 : List DV) (h1 : Hp), r d.body (args ++ cap ++ List.replicate (d.n - (args ++ cap).length) .undef) h = some (e, l1, h1) → e = .ret ∨ e = .normal → u29 l1 h1 d.results = some v → h1 = h' →
              Calls P (real g) (us.toArray ++ arr) w fun e w' => ∃ u X', e = .returned u ∧ X.le X' ∧ Sim X' h' w' ∧ V X' true v u := by
            intro e l1 h1 hr he hv hh
            have T0 : TM X (args ++ cap ++ List.replicate (d.n - (args ++ cap).length) .undef) { tmps := (us.toArray ++ arr) ++ Array.replicate (fn.ntmps - (us.toArray ++ arr).size) Go.undef, defers := [] } := by
              unfold TM
              have hn : d.n - (args ++ cap).length = fn.ntmps - (us.toArray ++ arr).size := by rw [t4, hlen]; simp
              rw [hn]
              simpa using hargs.append (VS.replicate_undef (X := X) (L := true) (fn.ntmps - (us.toArray ++ arr).size))
            refine calls_of_wp t1 t2 (R.code g c d.body t3 _ _ e l1 h1 hr X _ w S T0 rfl _ fun X' a' w' le S' T' hdf => ?_)
            obtain ⟨u, u1, u2⟩ := u6z (P := P) t5 S' T' hv
            have q : ∃ v0, (results fn a'.tmps).run P w' = .ok v0 w' ∧ ∃ u X', Ending.returned v0 = .returned u ∧ X.le X' ∧ Sim X' h' w' ∧ V X' true v u :=
              ⟨u, u1, u, X', rfl, le, by rw [← hh]; exact S', u2⟩
            obtain ⟨v0, q1, q2⟩ := q
            rcases he with rfl | rfl
            · exact ⟨hdf, v0, q1, q2⟩
            · exact ⟨hdf, v0, q1, q2⟩
          split at hq
          · rename_i l1 h1 hr
            rw [Option.map_eq_some_iff] at hq
            obtain ⟨v1, hv1, hq⟩ := hq
            cases hq
            exact fin _ _ _ hr (.inl rfl) hv1 rfl
          · rename_i l1 h1 hr
            rw [Option.map_eq_some_iff] at hq
            obtain ⟨v1, hv1, hq⟩ := hq
            cases hq
            exact fin _ _ _ hr (.inr rfl) hv1 rfl
          · cases hq
  · cases hq

theorem calls_ok {esc quiet : FuncId → List Nat} {tbl : Table} (TO : TblOk P esc quiet tbl) {r : DC → List DV → Hp → Option (Ex × List DV × Hp)} {n : Nat} (R : RunOk P esc quiet n r) : OracleOk P (calls tbl r) :=
  ⟨fun f args h v h' hq X w uf us S vf vs => u4p TO R hq S vf vs, fun f args h v hq hfl X w uf us S vf vs => callQ_ok TO R hq hfl S vf vs⟩


theorem Sim.freeze {X : Cx} {h : Hp} {w : World} (S : Sim X h w) : X.le (X.snap ⟨[], h.R, h.c⟩ w) ∧ Sim (X.snap ⟨[], h.R, h.c⟩ w) (frzH h) w ∧ ∀ d u, V X true d u → V (X.snap ⟨[], h.R, h.c⟩ w) true (frzV h d) u := by
  have up : ∀ (hb : Bool) (i : Nat) (k : Blk), ((⟨[], h.R, h.c⟩ : Hp).heap hb)[i]? = some k → (h.heap true)[i]? = some k := by
    intro hb i k e
    cases hb with
    | true => exact e
    | false => simp [Hp.heap] at e
  have sm : ∀ (hb hb' : Bool) (i i' : Nat) (k k' : Blk), ((⟨[], h.R, h.c⟩ : Hp).heap hb)[i]? = some k → ((⟨[], h.R, h.c⟩ : Hp).heap hb')[i']? = some k' → hb = hb' := by
    intro hb hb' i i' k k' e e'
    cases hb <;> cases hb' <;> first
      | rfl
      | (simp [Hp.heap] at e; done)
      | (simp [Hp.heap] at e'; done)
  have S0 : Sim X ⟨[], h.R, h.c⟩ w := ⟨S.z, fun hb i k e => S.blk true i k (up hb i k e), fun hb i k hb' i' k' e e' hn => S.dist true i k true i' k' (up _ _ _ e) (up _ _ _ e') (fun q => hn ⟨sm _ _ _ _ _ _ e e', q.2⟩), S.c, S.N, S.keep, S.os, S.tape, S.out, S.dr⟩
  have le : X.le (X.snap ⟨[], h.R, h.c⟩ w) := by
    refine ⟨Cx.snap_Z S0, fun b o hb hu => ?_, Nat.le_refl _, fun _ _ => rfl, rfl, rfl, rfl⟩
    simp only [Cx.snap]
    rw [if_neg]
    rintro ⟨hb', i, k, hk, rfl⟩
    rcases (S0.blk _ _ _ hk).own with q | q
    · exact hu q
    · exact absurd hb (Nat.not_lt.mpr q)
  have hV : ∀ d u, V X true d u → V (X.snap ⟨[], h.R, h.c⟩ w) true (frzV h d) u := by
    intro d u k
    unfold frzV
    split
    · exact k.mono le
    · exact (res_ok S0 8 d u k).up
  have un : ∀ (hb : Bool) (i : Nat) (k : Blk), ((frzH h).heap hb)[i]? = some k → hb = false ∧ ∃ k0, (h.heap false)[i]? = some k0 ∧ k = { k0 with xs := k0.xs.map fun r => r.map (frzV h) } := by
    intro hb i k e
    cases hb with
    | true => simp [Hp.heap, frzH] at e
    | false =>
      simp only [Hp.heap, frzH, Bool.false_eq_true, if_false, List.getElem?_map, Option.map_eq_some_iff] at e
      obtain ⟨k0, e1, e2⟩ := e
      exact ⟨rfl, k0, by simpa [Hp.heap] using e1, e2.symm⟩
  refine ⟨le, ⟨Cx.snap_cell S0, fun hb i k e => ?_, fun hb i k hb' i' k' e e' hn => ?_, S.c, S.N, S.keep, S.os, S.tape, S.out, S.dr⟩, hV⟩
  · obtain ⟨rfl, k0, e0, rfl⟩ := un _ _ _ e
    have B := S.blk _ _ _ e0
    obtain ⟨cells, T, fr, h1, h2, h3, h4⟩ := B.at_
    refine ⟨B.c, B.z, by show (List.map _ k0.xs).length ≤ _; rw [List.length_map]; exact B.len, ⟨cells, T, fr, h1, h2, h3, fun e r hr => ?_⟩, B.own, fun o => ?_⟩
    · simp only [List.getElem?_map, Option.map_eq_some_iff] at hr
      obtain ⟨r0, hr0, rfl⟩ := hr
      obtain ⟨g1, g2⟩ := h4 e r0 hr0
      refine ⟨by simpa using g1, fun j d hd => ?_⟩
      simp only [List.getElem?_map, Option.map_eq_some_iff] at hd
      obtain ⟨d0, hd0, rfl⟩ := hd
      obtain ⟨u, u1, u2, u3⟩ := g2 j d0 hd0
      exact ⟨u, u1, hV d0 u u2, u3⟩
    · simp only [Cx.snap]
      rw [if_neg]
      · exact B.off o
      · rintro ⟨hb', i', k', hk', hB⟩
        exact S.dist true i' k' false i k0 (up _ _ _ hk') e0 (by simp) hB
  · obtain ⟨rfl, k0, e0, rfl⟩ := un _ _ _ e
    obtain ⟨rfl, k1, e1, rfl⟩ := un _ _ _ e'
    exact S.dist false i k0 false i' k1 e0 e1 hn
theorem u6y {esc quiet : FuncId → List Nat} {tbl : Table} (TO : TblOk P esc quiet tbl) : ∀ n, RunOk P esc quiet n (run tbl n)
  | 0 => ⟨fun f c d _ l h e l' h' hr => by simp [run] at hr, fun f c d _ l h e l' h' hr => by simp [run] at hr, fun f c cur d dcur _ _ l h e l' h' hr => by simp [run] at hr⟩
  | n + 1 => by
    have R := u6y TO n
    have OK := calls_ok TO R
    have hloop : ∀ (f : FuncId) (c : Code) (d : DC), u0l P (esc f) (quiet f) c = some d → ∀ (l : List DV) (h : Hp) (e : Ex) (l' : List DV) (h' : Hp), run tbl (n + 1) (.loop d) l h = some (e, l', h') →
        ∀ (X : Cx) (a : Act) (w : World), Sim X h w → TM X l a → a.defers = [] → ∀ Q : Exit → Act → World → Prop, Ends X h' l' (Q e.to) → Code.rounds P c Q (n + 1) a w := by
      intro f c d hc l h e l' h' hr X a w S T hdf Q hQ
      simp only [run] at hr
      rw [rounds_succ]
      cases hb : run tbl n d l h with
      | none => rw [hb] at hr; cases hr
      | some r1 =>
        obtain ⟨e1, l1, h1⟩ := r1
        rw [hb] at hr
        by_cases he : e1 = .normal
        · subst he
          simp only at hr
          refine R.code f c d hc l h .normal l1 h1 hb X a w S T hdf _ fun X' a' w' le S' T' hdf' => ?_
          exact R.loop f c d hc l1 _ e l' h' hr X' a' w' S' T' hdf' Q fun X2 a2 w2 le2 S2 T2 hdf2 => hQ X2 a2 w2 (le.trans le2) S2 T2 hdf2
        · have hr' : (e, l', h') = (e1, l1, h1) := by
            cases e1 <;> simp only at hr <;> first
              | exact absurd rfl he
              | (cases hr; rfl)
          cases hr'
          refine R.code f c d hc l h e l' h' hb X a w S T hdf _ fun X' a' w' le S' T' hdf' => ?_
          have := hQ X' a' w' le S' T' hdf'
          cases e with
          | normal => exact absurd rfl he
          | _ => exact this
    have hscope : ∀ (f : FuncId) (c cur : Code) (d dcur : DC), u0l P (esc f) (quiet f) c = some d → u0l P (esc f) (quiet f) cur = some dcur → ∀ (l : List DV) (h : Hp) (e : Ex) (l' : List DV) (h' : Hp), run tbl (n + 1) (.scope d dcur) l h = some (e, l', h') →
        ∀ (X : Cx) (a : Act) (w : World), Sim X h w → TM X l a → a.defers = [] → ∀ Q : Exit → Act → World → Prop, Ends X h' l' (Q e.to) → scopeWp P c cur Q a w := by
      intro f c cur d dcur hc hcur l h e l' h' hr X a w S T hdf Q hQ b k cs
      simp only [run] at hr
      cases hb : run tbl n dcur l h with
      | none => rw [hb] at hr; cases hr
      | some r1 =>
        obtain ⟨e1, l1, h1⟩ := r1
        rw [hb] at hr
        cases e1 with
        | goto m =>
          simp only at hr
          obtain ⟨af1, af2⟩ := after_ok (P := P) (esc := esc f) (quiet := quiet f) (m := m) c d hc
          split at hr
          · rename_i r hra
            obtain ⟨c', f1, f2⟩ := af1 r hra
            obtain ⟨e2, a2, w2, q2, r2⟩ := R.code f cur dcur hcur l h (.goto m) _ _ hb X a w S T hdf (fun ee a' w' => ee = .goto m ∧ scopeWp P c c' Q a' w') (fun X' a' w' le S' T' hdf' =>
              ⟨rfl, R.scope f c c' d r hc f2 l1 _ e l' h' hr X' a' w' S' T' hdf' Q fun X2 a2 w2 le2 S2 T2 hdf2 => hQ X2 a2 w2 (le.trans le2) S2 T2 hdf2⟩) b (.inScope c :: k) cs
            obtain ⟨rfl, q2⟩ := q2
            obtain ⟨e3, a3, w3, q3, r3⟩ := q2 b k cs
            exact ⟨e3, a3, w3, q3, .of_steps (r2 _ (by simp [gotoIn, f1])) r3⟩
          · rename_i hra
            cases hr
            obtain ⟨e2, a2, w2, q2, r2⟩ := R.code f cur dcur hcur l h (.goto m) _ _ hb X a w S T hdf (fun ee a' w' => ee = .goto m ∧ Q (.goto m) a' w') (fun X' a' w' le S' T' hdf' => ⟨rfl, hQ X' a' w' le S' T' hdf'⟩) b (.inScope c :: k) cs
            obtain ⟨rfl, q2⟩ := q2
            exact ⟨_, a2, w2, q2, fun k' hk => r2 k' (by simp [gotoIn, af2 hra, hk])⟩
        | normal =>
          cases hr
          obtain ⟨e2, a2, w2, q2, r2⟩ := R.code f cur dcur hcur l h .normal _ _ hb X a w S T hdf (fun ee a' w' => ee = .normal ∧ Q .normal a' w') (fun X' a' w' le S' T' hdf' => ⟨rfl, hQ X' a' w' le S' T' hdf'⟩) b (.inScope c :: k) cs
          obtain ⟨rfl, q2⟩ := q2
          exact ⟨_, a2, w2, q2, Steps.trans r2 (.one step_inScope')⟩
        | exit id =>
          cases hr
          obtain ⟨e2, a2, w2, q2, r2⟩ := R.code f cur dcur hcur l h (.exit id) _ _ hb X a w S T hdf (fun ee a' w' => ee = .exit id ∧ Q (.exit id) a' w') (fun X' a' w' le S' T' hdf' => ⟨rfl, hQ X' a' w' le S' T' hdf'⟩) b (.inScope c :: k) cs
          obtain ⟨rfl, q2⟩ := q2
          exact ⟨_, a2, w2, q2, fun k' hk => r2 k' (by simp [exitTo, hk])⟩
        | ret =>
          cases hr
          obtain ⟨e2, a2, w2, q2, r2⟩ := R.code f cur dcur hcur l h .ret _ _ hb X a w S T hdf (fun ee a' w' => ee = .ret ∧ Q .ret a' w') (fun X' a' w' le S' T' hdf' => ⟨rfl, hQ X' a' w' le S' T' hdf'⟩) b (.inScope c :: k) cs
          obtain ⟨rfl, q2⟩ := q2
          exact ⟨_, a2, w2, q2, r2⟩
    refine ⟨?_, hloop, hscope⟩
    intro f c d hc l h e l' h' hr X a w S T hdf Q hQ
    cases c with
    | skip =>
      simp only [u0l, Option.some.injEq] at hc
      subst hc
      simp only [run, Option.some.injEq, Prod.mk.injEq] at hr
      obtain ⟨rfl, rfl, rfl⟩ := hr
      exact wp_skip (hQ X a w (Cx.le.refl X) S T hdf)
    | label m =>
      simp only [u0l, Option.some.injEq] at hc
      subst hc
      simp only [run, Option.some.injEq, Prod.mk.injEq] at hr
      obtain ⟨rfl, rfl, rfl⟩ := hr
      exact wp_label (hQ X a w (Cx.le.refl X) S T hdf)
    | goto m =>
      simp only [u0l, Option.some.injEq] at hc
      subst hc
      simp only [run, Option.some.injEq, Prod.mk.injEq] at hr
      obtain ⟨rfl, rfl, rfl⟩ := hr
      exact wp_goto (hQ X a w (Cx.le.refl X) S T hdf)
    | exit id =>
      simp only [u0l, Option.some.injEq] at hc
      subst hc
      simp only [run, Option.some.injEq, Prod.mk.injEq] at hr
      obtain ⟨rfl, rfl, rfl⟩ := hr
      exact wp_exit (hQ X a w (Cx.le.refl X) S T hdf)
    | ret =>
      simp only [u0l, Option.some.injEq] at hc
      subst hc
      simp only [run, Option.some.injEq, Prod.mk.injEq] at hr
      obtain ⟨rfl, rfl, rfl⟩ := hr
      exact wp_ret (hQ X a w (Cx.le.refl X) S T hdf)
    | region id os draw =>
      cases draw with
      | true =>
        simp only [u0l, if_true, Option.map_eq_some_iff] at hc
        obtain ⟨ds, hds, rfl⟩ := hc
        simp only [run] at hr
        split at hr
        · rename_i l1 h1 ho
          cases hr
          obtain ⟨q, hds | hds⟩ := trModes_ok hds
          · exact draw_ok OK TO.mixed hds S T ho fun X' a' w' le S' T' hdf' => hQ X' a' w' le S' T' (hdf'.trans hdf)
          · exact drawA_ok OK TO.mixed hds S T ho fun X' a' w' le S' T' hdf' => hQ X' a' w' le S' T' (hdf'.trans hdf)
        · cases hr
      | false =>
        simp only [u0l, Bool.false_eq_true, if_false, Option.map_eq_some_iff] at hc
        obtain ⟨ds, hds, rfl⟩ := hc
        simp only [run] at hr
        split at hr
        · rename_i l1 h1 ho
          cases hr
          exact wp_region_list (list_ok OK os.toList ds hds X h w l a l' h' S T ho fun X' a' w' le S' T' hdf' => hQ X' a' w' le S' T' (hdf'.trans hdf))
        · cases hr
    | seq x y =>
      simp only [u0l] at hc
      split at hc
      · rename_i dx dy hx hy
        cases hc
        simp only [run] at hr
        cases hb : run tbl n dx l h with
        | none => rw [hb] at hr; cases hr
        | some r1 =>
          obtain ⟨e1, l1, h1⟩ := r1
          rw [hb] at hr
          refine wp_seq ?_
          by_cases he : e1 = .normal
          · subst he
            simp only at hr
            refine R.code f x dx hx l h .normal l1 h1 hb X a w S T hdf _ fun X' a' w' le S' T' hdf' => ?_
            exact R.code f y dy hy l1 h1 e l' h' hr X' a' w' S' T' hdf' Q fun X2 a2 w2 le2 S2 T2 hdf2 => hQ X2 a2 w2 (le.trans le2) S2 T2 hdf2
          · have hr' : (e, l', h') = (e1, l1, h1) := by
              cases e1 <;> simp only at hr <;> first
                | exact absurd rfl he
                | (cases hr; rfl)
            cases hr'
            refine R.code f x dx hx l h e l' h' hb X a w S T hdf _ fun X' a' w' le S' T' hdf' => ?_
            have := hQ X' a' w' le S' T' hdf'
            cases e with
            | normal => exact absurd rfl he
            | _ => exact this
      · cases hc
    | cond t x y =>
      simp only [u0l] at hc
      split at hc
      · rename_i dt dx dy ht hx hy
        cases hc
        have hv := u0q ht T
        simp only [run] at hr
        split at hr
        · rename_i hb
          rw [hb] at hv
          exact wp_cond_true hv.bool_inv (R.code f x dx hx l h e l' h' hr X a w S T hdf Q hQ)
        · rename_i hb
          rw [hb] at hv
          exact wp_cond_false hv.bool_inv (R.code f y dy hy l h e l' h' hr X a w S T hdf Q hQ)
        · cases hr
      · cases hc
    | block id x =>
      have key : ∀ dx l0 h0 X a w, u0l P (esc f) (quiet f) x = some dx → (match run tbl n dx l0 h0 with
          | some (.exit id', l', h') => if id' = id then some (.normal, l', h') else some (.exit id', l', h')
          | r => r) = some (e, l', h') → Sim X h0 w → TM X l0 a → a.defers = [] → Ends X h' l' (Q e.to) → Code.wp P (.block id x) Q a w := by
        intro dx l h X a w hx hr S T hdf hQ
        refine wp_block ?_
        cases hb : run tbl n dx l h with
        | none => rw [hb] at hr; cases hr
        | some r1 =>
          obtain ⟨e1, l1, h1⟩ := r1
          rw [hb] at hr
          cases e1 with
          | exit id' =>
            simp only at hr
            refine R.code f x dx hx l h (.exit id') l1 h1 hb X a w S T hdf _ fun X' a' w' le S' T' hdf' => ?_
            by_cases hid : id' = id
            · rw [if_pos hid] at hr
              cases hr
              simp only [Ex.to, Exit.inBlock, if_pos hid]
              exact hQ X' a' w' le S' T' hdf'
            · rw [if_neg hid] at hr
              cases hr
              simp only [Ex.to, Exit.inBlock, if_neg hid]
              exact hQ X' a' w' le S' T' hdf'
          | _ =>
            cases hr
            exact R.code f x dx hx l h _ l' h' hb X a w S T hdf _ fun X' a' w' le S' T' hdf' => hQ X' a' w' le S' T' hdf'
      simp only [u0l] at hc
      split at hc
      · rw [Option.map_eq_some_iff] at hc
        obtain ⟨dx, hx, rfl⟩ := hc
        obtain ⟨le, S', V'⟩ := S.freeze
        exact key dx _ _ _ a w hx (by simp only [run] at hr; exact hr) S' (VS.map V' T) hdf fun X2 a2 w2 le2 S2 T2 hdf2 => hQ X2 a2 w2 (le.trans le2) S2 T2 hdf2
      · rw [Option.map_eq_some_iff] at hc
        obtain ⟨dx, hx, rfl⟩ := hc
        exact key dx _ _ _ a w hx (by simp only [run] at hr; exact hr) S T hdf hQ
    | loop x =>
      simp only [u0l, Option.map_eq_some_iff] at hc
      obtain ⟨dx, hx, rfl⟩ := hc
      exact wp_loop_rounds _ (hloop f x dx hx l h e l' h' hr X a w S T hdf Q hQ)
    | scope x =>
      simp only [u0l, Option.map_eq_some_iff] at hc
      obtain ⟨dx, hx, rfl⟩ := hc
      intro b k cs
      obtain ⟨e2, a2, w2, q2, r2⟩ := hscope f x x dx dx hx hx l h e l' h' hr X a w S T hdf Q hQ b k cs
      exact ⟨e2, a2, w2, q2, .of_steps (.one step_scope') r2⟩
    | rangeFunc _ _ _ _ => simp [u0l] at hc
    | refuse _ => simp [u0l] at hc

end Go.Dv
/- The engine: the table of all of a program's functions that it can tell. -/
set_option linter.unusedVariables false
namespace Go.Dv
variable {P : Program}

structure Pol where
  pure : List FuncId
  esc : FuncId → List Nat
  virt : FuncId → List FuncId := fun _ => []
def Pol.quiet (pol : Pol) (f : FuncId) : List Nat := match pol.virt f with
  | [] => pol.pure
  | l => l.map (· + 2000000) ++ pol.pure

def funOf (P : Program) (pol : Pol) (f : FuncId) : Option DF :=
  match P.funcs[real f]? with
  | none => none
  | some fn => match fn.body with
    | none => none
    | some c => match u0l P (pol.esc f) (pol.quiet f) c, trRes P fn.results.toList with
      | some b, some rs => if fn.name == "runtime.NumGoroutine" then none else some ⟨pol.pure.contains f, fn.ntmps, fn.params.size + fn.nfree, b, rs⟩
      | _, _ => none

theorem funOf_ok {pol : Pol} (hm : P.follows .mixedOrders = true) {prim : FuncId → Option (List DV → Hp → Option (DV × Hp))} (hp : ∀ f p, prim f = some p → PrimOk P (real f) p) : TblOk P pol.esc pol.quiet ⟨funOf P pol, prim⟩ := by
  refine ⟨hm, fun f d h => ?_, hp⟩
  change funOf P pol f = some d at h
  unfold funOf at h
  split at h
  · cases h
  · rename_i fn h1
    split at h
    · cases h
    · rename_i c h2
      split at h
      · rename_i b rs h3 h4
        split at h
        · cases h
        · rename_i h5
          cases h
          exact ⟨fn, c, h1, h2, h3, rfl, h4, by simpa using h5⟩
      · cases h

end Go.Dv
/- The engine without fuel: ex, what the code comes to; equations to unfold it by. -/
set_option linter.unusedVariables false
set_option linter.unusedSimpArgs false
namespace Go.Dv
abbrev Runs := DC → List DV → Hp → Option (Ex × List DV × Hp)
def RLe (r r' : Runs) : Prop := ∀ c l h x, r c l h = some x → r' c l h = some x
structure OLe (K K' : Oracle) : Prop where
  k : ∀ f args h x, K.k f args h = some x → K'.k f args h = some x
  q : ∀ f args x, K.q f args = some x → K'.q f args = some x

theorem callQ_mono {tbl : Table} {r r' : Runs} (H : RLe r r') {f : DV} {args : List DV} {v : DV} (h : callQ tbl r f args = some v) : callQ tbl r' f args = some v := by
  unfold callQ at h ⊢
  split at h
  · split at h
    · cases h
    · rename_i d hd
      split at h
      · cases h
      · rename_i hc
        simp only [hd, if_neg hc]
        split at h <;> rename_i e
        · rw [H _ _ _ _ e]; exact h
        · rw [H _ _ _ _ e]; exact h
        · cases h
  · cases h
theorem callK_mono {tbl : Table} {r r' : Runs} (H : RLe r r') {f : DV} {args : List DV} {h : Hp} {x : DV × Hp} (e : callK tbl r f args h = some x) : callK tbl r' f args h = some x := by
  unfold callK at e ⊢
  split at e
  · split at e
    · rename_i p hp
      first | exact e | (simp only [hp]; exact e)
    · rename_i hp
      try simp only [hp]
      split at e
      · cases e
      · rename_i d hd
        try simp only [hd]
        split at e
        · rename_i hpu
          rw [if_pos hpu]
          split at e
          · rename_i v hv
            rw [callQ_mono H hv]; exact e
          · cases e
        · rename_i hpu
          rw [if_neg hpu]
          split at e
          · cases e
          · rename_i hc
            rw [if_neg hc]
            split at e <;> rename_i e2
            · rw [H _ _ _ _ e2]; exact e
            · rw [H _ _ _ _ e2]; exact e
            · cases e
  · cases e
theorem u32 {tbl : Table} {r r' : Runs} (H : RLe r r') : OLe (calls tbl r) (calls tbl r') := ⟨fun _ _ _ _ e => callK_mono H e, fun _ _ _ e => callQ_mono H e⟩
theorem u4R {K K' : Oracle} (H : OLe K K') {l : List DV} {h : Hp} {op : DOp} {x : DV × Hp} (e : step K l h op = some x) : step K' l h op = some x := by
  cases op
  case call f args ap =>
    simp only [step] at e ⊢
    split at e
    · rename_i v h' hk
      rw [H.k _ _ _ _ hk]; exact e
    · cases e
  case callq f args =>
    simp only [step] at e ⊢
    split at e
    · rename_i hc
      rw [if_pos hc]
      split at e
      · rename_i v hq
        rw [H.q _ _ _ hq]; exact e
      · cases e
    · cases e
  all_goals exact e
theorem u6e {K K' : Oracle} (H : OLe K K') : ∀ {os : List DOper} {l : List DV} {h : Hp} {x : List DV × Hp}, ops K os l h = some x → ops K' os l h = some x
  | [], l, h, x, e => e
  | o :: r, l, h, x, e => by
    simp only [ops] at e ⊢
    split at e
    · rename_i hw
      split at e
      · rename_i v h' hs
        simp only [u4R H hs]; exact u6e H e
      · cases e
    · rename_i hw
      exact u6e H e
    · cases e
theorem u4m {K K' : Oracle} (H : OLe K K') : ∀ {os : List DRow} {l : List DV} {h : Hp} {g : Log} {x : List DV × Hp}, draws K os l h g = some x → draws K' os l h g = some x
  | [], l, h, g, x, e => e
  | o :: r, l, h, g, x, e => by
    simp only [draws] at e ⊢
    split at e
    · rename_i hw
      split at e
      · rename_i v h' hs
        simp only [u4R H hs]; exact u4m H e
      · cases e
    · rename_i hw
      exact u4m H e
    · cases e

def turn (tbl : Table) (r : Runs) (c : DC) (l : List DV) (h : Hp) : Option (Ex × List DV × Hp) :=
  match c with
  | .skip => some (.normal, l, h)
  | .label _ => some (.normal, l, h)
  | .goto m => some (.goto m, l, h)
  | .exit id => some (.exit id, l, h)
  | .ret => some (.ret, l, h)
  | .ops os => match ops (calls tbl r) os l h with
    | some (l', h') => some (.normal, l', h')
    | none => none
  | .draw os => match draws (calls tbl r) os l h [] with
    | some (l', h') => some (.normal, l', h')
    | none => none
  | .seq a b => match r a l h with
    | some (.normal, l', h') => r b l' h'
    | r => r
  | .cond c a b => match c.ev l with
    | .bool true => r a l h
    | .bool false => r b l h
    | _ => none
  | .block id a => match r a l h with
    | some (.exit id', l', h') => if id' = id then some (.normal, l', h') else some (.exit id', l', h')
    | r => r
  | .fblock id a => match r a (frzL h l) (frzH h) with
    | some (.exit id', l', h') => if id' = id then some (.normal, l', h') else some (.exit id', l', h')
    | r => r
  | .loop a => match r a l h with
    | some (.normal, l', h') => r (.loop a) l' h'
    | some (e, l', h') => some (e, l', h')
    | none => none
  | .scope body cur => match r cur l h with
    | some (.goto m, l', h') => match body.after m with
      | some c' => r (.scope body c') l' h'
      | none => some (.goto m, l', h')
    | r => r
theorem run_turn (tbl : Table) (n : Nat) (c : DC) (l : List DV) (h : Hp) : run tbl (n + 1) c l h = turn tbl (run tbl n) c l h := by
  cases c <;> rfl
theorem turn_mono {tbl : Table} {r r' : Runs} (H : RLe r r') : RLe (turn tbl r) (turn tbl r') := by
  intro c l h x e
  cases c with
  | skip | label _ | goto _ | exit _ | ret => exact e
  | ops os =>
    simp only [turn] at e ⊢
    split at e
    · rename_i hs
      simp only [u6e (u32 H) hs]; exact e
    · cases e
  | draw os =>
    simp only [turn] at e ⊢
    split at e
    · rename_i hs
      simp only [u4m (u32 H) hs]; exact e
    · cases e
  | seq a b =>
    simp only [turn] at e ⊢
    cases ha : r a l h with
    | none => rw [ha] at e; cases e
    | some y =>
      obtain ⟨ey, ly, hy⟩ := y
      rw [ha] at e
      rw [H _ _ _ _ ha]
      cases ey <;> first
        | exact e
        | exact H _ _ _ _ e
  | cond c a b =>
    simp only [turn] at e ⊢
    split at e
    · exact H _ _ _ _ e
    · exact H _ _ _ _ e
    · cases e
  | block id a =>
    simp only [turn] at e ⊢
    cases ha : r a l h with
    | none => rw [ha] at e; cases e
    | some y => rw [ha] at e; rw [H _ _ _ _ ha]; exact e
  | fblock id a =>
    simp only [turn] at e ⊢
    cases ha : r a (frzL h l) (frzH h) with
    | none => rw [ha] at e; cases e
    | some y => rw [ha] at e; rw [H _ _ _ _ ha]; exact e
  | loop a =>
    simp only [turn] at e ⊢
    cases ha : r a l h with
    | none => rw [ha] at e; cases e
    | some y =>
      obtain ⟨ey, ly, hy⟩ := y
      rw [ha] at e
      rw [H _ _ _ _ ha]
      cases ey <;> first
        | exact e
        | exact H _ _ _ _ e
  | scope body cur =>
    simp only [turn] at e ⊢
    cases ha : r cur l h with
    | none => rw [ha] at e; cases e
    | some y =>
      obtain ⟨ey, ly, hy⟩ := y
      rw [ha] at e
      rw [H _ _ _ _ ha]
      cases ey with
      | goto m =>
        simp only at e ⊢
        split at e
        · rename_i hm
          first | exact H _ _ _ _ e | (simp only [hm]; exact H _ _ _ _ e)
        · rename_i hm
          first | exact e | (simp only [hm]; exact e)
      | _ => exact e
theorem run_mono (tbl : Table) : ∀ n, RLe (run tbl n) (run tbl (n + 1))
  | 0 => fun c l h x e => by simp [run] at e
  | n + 1 => fun c l h x e => by
    rw [run_turn] at e ⊢
    exact turn_mono (run_mono tbl n) _ _ _ _ e
theorem u5U (tbl : Table) {n m : Nat} (h : n ≤ m) : RLe (run tbl n) (run tbl m) := by
  induction h with
  | refl => exact fun _ _ _ _ e => e
  | step _ ih => exact fun c l h x e => run_mono tbl _ c l h x (ih c l h x e)

open Classical in
noncomputable def ex (tbl : Table) : Runs := fun c l h => if e : ∃ n x, run tbl n c l h = some x then some e.choose_spec.choose else none
theorem u1V {tbl : Table} {c : DC} {l : List DV} {h : Hp} {x : Ex × List DV × Hp} : ex tbl c l h = some x ↔ ∃ n, run tbl n c l h = some x := by
  unfold ex
  constructor
  · intro e
    split at e
    · rename_i g
      exact ⟨g.choose, by rw [← e]; exact g.choose_spec.choose_spec⟩
    · cases e
  · rintro ⟨n, hn⟩
    have g : ∃ n x, run tbl n c l h = some x := ⟨n, x, hn⟩
    rw [dif_pos g]
    have h2 := g.choose_spec.choose_spec
    have a1 := u5U tbl (Nat.le_max_left n g.choose) _ _ _ _ hn
    have a2 := u5U tbl (Nat.le_max_right n g.choose) _ _ _ _ h2
    rw [a1] at a2
    exact a2.symm
theorem run_ex (tbl : Table) (n : Nat) : RLe (run tbl n) (ex tbl) := fun _ _ _ _ e => u1V.2 ⟨n, e⟩


theorem callQ_fin {tbl : Table} {f : DV} {args : List DV} {v : DV} (h : callQ tbl (ex tbl) f args = some v) : ∃ n, callQ tbl (run tbl n) f args = some v := by
  unfold callQ at h
  split at h
  · split at h
    · cases h
    · rename_i d hd
      split at h
      · cases h
      · rename_i hc
        split at h <;> rename_i e
        · obtain ⟨n, hn⟩ := u1V.1 e
          exact ⟨n, by unfold callQ; simp only [hd, if_neg hc, hn]; exact h⟩
        · obtain ⟨n, hn⟩ := u1V.1 e
          exact ⟨n, by unfold callQ; simp only [hd, if_neg hc, hn]; exact h⟩
        · cases h
  · cases h
theorem u5m {tbl : Table} {f : DV} {args : List DV} {h : Hp} {x : DV × Hp} (e : callK tbl (ex tbl) f args h = some x) : ∃ n, callK tbl (run tbl n) f args h = some x := by
  unfold callK at e
  split at e
  · split at e
    · rename_i p hp
      exact ⟨0, by unfold callK; simp only [hp]; exact e⟩
    · rename_i hp
      split at e
      · cases e
      · rename_i d hd
        split at e
        · rename_i hpu
          split at e
          · rename_i v hv
            obtain ⟨n, hn⟩ := callQ_fin hv
            exact ⟨n, by unfold callK; simp only [hp, hd, if_pos hpu, hn]; exact e⟩
          · cases e
        · rename_i hpu
          split at e
          · cases e
          · rename_i hc
            split at e <;> rename_i e2
            · obtain ⟨n, hn⟩ := u1V.1 e2
              exact ⟨n, by unfold callK; simp only [hp, hd, if_neg hpu, if_neg hc, hn]; exact e⟩
            · obtain ⟨n, hn⟩ := u1V.1 e2
              exact ⟨n, by unfold callK; simp only [hp, hd, if_neg hpu, if_neg hc, hn]; exact e⟩
            · cases e
  · cases e
theorem step_fin {tbl : Table} {l : List DV} {h : Hp} {op : DOp} {x : DV × Hp} (e : step (calls tbl (ex tbl)) l h op = some x) : ∃ n, step (calls tbl (run tbl n)) l h op = some x := by
  cases op
  case call f args ap =>
    simp only [step] at e
    split at e
    · rename_i v h' hk
      obtain ⟨n, hn⟩ := u5m hk
      exact ⟨n, by simp only [step, calls, hn]; exact e⟩
    · cases e
  case callq f args =>
    simp only [step] at e
    split at e
    · rename_i hc
      split at e
      · rename_i v hq
        obtain ⟨n, hn⟩ := callQ_fin hq
        exact ⟨n, by simp only [step, if_pos hc, calls, hn]; exact e⟩
      · cases e
    · cases e
  all_goals exact ⟨0, e⟩
theorem ops_fin {tbl : Table} : ∀ {os : List DOper} {l : List DV} {h : Hp} {x : List DV × Hp}, ops (calls tbl (ex tbl)) os l h = some x → ∃ n, ops (calls tbl (run tbl n)) os l h = some x
  | [], l, h, x, e => ⟨0, e⟩
  | o :: r, l, h, x, e => by
    simp only [ops] at e
    split at e
    · rename_i hw
      split at e
      · rename_i v h' hs
        obtain ⟨n, hn⟩ := step_fin hs
        obtain ⟨m, hm⟩ := ops_fin e
        refine ⟨max n m, ?_⟩
        simp only [ops, hw, u4R (u32 (u5U tbl (Nat.le_max_left n m))) hn]
        exact u6e (u32 (u5U tbl (Nat.le_max_right n m))) hm
      · cases e
    · rename_i hw
      obtain ⟨m, hm⟩ := ops_fin e
      exact ⟨m, by simp only [ops, hw]; exact hm⟩
    · cases e
theorem draws_fin {tbl : Table} : ∀ {os : List DRow} {l : List DV} {h : Hp} {g : Log} {x : List DV × Hp}, draws (calls tbl (ex tbl)) os l h g = some x → ∃ n, draws (calls tbl (run tbl n)) os l h g = some x
  | [], l, h, g, x, e => ⟨0, e⟩
  | o :: r, l, h, g, x, e => by
    simp only [draws] at e
    split at e
    · rename_i hw
      split at e
      · rename_i v h' hs
        obtain ⟨n, hn⟩ := step_fin hs
        obtain ⟨m, hm⟩ := draws_fin e
        refine ⟨max n m, ?_⟩
        simp only [draws, hw, u4R (u32 (u5U tbl (Nat.le_max_left n m))) hn]
        exact u4m (u32 (u5U tbl (Nat.le_max_right n m))) hm
      · cases e
    · rename_i hw
      obtain ⟨m, hm⟩ := draws_fin e
      exact ⟨m, by simp only [draws, hw]; exact hm⟩
    · cases e
theorem turn_fin {tbl : Table} {c : DC} {l : List DV} {h : Hp} {x : Ex × List DV × Hp} (e : turn tbl (ex tbl) c l h = some x) : ∃ n, turn tbl (run tbl n) c l h = some x := by
  have both : ∀ {a b : DC} {l1 l2 : List DV} {h1 h2 : Hp} {y z : Ex × List DV × Hp}, ex tbl a l1 h1 = some y → ex tbl b l2 h2 = some z → ∃ n, run tbl n a l1 h1 = some y ∧ run tbl n b l2 h2 = some z := by
    intro a b l1 l2 h1 h2 y z e1 e2
    obtain ⟨n, hn⟩ := u1V.1 e1
    obtain ⟨m, hm⟩ := u1V.1 e2
    exact ⟨max n m, u5U tbl (Nat.le_max_left n m) _ _ _ _ hn, u5U tbl (Nat.le_max_right n m) _ _ _ _ hm⟩
  cases c with
  | skip | label _ | goto _ | exit _ | ret => exact ⟨0, e⟩
  | ops os =>
    simp only [turn] at e
    split at e
    · rename_i hs
      obtain ⟨n, hn⟩ := ops_fin hs
      exact ⟨n, by simp only [turn, hn]; exact e⟩
    · cases e
  | draw os =>
    simp only [turn] at e
    split at e
    · rename_i hs
      obtain ⟨n, hn⟩ := draws_fin hs
      exact ⟨n, by simp only [turn, hn]; exact e⟩
    · cases e
  | seq a b =>
    simp only [turn] at e
    cases ha : ex tbl a l h with
    | none => rw [ha] at e; cases e
    | some y =>
      obtain ⟨ey, ly, hy⟩ := y
      rw [ha] at e
      by_cases hn : ey = .normal
      · subst hn
        obtain ⟨n, n1, n2⟩ := both ha e
        exact ⟨n, by simp only [turn, n1]; exact n2⟩
      · obtain ⟨n, n1⟩ := u1V.1 ha
        refine ⟨n, ?_⟩
        simp only [turn, n1]
        cases ey <;> first
          | exact absurd rfl hn
          | exact e
  | cond c a b =>
    simp only [turn] at e
    split at e
    · rename_i hc
      obtain ⟨n, n1⟩ := u1V.1 e
      exact ⟨n, by simp only [turn, hc]; exact n1⟩
    · rename_i hc
      obtain ⟨n, n1⟩ := u1V.1 e
      exact ⟨n, by simp only [turn, hc]; exact n1⟩
    · cases e
  | block id a =>
    simp only [turn] at e
    cases ha : ex tbl a l h with
    | none => rw [ha] at e; cases e
    | some y =>
      rw [ha] at e
      obtain ⟨n, n1⟩ := u1V.1 ha
      exact ⟨n, by simp only [turn, n1]; exact e⟩
  | fblock id a =>
    simp only [turn] at e
    cases ha : ex tbl a (frzL h l) (frzH h) with
    | none => rw [ha] at e; cases e
    | some y =>
      rw [ha] at e
      obtain ⟨n, n1⟩ := u1V.1 ha
      exact ⟨n, by simp only [turn, n1]; exact e⟩
  | loop a =>
    simp only [turn] at e
    cases ha : ex tbl a l h with
    | none => rw [ha] at e; cases e
    | some y =>
      obtain ⟨ey, ly, hy⟩ := y
      rw [ha] at e
      by_cases hn : ey = .normal
      · subst hn
        obtain ⟨n, n1, n2⟩ := both ha e
        exact ⟨n, by simp only [turn, n1]; exact n2⟩
      · obtain ⟨n, n1⟩ := u1V.1 ha
        refine ⟨n, ?_⟩
        simp only [turn, n1]
        cases ey <;> first
          | exact absurd rfl hn
          | exact e
  | scope body cur =>
    simp only [turn] at e
    cases ha : ex tbl cur l h with
    | none => rw [ha] at e; cases e
    | some y =>
      obtain ⟨ey, ly, hy⟩ := y
      rw [ha] at e
      cases ey with
      | goto m =>
        simp only at e
        split at e
        · rename_i c' hm
          obtain ⟨n, n1, n2⟩ := both ha e
          exact ⟨n, by simp only [turn, n1, hm]; exact n2⟩
        · rename_i hm
          obtain ⟨n, n1⟩ := u1V.1 ha
          exact ⟨n, by simp only [turn, n1, hm]; exact e⟩
      | _ =>
        obtain ⟨n, n1⟩ := u1V.1 ha
        exact ⟨n, by simp only [turn, n1]; exact e⟩

theorem ex_eq (tbl : Table) (c : DC) (l : List DV) (h : Hp) : ex tbl c l h = turn tbl (ex tbl) c l h := by
  apply Option.ext
  intro x
  constructor
  · intro e
    obtain ⟨n, hn⟩ := u1V.1 e
    cases n with
    | zero => simp [run] at hn
    | succ n =>
      rw [run_turn] at hn
      exact turn_mono (run_ex tbl n) _ _ _ _ hn
  · intro e
    obtain ⟨n, hn⟩ := turn_fin e
    exact u1V.2 ⟨n + 1, by rw [run_turn]; exact hn⟩

section eqs
variable (tbl : Table) (l : List DV) (h : Hp)
theorem u1C : ex tbl .skip l h = some (.normal, l, h) := by rw [ex_eq]; rfl
theorem ex_label (m : Nat) : ex tbl (.label m) l h = some (.normal, l, h) := by rw [ex_eq]; rfl
theorem ex_goto (m : Nat) : ex tbl (.goto m) l h = some (.goto m, l, h) := by rw [ex_eq]; rfl
theorem u3c (m : Nat) : ex tbl (.exit m) l h = some (.exit m, l, h) := by rw [ex_eq]; rfl
theorem ex_ret : ex tbl .ret l h = some (.ret, l, h) := by rw [ex_eq]; rfl
theorem u0M (os : List DOper) : ex tbl (.ops os) l h = match ops (calls tbl (ex tbl)) os l h with
    | some (l', h') => some (.normal, l', h')
    | none => none := by rw [ex_eq]; rfl
theorem ex_draw (os : List DRow) : ex tbl (.draw os) l h = match draws (calls tbl (ex tbl)) os l h [] with
    | some (l', h') => some (.normal, l', h')
    | none => none := by rw [ex_eq]; rfl
theorem u0z (a b : DC) : ex tbl (.seq a b) l h = match ex tbl a l h with
    | some (.normal, l', h') => ex tbl b l' h'
    | r => r := by rw [ex_eq]; rfl
theorem u15 (c : Opd) (a b : DC) : ex tbl (.cond c a b) l h = match c.ev l with
    | .bool true => ex tbl a l h
    | .bool false => ex tbl b l h
    | _ => none := by rw [ex_eq]; rfl
theorem u0w (id : Nat) (a : DC) : ex tbl (.block id a) l h = match ex tbl a l h with
    | some (.exit id', l', h') => if id' = id then some (.normal, l', h') else some (.exit id', l', h')
    | r => r := by rw [ex_eq]; rfl
theorem u2V (a : DC) : ex tbl (.loop a) l h = match ex tbl a l h with
    | some (.normal, l', h') => ex tbl (.loop a) l' h'
    | some (e, l', h') => some (e, l', h')
    | none => none := by conv => lhs; rw [ex_eq]
                         rfl
theorem ex_scope (body cur : DC) : ex tbl (.scope body cur) l h = match ex tbl cur l h with
    | some (.goto m, l', h') => match body.after m with
      | some c' => ex tbl (.scope body c') l' h'
      | none => some (.goto m, l', h')
    | r => r := by conv => lhs; rw [ex_eq]
                   rfl
end eqs

end Go.Dv
