/- The engine: how an argument that can be read as data is opened (Opens), and how a law's row follows out of what its code comes to (law_ok). -/
import Derived.Test.YtjjhppjdnbahjaaGreatDvH
import Derived.ChangeArms
import Derived.SizedLaws
import Derived.Test.YtjjhppjdnbahjaaGreatDvD
import Derived.Shelf.SlSortCmp.WholeK
set_option linter.unusedVariables false
set_option linter.unusedSimpArgs false
namespace Go.Dv
variable {P : Program} {t e : TypeId} {N : Nat}

inductive RAll {α : Type} (p : α → Prop) : Rose α → Prop
  | mk {a : α} {l : List (Rose α)} (h : p a) (hl : l.length ≤ 140737488355328) (hk : ∀ k ∈ l, RAll p k) : RAll p (.mk a l)
def Bnd : (s : Sh) → El s → Prop
  | .int k, n => (Lit.int k n).wf = true
  | .bool, _ => True
  | .str, x => x.size ≤ 140737488355328
  | .list s, l => l.length ≤ 140737488355328 ∧ ∀ x ∈ l, Bnd s x
  | .pair a b, x => Bnd a x.1 ∧ Bnd b x.2
  | .tree a, x => RAll (Bnd a) x
  | .uno a, x => Bnd a x
  | .mark a, x => Bnd a x.2

def Cx.all (w : World) : Cx := ⟨fun b o => w.cell? ⟨b, o, none⟩, fun _ => ⟨0, 0, 0, 0⟩, 0, w.heap.size, fun _ => False, w⟩
theorem Sim.all (w : World) : Sim (Cx.all w) ⟨[], [], 0⟩ w :=
  ⟨fun _ _ _ h => h, fun hb i k e => absurd e (u6g hb i k), fun hb i k hb' i' k' e => absurd e (u6g hb i k), rfl, Nat.le_refl _, fun _ _ _ => rfl, rfl, rfl, rfl, Nat.le_refl _⟩

def Opens (N : Nat) (P : Program) (t : TypeId) (s : Sh) : Prop :=
  P.cellsOf t = s.size ∧ ∀ (H : Type) (enc : TypeId × Value → H) (w : World) (held : Bool) (fuel : Nat) (cs : List Value) (x : DataW H × List MemPlace), fuel ≤ N →
    DataW.trod enc P w 0 (fun _ => true) held fuel t cs = some x → (x.1.weights P t).all (· ≤ reachBytes) = true → ∃ (y : El s) (ds : List DV), RE s y ds ∧ VS (Cx.all w) false ds cs ∧ (∀ v ∈ cs, v.oneCell' = true) ∧ Bnd s y

theorem opens_int {k : IntKind} (hu : P.underlying t = some (.int k)) (hc : P.cellsOf t = 1) : Opens N P t (.int k) := by
  refine ⟨hc, fun H enc w held fuel cs x _ h _ => ?_⟩
  obtain ⟨n, rfl, _, hw⟩ := DataW.trod_int hu h
  exact ⟨n, [.int k n], rfl, by simp [VS, V], fun v hv => by simp at hv; subst hv; rfl, hw⟩
theorem opens_bool (hu : P.underlying t = some .bool) (hc : P.cellsOf t = 1) : Opens N P t .bool := by
  refine ⟨hc, fun H enc w held fuel cs x _ h _ => ?_⟩
  obtain ⟨n, rfl, _⟩ := DataW.trod_bool hu h
  exact ⟨n, [.bool n], rfl, by simp [VS, V], fun v hv => by simp at hv; subst hv; rfl, trivial⟩
theorem opens_string (hu : P.underlying t = some .string) (hc : P.cellsOf t = 1) : Opens N P t .str := by
  refine ⟨hc, fun H enc w held fuel cs x hN h hw => ?_⟩
  obtain ⟨s, rfl, rfl, _⟩ := DataW.trod_string hu h
  refine ⟨s, [.str s], rfl, by simp [VS, V], fun v hv => by simp at hv; subst hv; rfl, ?_⟩
  have h6 : reachBytes = 140737488351232 := rfl
  simp [DataW.weights, h6] at hw
  simp only [Bnd]; omega

theorem u4r {H : Type} {P : Program} {e : TypeId} : ∀ {l : List (DataW H)} {d : DataW H}, d ∈ l → (DataW.weightsAll P e l).all (· ≤ reachBytes) = true → (d.weights P e).all (· ≤ reachBytes) = true
  | _ :: _, _, .head _, h => by
    rw [DataW.weightsAll, List.all_append, Bool.and_eq_true] at h
    exact h.1
  | _ :: r, _, .tail _ hm, h => by
    rw [DataW.weightsAll, List.all_append, Bool.and_eq_true] at h
    exact u4r hm h.2

theorem mapM_get {α β : Type} {f : α → Option β} : ∀ {l : List α} {r : List β}, l.mapM f = some r → r.length = l.length ∧ ∀ (i : Nat) (x : α), l[i]? = some x → ∃ y, f x = some y ∧ r[i]? = some y := by
  intro l
  induction l with
  | nil => intro r h; simp at h; subst h; exact ⟨rfl, fun i x hx => by simp at hx⟩
  | cons a l ih =>
    intro r h
    rw [List.mapM_cons] at h
    cases ha : f a with
    | none => simp [ha] at h
    | some y =>
      cases hl : l.mapM f with
      | none => simp [ha, hl] at h
      | some ys =>
        simp [ha, hl] at h
        subst h
        obtain ⟨h1, h2⟩ := ih hl
        refine ⟨by simp [h1], fun i x hx => ?_⟩
        cases i with
        | zero => simp at hx; subst hx; exact ⟨y, ha, rfl⟩
        | succ i => simp at hx; simpa using h2 i x hx

theorem addr_add_add (a : Addr) (m n : Nat) : (a.add m).add n = a.add (m + n) := by
  unfold Addr.add
  by_cases h1 : m = 0
  · subst h1; simp
  · by_cases h2 : n = 0
    · subst h2; simp
    · simp [h1, h2, Nat.add_assoc]

theorem cells_get {w : World} {a : Addr} {n : Nat} {cs : List Value} (h : w.cells? 0 a n = some cs) : cs.length = n ∧ ∀ i u, cs[i]? = some u → w.cell? (a.add i) = some u := by
  unfold World.cells? at h
  rw [if_pos (Nat.zero_le _)] at h
  obtain ⟨h1, h2⟩ := mapM_get h
  rw [List.length_range] at h1
  refine ⟨h1, fun i u hu => ?_⟩
  have hi : i < n := by
    rw [← h1]
    rcases Nat.lt_or_ge i cs.length with h | h
    · exact h
    · rw [List.getElem?_eq_none h] at hu; cases hu
  obtain ⟨y, hy, hy2⟩ := h2 i i (List.getElem?_range hi)
  rw [hu] at hy2
  injection hy2 with hy2
  subst hy2
  exact hy

theorem RRows.mk {α : Type} {Q : α → List DV → Prop} : ∀ {l : List α} {rows : List (List DV)}, l.length = rows.length → (∀ (i : Nat) (x : α) (r : List DV), l[i]? = some x → rows[i]? = some r → Q x r) → RRows Q l rows
  | [], [], _, _ => trivial
  | [], _ :: _, h, _ => by simp at h
  | _ :: _, [], h, _ => by simp at h
  | x :: l, r :: rows, h, k => ⟨k 0 x r rfl rfl, RRows.mk (by simpa using h) fun i x r h1 h2 => k (i + 1) x r (by simpa using h1) (by simpa using h2)⟩

theorem u2h {s : Sh} (nb : Nat) (hd : Opens N P e s) (hu : P.underlying t = some (.slice e)) (hc : P.cellsOf t = 1) (hb : P.bytesOf e = nb) (hn : 0 < nb) (hs : 0 < s.size) : Opens N P t (.list s) := by
  refine ⟨hc, fun H enc w held fuel cs x hN h hw => ?_⟩
  rcases DataW.trod_slice hu h with ⟨rfl, rfl⟩ | ⟨a, len, cap, elems, rest, n, rfl, rfl, rfl, _, hl, hm, hlen, hel, hsp, _⟩
  · refine ⟨[], [.nils], ⟨.nils, rfl, .inl ⟨rfl, rfl⟩⟩, by simp [VS, V], fun v hv => by simp at hv; subst hv; rfl, by simp [Bnd]⟩
  · obtain ⟨hrl, _⟩ := hsp rfl
    simp only [DataW.weights, hu, List.all_cons, List.all_append, Bool.and_eq_true, decide_eq_true_eq, List.length_map] at hw
    obtain ⟨hw1, hw2, _⟩ := hw
    have each : ∀ i, i < len → ∃ (y : El s) (ds : List DV) (c : List Value), c.length = s.size ∧ RE s y ds ∧ VS (Cx.all w) false ds c ∧ (∀ v ∈ c, v.oneCell' = true) ∧ Bnd s y ∧ ∀ j u, c[j]? = some u → w.cell? (a.add (i * s.size + j)) = some u := by
      intro i hi
      have h1 := hel i hi
      have h2 : elems[i]? = some (elems[i]'(by omega)) := List.getElem?_eq_getElem (by omega)
      rw [h2, Option.bind_eq_some_iff] at h1
      obtain ⟨c, hc1, hc2⟩ := h1
      obtain ⟨hc3, hc4⟩ := cells_get hc1
      obtain ⟨y, ds, hy, hv, ho, hB⟩ := hd.2 H enc w held n c _ (by omega) hc2 (u4r (List.mem_map_of_mem (List.getElem_mem _)) hw2)
      refine ⟨y, ds, c, by rw [hc3, hd.1], hy, hv, ho, hB, fun j u hj => ?_⟩
      have := hc4 j u hj
      rwa [addr_add_add, hd.1] at this
    have build : ∀ m, m ≤ len → ∃ (ys : List (El s)) (rows : List (List DV)), ys.length = m ∧ rows.length = m ∧ (∀ y ∈ ys, Bnd s y) ∧ ∀ (i : Nat) y r, ys[i]? = some y → rows[i]? = some r → RE s y r ∧ ∃ c : List Value, c.length = s.size ∧ VS (Cx.all w) false r c ∧ (∀ v ∈ c, v.oneCell' = true) ∧ ∀ j u, c[j]? = some u → w.cell? (a.add (i * s.size + j)) = some u := by
      intro m
      induction m with
      | zero => intro _; exact ⟨[], [], rfl, rfl, by simp, by simp⟩
      | succ m ih =>
        intro hm
        obtain ⟨ys, rows, h1, h1', h2, h3⟩ := ih (by omega)
        obtain ⟨y, ds, c, g1, g2, g3, g4, g5, g6⟩ := each m (by omega)
        refine ⟨ys ++ [y], rows ++ [ds], by simp [h1], by simp [h1'], ?_, ?_⟩
        · intro z hz
          rcases List.mem_append.mp hz with hz | hz
          · exact h2 z hz
          · rw [List.mem_singleton.mp hz]; exact g5
        · intro i z r hz hr
          rcases Nat.lt_or_ge i m with hi | hi
          · rw [List.getElem?_append_left (by omega)] at hz hr
            exact h3 i z r hz hr
          · have hi2 : i = m := by
              rcases Nat.lt_or_ge m i with h | h
              · rw [List.getElem?_eq_none (by simp; omega)] at hz; cases hz
              · omega
            subst hi2
            rw [List.getElem?_append_right (by omega)] at hz hr
            rw [h1, Nat.sub_self] at hz
            rw [h1', Nat.sub_self] at hr
            simp at hz hr
            subst hz; subst hr
            exact ⟨g2, c, g1, g3, g4, g6⟩
    obtain ⟨ys, rows, h1, h1', h2, h3⟩ := build len (Nat.le_refl _)
    have hspot : rows ≠ [] → a.spot = none := by
      intro hne
      have hlp : 0 < len := by rw [← h1']; exact List.length_pos_iff.2 hne
      obtain ⟨_, _, c, g1, _, _, _, _, g6⟩ := each 0 hlp
      have h0 : c[0]? = some (c[0]'(by omega)) := List.getElem?_eq_getElem (by omega)
      have := g6 0 _ h0
      simp only [Nat.zero_mul, Nat.zero_add, Addr.add, if_true] at this
      unfold World.cell? at this
      split at this
      · split at this
        · cases this
        · rename_i hsp; simpa using hsp
      · cases this
    have hrow : RSl (RE s) s.size ys (.row s.size rows) := .inr ⟨rows, rfl, RRows.mk (by omega) fun i x r hx hr => (h3 i x r hx hr).1⟩
    refine ⟨ys, [.row s.size rows], ⟨_, rfl, hrow⟩, ?_, fun v hv => by simp at hv; subst hv; rfl, ?_, h2⟩
    · simp only [VS, V, and_true]
      refine ⟨a, cap, by rw [h1'], by omega, hspot, VRows.mk fun i r hr => ?_⟩
      have hi : i < ys.length := by
        have := (List.getElem?_eq_some_iff.1 hr).1; omega
      obtain ⟨k1, c, k2, k3, k4, k5⟩ := h3 i _ r (List.getElem?_eq_getElem hi) hr
      refine ⟨RE.length k1, u0G.mk fun j d hj => ?_⟩
      obtain ⟨u, hu1, hu2⟩ : ∃ u, c[j]? = some u ∧ V (Cx.all w) false d u := by
        have hjl : j < c.length := by
          have := (List.getElem?_eq_some_iff.1 hj).1
          rw [RE.length k1] at this; omega
        exact ⟨_, List.getElem?_eq_getElem hjl, k3.val hj (List.getElem?_eq_getElem hjl)⟩
      refine ⟨u, ?_, hu2, k4 u (List.mem_of_getElem? hu1)⟩
      have := k5 j u hu1
      have hne : rows ≠ [] := by intro h; rw [h] at hr; simp at hr
      have hsn := hspot hne
      have : w.cell? ⟨a.block, a.off + (i * s.size + j), none⟩ = some u := by
        rw [← this]
        unfold Addr.add
        split
        · rename_i h0; rw [h0, Nat.add_zero]; cases a; simp at hsn; simp [hsn]
        · rfl
      show w.cell? _ = _
      rw [Nat.add_assoc]; exact this
    · rw [hb] at hw1
      have h4 : elems.length + rest.length = cap := by omega
      rw [h4] at hw1
      have h5 : ys.length * 1 ≤ cap * nb := Nat.mul_le_mul (by omega) hn
      have h6 : reachBytes = 140737488351232 := rfl
      omega

def Fields (N : Nat) (P : Program) (fs : List Field) (o : Nat) (s : Sh) : Prop :=
  ∀ (H : Type) (enc : TypeId × Value → H) (w : World) (held : Bool) (n : Nat) (cs : List Value) (xs : List (DataW H × List MemPlace)),
    n ≤ N → cs.length = o + s.size → xs.length = fs.length → (∀ (i : Nat) (f : Field), fs[i]? = some f → DataW.trod enc P w 0 (fun _ => true) held n f.type ((cs.drop f.offset).take (P.cellsOf f.type)) = xs[i]?) →
    (DataW.weightsEach P (fs.map (·.type)) (xs.map (·.1))).all (· ≤ reachBytes) = true → ∃ (y : El s) (ds : List DV), RE s y ds ∧ VS (Cx.all w) false ds (cs.drop o) ∧ (∀ v ∈ cs.drop o, v.oneCell' = true) ∧ Bnd s y
theorem u22 {f : Field} {o : Nat} {s : Sh} (hf : f.offset = o) (hd : Opens N P f.type s) : Fields N P [f] o s := by
  intro H enc w held n cs xs hN hl hx hget hw
  match xs, hx with
  | [x], _ =>
    have h1 := hget 0 f rfl
    rw [hf, hd.1, List.take_of_length_le (by rw [List.length_drop]; omega)] at h1
    simp only [List.map_cons, List.map_nil, DataW.weightsEach, List.append_nil] at hw
    exact hd.2 H enc w held n _ x hN h1 hw
theorem u0a {f : Field} {fs : List Field} {o : Nat} {a b : Sh} (hf : f.offset = o) (ha : Opens N P f.type a) (hb : Fields N P fs (o + a.size) b) :
    Fields N P (f :: fs) o (.pair a b) := by
  intro H enc w held n cs xs hN hl hx hget hw
  match xs, hx with
  | x :: xs, hx =>
    have h1 := hget 0 f rfl
    rw [hf, ha.1] at h1
    simp only [List.map_cons, DataW.weightsEach, List.all_append, Bool.and_eq_true] at hw
    have hl2 : cs.length = o + a.size + b.size := by rw [hl]; simp only [Sh.size]; omega
    obtain ⟨y1, d1, k1, v1, o1, b1⟩ := ha.2 H enc w held n _ x hN h1 hw.1
    obtain ⟨y2, d2, k2, v2, o2, b2⟩ := hb H enc w held n cs xs hN hl2 (by simpa using hx) (fun i g hg => by simpa using hget (i + 1) g (by simpa using hg)) hw.2
    have e : cs.drop o = (cs.drop o).take a.size ++ cs.drop (o + a.size) := by rw [← List.drop_drop, List.take_append_drop]
    refine ⟨(y1, y2), d1 ++ d2, ⟨d1, d2, rfl, k1, k2⟩, ?_, fun v hv => ?_, b1, b2⟩
    · rw [e]; exact v1.append v2
    · rw [e] at hv
      rcases List.mem_append.1 hv with hv | hv
      · exact o1 v hv
      · exact o2 v hv
theorem u1d {fs : Array Field} {s : Sh} (hu : P.underlying t = some (.struct fs)) (hc : P.cellsOf t = s.size) (hF : Fields N P fs.toList 0 s) : Opens N P t s := by
  refine ⟨hc, fun H enc w held fuel cs x hN h hw => ?_⟩
  obtain ⟨xs, n, rfl, rfl, hl, hx, hget⟩ := DataW.trod_struct hu h
  simp only [DataW.weights, hu] at hw
  exact hF H enc w held n cs xs (by omega) (by rw [hl, hc]; omega) (by simpa using hx) (fun i f hf => hget i f (by simpa using hf)) hw
theorem weights_at {H : Type} {P : Program} : ∀ {ts : List TypeId} {ds : List (DataW H)} {j : Nat} {t : TypeId} {d : DataW H}, ts[j]? = some t → ds[j]? = some d →
    (DataW.weightsEach P ts ds).all (· ≤ reachBytes) = true → (d.weights P t).all (· ≤ reachBytes) = true
  | t :: ts, d :: ds, 0, _, _, ht, hd, h => by
    simp at ht hd
    subst ht; subst hd
    rw [DataW.weightsEach, List.all_append, Bool.and_eq_true] at h
    exact h.1
  | t :: ts, d :: ds, j + 1, _, _, ht, hd, h => by
    rw [DataW.weightsEach, List.all_append, Bool.and_eq_true] at h
    exact weights_at (by simpa using ht) (by simpa using hd) h.2
  | [], _, _, _, _, ht, _, _ => by simp at ht
  | _ :: _, [], _, _, _, _, hd, _ => by simp at hd

theorem castL_self {s : Sh} (l : List (El s)) : castL (s := s) l = some l := by simp [castL]
theorem u2J (t : Lv) (ht : t ≠ .deep) (h : SH) : ∀ (s : Sh) (hp : s.plain = true) (y : El s) (r : List SV), decE t h s (u0f s y r) = some (y, r)
  | .int k, _, n, r => by simp [u0f, decE]
  | .bool, _, b, r => by simp [u0f, decE]
  | .str, _, x, r => by simp [u0f, decE]
  | .list s, _, l, r => by cases t <;> first | exact absurd rfl ht | simp [u0f, decE, slL, castL_self]
  | .pair a b, hp, x, r => by
    simp only [Sh.plain, Bool.and_eq_true] at hp
    simp [u0f, decE, u2J t ht h a hp.1, u2J t ht h b hp.2]
  | .tree a, hp, x, r => by
    simp only [u0f, decE, u2J t ht h a hp, slL, castL_self]
    cases x; cases t <;> rfl
  | .uno a, hp, x, r => by simp only [u0f, decE, u2J t ht h a hp]
  | .mark a, hp, _, _ => by simp [Sh.plain] at hp
theorem u4w (h : SH) (s : Sh) (hp : s.plain = true) (y : El s) (r : List SV) : decE .all h s (u0f s y r) = some (y, r) := u2J .all (fun e => nomatch e) h s hp y r
theorem u5l (h : SH) (s : Sh) (hp : s.plain = true) (y : El s) (r : List SV) : decE .no h s (u0f s y r) = some (y, r) := u2J .no (fun e => nomatch e) h s hp y r
theorem u4y (s : Sh) (y : El s) : (valE s y).cells = u0f s y [] := by cases s <;> rfl
theorem u6n (s : Sh) (y : El s) : G.fits (.kd (.val s)) (valE s y) = true := by cases s <;> rfl
theorem law_ok {P : Program} {esc quiet : FuncId → List Nat} {tbl : Table} (TO : TblOk P esc quiet tbl) {f : FuncId} {s : Sh} {F : El s → Option Bool} (SO : u00 (calls tbl (ex tbl)) f (specO [.kd (.val s)] [.val .bool] F))
    {w : World} {u : Value} {y : El s} {ds : List DV} (hr : RE s y ds) (hv : VS (Cx.all w) false ds (match s.isAgg, u with | true, .agg arr => arr.toList | _, u => [u])) (hu : s.isAgg = true → ∃ arr, u = .agg arr) (hF : F y = some true) (rf : real f = f) (hm : s.plain = true := by rfl) :
    Calls P f #[u] w fun e w' => e = .returned (.bool true) ∧ Go.RowKit.Below w.heap.size w w' := by
  have I : Inv ⟨fun _ => none, 0, fun _ => (none, 0), 0, fun _ => 0, fun _ => 0⟩ ⟨[], []⟩ ⟨[], [], 0⟩ :=
    ⟨rfl, rfl, fun i cs h => by simp at h, fun i i' h => by simp at h, fun i k h => (by cases h), fun j fz z c h => by simp at h, fun j j' z c z' c' i m m' h => by simp at h⟩
  obtain ⟨d, hRV, hV⟩ : ∃ d, RV ⟨fun _ => none, 0, fun _ => (none, 0), 0, fun _ => 0, fun _ => 0⟩ (valE s y) d ∧ V (Cx.all w) false d u := by
    cases s with
    | int k => simp only [RE] at hr; subst hr; exact ⟨.int k y, by simp [valE, RV], by simpa [VS, Sh.isAgg] using hv⟩
    | bool => simp only [RE] at hr; subst hr; exact ⟨.bool y, by simp [valE, RV], by simpa [VS, Sh.isAgg] using hv⟩
    | str => simp only [RE] at hr; subst hr; exact ⟨.str y, by simp [valE, RV], by simpa [VS, Sh.isAgg] using hv⟩
    | list s => obtain ⟨d, rfl, hr⟩ := hr; exact ⟨d, by simpa [valE, RV] using hr, by simpa [VS, Sh.isAgg] using hv⟩
    | pair a b =>
      obtain ⟨arr, rfl⟩ := hu rfl
      refine ⟨.agg ds, ?_, ?_⟩
      · simp only [valE, RV]
        exact ⟨ds, rfl, by simpa using RE.cells (r := []) (dr := []) hr (by simp [RVs])⟩
      · simp only [V]; exact ⟨arr, rfl, hv⟩
    | tree a =>
      obtain ⟨arr, rfl⟩ := hu rfl
      refine ⟨.agg ds, ?_, ?_⟩
      · simp only [valE, RV]
        exact ⟨ds, rfl, by simpa using RE.cells (r := []) (dr := []) hr (by simp [RVs])⟩
      · simp only [V]; exact ⟨arr, rfl, hv⟩
    | mark a => simp [Sh.plain] at hm
    | uno a =>
      obtain ⟨arr, rfl⟩ := hu rfl
      refine ⟨.agg ds, ?_, ?_⟩
      · simp only [valE, RV]
        exact ⟨ds, rfl, by simpa using RE.cells (s := a) (r := []) (dr := []) hr (by simp [RVs])⟩
      · simp only [V]; exact ⟨arr, rfl, hv⟩
  have hrun : ((match specO [.kd (.val s)] [.val .bool] F with | .q _ run => run [valE s y] ⟨[], []⟩ | _ => .fail).sem) = some (.bool true) := by
    have e1 := u6n s y
    have e2 := u4y s y
    generalize valE s y = v0 at e1 e2
    simp only [specO, u2A, e1, Bool.and_self, Bool.true_eq_false, if_false, List.map_cons, List.map_nil, e2, u2b, Sh.flat, decG, u4w, u5l, hm, List.all_nil, if_true, kinds, KTy.mk, T.sem, ob, hF, Option.bind_some, resV, resL, K.put, valE]
  obtain ⟨d', r1, r2, _⟩ := SO _ ⟨[], []⟩ ⟨[], [], 0⟩ [valE s y] [d] [] (.bool true) (.inr rfl) I (by simp [RVs, hRV]) hrun
  simp only [RV] at r1
  subst r1
  have r2' : callK tbl (ex tbl) (.fn f []) [d] ⟨[], [], 0⟩ = some (.bool true, ⟨[], [], 0⟩) := r2
  obtain ⟨n, hn⟩ := u5m r2'
  have S := Sim.all w
  have vf : V (Cx.all w) true (.fn f []) (.func (.func f) #[] #[]) := by simp only [V, rf]; exact ⟨#[], rfl, by simp [VS]⟩
  have va : VS (Cx.all w) true [d] [u] := by simp only [VS, and_true]; exact hV.up
  obtain ⟨fid, arr, g1, g2, g3⟩ := u4p TO (u6y TO n) hn S vf va
  cases g1
  refine g3.mono fun e w' ⟨u', X', he, le, S', hv'⟩ => ?_
  simp only [V] at hv'
  subst hv'
  have e1 := le.W
  refine ⟨he, ⟨by rw [S'.os, e1]; rfl, by rw [S'.tape, e1]; rfl, by rw [S'.out, e1]; rfl, by have := S'.N; rw [le.N] at this; exact this, fun k hk => ?_⟩⟩
  have := S'.keep k (by rw [le.N]; exact hk) (by rw [le.U]; exact fun h => h)
  rw [e1] at this
  exact this
end Go.Dv
/- The engine: a row of which the tail is of no use any more (slices.Delete, DeleteFunc): the function is run as it is told, and the tail is dropped. -/
set_option linter.unusedVariables false
set_option linter.unusedSimpArgs false
namespace Go.Dv
variable {P : Program} {X : Cx} {h : Hp} {w : World}

def cutRes (r : Option (DV × Hp)) : Option (DV × Hp) :=
  match r with
  | some (.sl i m off len, h) => match h.R[i]? with
    | some k => if k.s = m then some (.sl i m off len, { h with R := h.R.set i { k with xs := k.xs.take (off + len) } }) else some (.sl i m off len, h)
    | none => some (.sl i m off len, h)
  | r => r

theorem Sim.cut (S : Sim X h w) {i n : Nat} {k : Blk} (hk : h.R[i]? = some k) : Sim X { h with R := h.R.set i { k with xs := k.xs.take n } } w := by
  have old : ∀ (hb : Bool) (j : Nat) (q : Blk), (({ h with R := h.R.set i { k with xs := k.xs.take n } } : Hp).heap hb)[j]? = some q → ∃ q0, (h.heap hb)[j]? = some q0 ∧ q.s = q0.s ∧ q.z = q0.z ∧ ∃ m, q.xs = q0.xs.take m := by
    intro hb j q e
    cases hb with
    | false => exact ⟨q, e, rfl, rfl, q.xs.length, by rw [List.take_of_length_le (Nat.le_refl _)]⟩
    | true =>
      simp only [Hp.heap, if_true, List.getElem?_set] at e
      split at e
      · rename_i hij
        split at e
        · cases e; subst hij; exact ⟨k, hk, rfl, rfl, n, rfl⟩
        · cases e
      · exact ⟨q, e, rfl, rfl, q.xs.length, by rw [List.take_of_length_le (Nat.le_refl _)]⟩
  refine ⟨S.z, fun hb j q e => ?_, fun hb j q hb' j' q' e e' hd => ?_, S.c, S.N, S.keep, S.os, S.tape, S.out, S.dr⟩
  · obtain ⟨q0, h1, h2, h3, m, h4⟩ := old hb j q e
    have B := S.blk hb j q0 h1
    obtain ⟨cells, T, fr, g1, g2, g3, g4⟩ := B.at_
    refine ⟨by rw [h2]; exact B.c, by rw [h2, h3]; exact B.z, by rw [h2, h4, List.length_take]; exact Nat.le_trans (Nat.min_le_right _ _) B.len, ⟨cells, T, fr, by rw [h2]; exact g1, by rw [h2, h3]; exact g2, by rw [h3]; exact g3, fun e r hr => ?_⟩, by rw [h2]; exact B.own, by rw [h2]; exact B.off⟩
    rw [h4, List.getElem?_take] at hr
    split at hr
    · rw [h2, h3]; exact g4 e r hr
    · cases hr
  · obtain ⟨q0, h1, h2, _⟩ := old hb j q e
    obtain ⟨q1, h3, h4, _⟩ := old hb' j' q' e'
    rw [h2, h4]
    exact S.dist _ _ _ _ _ _ h1 h3 hd

noncomputable def u3K (tbl : Table) (f : FuncId) (args : List DV) (h : Hp) : Option (DV × Hp) := cutRes (callK tbl (ex tbl) (.fn f []) args h)

theorem cutPrim_ok {esc quiet : FuncId → List Nat} {tbl : Table} (TO : TblOk P esc quiet tbl) (f : FuncId) : PrimOk P (real f) (u3K tbl f) := by
  intro args h v h' hp X w us S va
  unfold u3K at hp
  have vf : V X true (.fn f []) (.func (.func (real f)) #[] #[]) := by simp only [V]; exact ⟨#[], rfl, by simp [VS]⟩
  cases hc : callK tbl (ex tbl) (.fn f []) args h with
  | none => rw [hc] at hp; cases hp
  | some r =>
    obtain ⟨v0, h0⟩ := r
    obtain ⟨n, hn⟩ := u5m hc
    have := u4p TO (u6y TO n) hn S vf va
    obtain ⟨fid, arr, g1, g2, g3⟩ := this
    have same : (v, h') = (v0, h0) → u62 P X w h' v (.func (.func (real f)) #[] #[]) us := by
      intro e; cases e; exact ⟨fid, arr, g1, g2, g3⟩
    rw [hc] at hp
    cases v0 <;> simp only [cutRes, Option.some.injEq] at hp <;> try exact same hp.symm
    rename_i i m off len
    split at hp
    · rename_i k hk
      split at hp
      · simp only [Option.some.injEq, Prod.mk.injEq] at hp
        obtain ⟨rfl, rfl⟩ := hp
        exact ⟨fid, arr, g1, g2, g3.mono fun e w' ⟨u, X', h1, h2, h3, h4⟩ => ⟨u, X', h1, h2, h3.cut hk, h4⟩⟩
      · exact same (by simpa using hp.symm)
    · exact same (by simpa using hp.symm)
end Go.Dv
/- The engine: slices.Insert, of one element, by what it does (u3n), out of its three walks. -/
set_option linter.unusedVariables false
set_option linter.unusedSimpArgs false
namespace Go.Dv
variable {P : Program} {X : Cx} {h : Hp} {w : World}

def u3n (z bytes : Nat) (args : List DV) (h : Hp) : Option (DV × Hp) :=
  match args with
  | [x, .int .i64 n, .sl b' m' o' 1] => match elems h z (.sl b' m' o' 1) with
    | some [r] => match x with
      | .nils => if n = 0 ∧ room 1 bytes = true then u1j h z .nils [r] else none
      | .sl b m off len => match h.blk true b m with
        | some k => if k.z = z ∧ off + len = k.xs.length ∧ 0 ≤ n ∧ n ≤ len ∧ room (len + 1) bytes = true ∧ b' ≠ b then
            if n = len then u1j h z (.sl b m off len) [r]
            else some (.sl b h.c 0 (len + 1), { (h.put true b ⟨h.c, z, (k.xs.drop off).take n.toNat ++ [r] ++ (k.xs.drop off).drop n.toNat⟩) with c := h.c + 1 })
          else none
        | none => none
      | _ => none
    | _ => none
  | _ => none

theorem Els.append {z : Nat} {ys zs : List (List DV)} {a b : List Value} (h : Els X z ys a) (k : Els X z zs b) : Els X z (ys ++ zs) (a ++ b) := by
  refine ⟨by rw [List.length_append, List.length_append, h.len, k.len, Nat.add_mul], fun e r hr => ?_⟩
  rw [List.getElem?_append] at hr
  split at hr
  · rename_i he
    obtain ⟨h1, h2⟩ := h.get e r hr
    refine ⟨h1, fun j d hd => ?_⟩
    obtain ⟨v, g1, g2, g3⟩ := h2 j d hd
    exact ⟨v, by rw [List.getElem?_append_left (List.getElem?_eq_some_iff.1 g1).1]; exact g1, g2, g3⟩
  · rename_i he
    obtain ⟨h1, h2⟩ := k.get _ r hr
    refine ⟨h1, fun j d hd => ?_⟩
    obtain ⟨v, g1, g2, g3⟩ := h2 j d hd
    refine ⟨v, ?_, g2, g3⟩
    have : e * z + j = a.length + ((e - ys.length) * z + j) := by
      rw [h.len, ← Nat.add_assoc, ← Nat.add_mul]; congr 2; omega
    rw [this, List.getElem?_append_right (by omega), Nat.add_sub_cancel_left]
    exact g1
theorem Els.take {z n : Nat} {ys : List (List DV)} {a : List Value} (h : Els X z ys a) : Els X z (ys.take n) (a.take (n * z)) := by
  refine ⟨?_, fun e r hr => ?_⟩
  · rw [List.length_take, List.length_take, h.len]
    by_cases hc : n ≤ ys.length
    · rw [Nat.min_eq_left hc, Nat.min_eq_left (Nat.mul_le_mul_right z hc)]
    · have hc := Nat.le_of_lt (Nat.lt_of_not_le hc)
      rw [Nat.min_eq_right hc, Nat.min_eq_right (Nat.mul_le_mul_right z hc)]
  rw [List.getElem?_take] at hr
  split at hr
  · rename_i he
    obtain ⟨h1, h2⟩ := h.get e r hr
    refine ⟨h1, fun j d hd => ?_⟩
    obtain ⟨v, g1, g2, g3⟩ := h2 j d hd
    refine ⟨v, ?_, g2, g3⟩
    have hj : j < z := by rw [← h1]; exact (List.getElem?_eq_some_iff.1 hd).1
    have : (e + 1) * z ≤ n * z := Nat.mul_le_mul_right _ he
    rw [Nat.add_mul] at this
    rw [List.getElem?_take, if_pos (by omega)]; exact g1
  · cases hr
theorem Els.drop {z n : Nat} {ys : List (List DV)} {a : List Value} (h : Els X z ys a) : Els X z (ys.drop n) (a.drop (n * z)) := by
  refine ⟨by rw [List.length_drop, List.length_drop, h.len, Nat.sub_mul], fun e r hr => ?_⟩
  rw [List.getElem?_drop] at hr
  obtain ⟨h1, h2⟩ := h.get _ r hr
  refine ⟨h1, fun j d hd => ?_⟩
  obtain ⟨v, g1, g2, g3⟩ := h2 j d hd
  refine ⟨v, ?_, g2, g3⟩
  rw [List.getElem?_drop, ← g1, Nat.add_mul, Nat.add_assoc]

theorem Sim.redo (S : Sim X h w) {i : Nat} {k : Blk} (hk : (h.heap true)[i]? = some k) {w' : World} {pl : Place} {N : List (List DV)} {NC : List Value} {cells' : Array Value} {T : TypeId} {fr : Nat × Nat}
    (hB : pl.B = (X.p k.s).B ∨ pl.B = w.heap.size) (hw : But w w' pl.B) (hh : w'.heap[pl.B]? = some (.cells cells' T fr)) (hE : Els X pl.z N NC) (hN : N.length ≤ pl.cap) (hsz : pl.o + pl.cap * pl.z ≤ cells'.size)
    (hfr : ∀ o, o < cells'.size ∨ (o = cells'.size ∧ pl.z ≠ 1) → ¬ (fr.1 ≤ o ∧ o < fr.2)) (hc : ∀ q, q < NC.length → cells'[pl.o + q]? = NC[q]?) :
    X.le (X.mark pl) ∧ Sim (X.mark pl) { (h.put true i ⟨h.c, pl.z, N⟩) with c := h.c + 1 } w' := by
  have le := X.mark_le pl
  have hp := X.mark_p pl
  have B := S.blk _ _ _ hk
  refine ⟨le, ?_⟩
  have := S.upd (X' := X.mark pl) (k' := ⟨h.c, pl.z, N⟩) (w' := w') hk le rfl (by rw [S.c, hp]; exact hB) (by rw [S.c, hp]; exact hw) ?_
  · rw [S.c] at this ⊢; exact this
  · rw [S.c]
    refine ⟨Nat.lt_succ_self _, by rw [hp], by rw [hp]; exact hN, ⟨cells', T, fr, by rw [hp]; exact hh, by rw [hp]; exact hsz, hfr, fun e r hr => ?_⟩, ?_, fun o => ?_⟩
    · obtain ⟨h1, h2⟩ := hE.get e r hr
      refine ⟨h1, fun j d hd => ?_⟩
      obtain ⟨v, g1, g2, g3⟩ := h2 j d hd
      refine ⟨v, ?_, g2.mono le, g3⟩
      rw [hp, Nat.add_assoc, hc _ (List.getElem?_eq_some_iff.1 g1).1]; exact g1
    · rw [hp]
      rcases hB with hB | hB
      · rw [hB]; exact B.own
      · rw [hB]; exact .inr S.N
    · rw [hp]
      rcases hB with hB | hB
      · show X.Z _ _ = _
        rw [hB]; exact B.off o
      · show X.Z _ _ = _
        rw [hB]; exact S.Znone (Nat.le_refl _) o

structure InsWalk (P : Program) (f : FuncId) (S e z bytes : Nat) (zv : Value) : Prop where
  enters : ∀ args w, (callFunc f args).run P w = .ok (.enter f args) w
  shift : ∀ (b p0 n c i vb vo vc : Nat) (cs vs : List Value) (w : World) (hi : i < n) (hroom : n + 1 ≤ c) (hn63 : n + 1 ≤ 9223372036854775807) (hvb : vb ≠ b) (hcl : cs.length = n * z) (hvl : vs.length = z)
    (hcs : ∀ j v, cs[j]? = some v → w.cell? ⟨b, p0 + j, none⟩ = some v) (hsp : ∀ j, j < (n + 1) * z → (w.cell? ⟨b, p0 + j, none⟩).isSome = true) (hfz : ∀ j, j < (n + 1) * z → w.frozen? ⟨b, p0 + j, none⟩ = false)
    (hvs : ∀ j v, vs[j]? = some v → w.cell? ⟨vb, vo + j, none⟩ = some v) (h1c : ∀ v ∈ cs, v.oneCell' = true) (h1v : ∀ v ∈ vs, v.oneCell' = true)
    (tA tB : TypeId) (kA kB : Nat) (hsa : w.shape? vb = some (tA, kA)) (hsb : w.shape? b = some (tB, kB)) (hkB : kB ≠ 0) (hfa : w.frozen? ⟨vb, vo, none⟩ = false) (hfk : w.frozen? ⟨vb, kA, none⟩ = false),
    Calls P f #[.slice (some ⟨b, p0, none⟩) n c, .int .i64 i, .slice (some ⟨vb, vo, none⟩) 1 vc] w fun e w' =>
      e = .returned (.slice (some ⟨b, p0, none⟩) (n + 1) c) ∧ w' = (w.drew.setCells b (p0 + (i + 1) * z) (cs.drop (i * z))).setCells b (p0 + i * z) vs
  grow : ∀ (b p0 n c i vb vo vc : Nat) (cs vs : List Value) (w : World) (hi : i < n) (hnc : n ≤ c) (hroom : c < n + 1) (hbig : (n + 1) * bytes ≤ 140737488355328) (hcl : cs.length = n * z) (hvl : vs.length = z)
    (hcs : ∀ j v, cs[j]? = some v → w.cell? ⟨b, p0 + j, none⟩ = some v) (hvs : ∀ j v, vs[j]? = some v → w.cell? ⟨vb, vo + j, none⟩ = some v) (h1c : ∀ v ∈ cs, v.oneCell' = true) (h1v : ∀ v ∈ vs, v.oneCell' = true),
    Calls P f #[.slice (some ⟨b, p0, none⟩) n c, .int .i64 i, .slice (some ⟨vb, vo, none⟩) 1 vc] w fun e' w' =>
      e' = .returned (.slice (some ⟨w.heap.size, 0, none⟩) (n + 1) (grownCap w (n + 1) c e)) ∧
      w' = (((w.alloc (.cells ((cs.take (i * z)).toArray ++ Builtin.zeroCells zv.cells (n + 1 - i) ++ Builtin.zeroCells zv.cells (grownCap w (n + 1) c e - (n + 1))) e)).drew.setCells w.heap.size (i * z) vs).drew).setCells w.heap.size ((i + 1) * z) (cs.drop (i * z))
  ends : ∀ (A : Option Addr) (n c vb vo vc : Nat) (r : Value) (w W : World) (hc : n ≤ c)
    (hr : (Builtin.append_ #[S, S] S #[.slice A n c, .slice (some ⟨vb, vo, none⟩) 1 vc]).run P w = .ok r W),
    Calls P f #[.slice A n c, .int .i64 (n : Int), .slice (some ⟨vb, vo, none⟩) 1 vc] w fun e w' => e = .returned r ∧ w' = W

theorem u4q (a : Array Value) (k : Nat) : (Builtin.zeroCells a k).size = k * a.size := by simp [Builtin.zeroCells]

theorem u5J {f : FuncId} {S' e z bytes : Nat} {zv : Value} (W : InsWalk P f S' e z bytes zv) {i : TypeInfo} (ht : P.underlying S' = some (.slice e)) (hi : P.info? e = some i) (hz : i.zero = some zv) (hzl : zv.cells.size = z) (hsz : i.size = z) (hby : i.bytes = bytes)
    (hz0 : 1 < z) (hb0 : 0 < bytes) : PrimOk P f (u3n z bytes) := by
  intro args h v h' hp X w us S va
  unfold u3n at hp
  split at hp
  case h_2 => cases hp
  rename_i x n b' m' o'
  split at hp
  case h_2 => cases hp
  rename_i r hr
  obtain ⟨ux, ui, uy, rfl⟩ : ∃ a b c, us = [a, b, c] := by
    match us, va with
    | [a, b, c], _ => exact ⟨a, b, c, rfl⟩
    | [], va => simp [VS] at va
    | [_], va => simp [VS] at va
    | [_, _], va => simp [VS] at va
    | _ :: _ :: _ :: _ :: _, va => simp [VS] at va
  simp only [VS, and_true] at va
  obtain ⟨vx, vn, vy⟩ := va
  simp only [V] at vn
  subst vn
  have vy' := vy
  simp only [V] at vy
  obtain ⟨_, hsy, ay, cy, rfl, hcy, hly, hay⟩ := vy
  obtain rfl := hay (by omega)
  obtain ⟨ky, hy1, hy2⟩ : ∃ ky, h.blk true b' m' = some ky ∧ ky.z = z ∧ o' + 1 ≤ ky.xs.length := by
    simp only [elems] at hr
    split at hr
    · rename_i ky hky
      split at hr
      · rename_i hc; exact ⟨ky, hky, hc.1, hc.2⟩
      · cases hr
    · cases hr
  obtain ⟨hyk, hys⟩ := Hp.blk_some hy1
  subst hys
  have BY := S.blk _ _ _ hyk
  obtain ⟨news, hsrc, hEy⟩ := u5e (P := P) S (st := false) (tx := S') (show u1n h z false (.sl b' ky.s o' 1) = some [r] from hr) vy' ⟨e, ht⟩
  have hen : (callFunc f #[ux, .int .i64 n, .slice (some ⟨(X.p ky.s).B, (X.p ky.s).o + o' * (X.p ky.s).z, none⟩) 1 cy]).run P w = .ok (.enter f #[ux, .int .i64 n, .slice (some ⟨(X.p ky.s).B, (X.p ky.s).o + o' * (X.p ky.s).z, none⟩) 1 cy]) w := W.enters _ _
  have fin : Calls P f #[ux, .int .i64 n, .slice (some ⟨(X.p ky.s).B, (X.p ky.s).o + o' * (X.p ky.s).z, none⟩) 1 cy] w (fun e w' => ∃ u X', e = .returned u ∧ X.le X' ∧ Sim X' h' w' ∧ V X' true v u) →
      u62 P X w h' v (.func (.func f) #[] #[]) [ux, .int .i64 n, .slice (some ⟨(X.p ky.s).B, (X.p ky.s).o + o' * (X.p ky.s).z, none⟩) 1 cy] := by
    intro hcalls
    exact ⟨f, #[], rfl, by simpa using hen, by simpa using hcalls⟩
  apply fin
  -- behind an append
  have atEnd : ∀ (A : Option Addr) (len c : Nat), ux = .slice A len c → len ≤ c → n = len → u1j h z x [r] = some (v, h') → (∀ b s o q, v = .sl b s o q → room q bytes = true) →
      Calls P f #[ux, .int .i64 n, .slice (some ⟨(X.p ky.s).B, (X.p ky.s).o + o' * (X.p ky.s).z, none⟩) 1 cy] w (fun e w' => ∃ u X', e = .returned u ∧ X.le X' ∧ Sim X' h' w' ∧ V X' true v u) := by
    intro A len c hux hlc hn hap hroom
    subst hux
    subst hn
    obtain ⟨u, w', X', q1, q2, q3, q4⟩ := append_ok S hap vx (t := S') (tx := S') (ty := S') ht hi hz (by rw [hzl]) hsz (by omega) (by rw [hby]; exact hb0) (by rw [hby]; exact hroom) hsrc hEy
    refine (W.ends A len c _ _ _ u w w' hlc q1).mono fun e w'' ⟨he, hw⟩ => ?_
    subst hw
    exact ⟨u, X', he, q2, q3, q4⟩
  cases x <;> simp only at hp <;> try (cases hp; done)
  · -- nil
    simp only [V] at vx
    subst vx
    split at hp
    · rename_i hc
      refine atEnd none 0 0 rfl (Nat.le_refl _) hc.1 hp fun b s o q hv => ?_
      simp only [u1j, Option.some.injEq, Prod.mk.injEq] at hp
      rw [hv] at hp
      injection hp.1 with _ _ _ h4
      simp only [List.length_cons, List.length_nil] at h4
      rw [← h4]; exact hc.2
    · cases hp
  · rename_i b m off len
    split at hp
    case h_2 => cases hp
    rename_i k hb
    split at hp
    case isFalse => cases hp
    rename_i hcnd
    obtain ⟨hkz, htip, hn0, hn1, hroom, hbb⟩ := hcnd
    obtain ⟨hk1, hks⟩ := Hp.blk_some hb
    subst hks
    have B := S.blk _ _ _ hk1
    have vx' := vx
    simp only [V] at vx
    obtain ⟨_, hsc, at_, c, rfl, hc, hlc, ha⟩ := vx
    split at hp
    · rename_i hnl
      refine atEnd (some at_) len c rfl hlc hnl hp fun b0 s0 o0 q hv => ?_
      simp only [u1j, hb, List.length_cons, List.length_nil] at hp
      rw [if_neg (by simp [hkz]), if_neg (by omega), if_pos htip] at hp
      simp only [Option.some.injEq, Prod.mk.injEq] at hp
      rw [hv] at hp
      injection hp.1 with _ _ _ h4
      rw [← h4]; exact hroom
    · rename_i hnl
      simp only [Option.some.injEq, Prod.mk.injEq] at hp
      obtain ⟨rfl, rfl⟩ := hp
      obtain ⟨j, rfl⟩ : ∃ j : Nat, n = (j : Int) := ⟨n.toNat, by omega⟩
      rw [Int.toNat_natCast]
      have hj : j < len := by omega
      have hc0 : c ≠ 0 := by omega
      obtain rfl := ha hc0
      obtain ⟨cells, T, fr, hcl, b1, b2, b3⟩ := B.at_
      have hDl : (k.xs.drop off).length = len := by rw [List.length_drop]; omega
      have hpz : (X.p k.s).z = z := by rw [B.z, hkz]
      have hpy : (X.p ky.s).z = z := by rw [BY.z, hy2.1]
      -- the cells
      obtain ⟨cs, hEx, hcs, h1c⟩ := Els.ofLies (X := X) (w := w) (z := z) (ys := k.xs.drop off) (b := (X.p k.s).B) (o := (X.p k.s).o + off * (X.p k.s).z) fun q r0 hr0 => by
        rw [List.getElem?_drop] at hr0
        have := B.lies hr0
        rw [hkz] at this
        refine ⟨this.1, ?_⟩
        have h2 := this.2
        rw [hpz]
        rwa [Nat.add_mul, ← Nat.add_assoc] at h2
      obtain ⟨vs, hEv, hvs, h1v⟩ := Els.ofLies (X := X) (w := w) (z := z) (ys := [r]) (b := (X.p ky.s).B) (o := (X.p ky.s).o + o' * (X.p ky.s).z) fun q r0 hr0 => by
        cases q with
        | succ q => simp at hr0
        | zero =>
          have hry : ky.xs[o']? = some r := by
            have h2 := hr
            simp only [elems, hy1] at h2
            rw [if_pos hy2, Option.some.injEq] at h2
            have : ((ky.xs.drop o').take 1)[0]? = some r := by rw [h2]; rfl
            rw [List.getElem?_take, if_pos (by omega), List.getElem?_drop] at this
            simpa using this
          have := BY.lies hry
          simp at hr0; subst hr0
          rw [hy2.1] at this
          refine ⟨this.1, ?_⟩
          rw [hpy]; simpa using this.2
      have hcl' : cs.length = len * z := by rw [hEx.len, hDl]
      have hvl : vs.length = z := by rw [hEv.len]; simp
      have hlz : ∀ {a b : Nat}, a ≤ b → a * z ≤ b * z := fun h => Nat.mul_le_mul_right _ h
      have hcapz : (X.p k.s).cap * z = off * z + c * z := by rw [← hc, Nat.add_mul]
      rw [hkz] at b1
      have there : ∀ q, q < c * z → (w.cell? ⟨(X.p k.s).B, (X.p k.s).o + off * (X.p k.s).z + q, none⟩).isSome = true ∧ w.frozen? ⟨(X.p k.s).B, (X.p k.s).o + off * (X.p k.s).z + q, none⟩ = false := by
        intro q hq
        have hlt : (X.p k.s).o + off * (X.p k.s).z + q < cells.size := by rw [hpz]; omega
        refine ⟨by rw [u17 hcl]; simp [hlt], ?_⟩
        have := b2 _ (.inl hlt)
        simp only [World.frozen?, hcl]
        simpa using this
      have hne : (X.p ky.s).B ≠ (X.p k.s).B := S.dist _ _ _ _ _ _ hyk hk1 (fun hh => hbb hh.2)
      obtain ⟨cellsY, TY, frY, hclY, y1, y2, y3⟩ := BY.at_
      have hNE : Els X z ((k.xs.drop off).take j ++ [r] ++ (k.xs.drop off).drop j) (cs.take (j * z) ++ vs ++ cs.drop (j * z)) := (hEx.take.append hEv).append hEx.drop
      have hNl : ((k.xs.drop off).take j ++ [r] ++ (k.xs.drop off).drop j).length = len + 1 := by
        simp only [List.length_append, List.length_take, List.length_drop, List.length_cons, List.length_nil] at hDl ⊢; omega
      have hjz : j * z + z ≤ len * z := by have := hlz (show j + 1 ≤ len by omega); rwa [Nat.add_mul, Nat.one_mul] at this
      have hNC : (cs.take (j * z) ++ vs ++ cs.drop (j * z)).length = len * z + z := by rw [hNE.len, hNl, Nat.add_mul, Nat.one_mul]
      have h1z : (j + 1) * z = j * z + z := by rw [Nat.add_mul, Nat.one_mul]
      have htl : (cs.take (j * z)).length = j * z := by rw [List.length_take]; omega
      have hdl : (cs.drop (j * z)).length = len * z - j * z := by rw [List.length_drop, hcl']
      have hNCq : ∀ q, (cs.take (j * z) ++ vs ++ cs.drop (j * z))[q]? = if q < j * z then cs[q]? else if q < j * z + z then vs[q - j * z]? else cs[q - z]? := by
        intro q
        rw [List.append_assoc, List.getElem?_append, htl]
        split
        · rename_i hq; rw [List.getElem?_take, if_pos hq]
        · rename_i hq
          rw [List.getElem?_append, hvl]
          split
          · rename_i hq2; rw [if_pos (by omega)]
          · rename_i hq2; rw [if_neg (by omega), List.getElem?_drop]; congr 1; omega
      have butT : ∀ {a b c : World} {B0 : Nat}, But a b B0 → But b c B0 → But a c B0 := fun h k =>
        ⟨fun b' hb hl => (k.same b' hb (Nat.lt_of_lt_of_le hl h.size)).trans (h.same b' hb hl), Nat.le_trans h.size k.size, k.os.trans h.os, k.tape.trans h.tape, k.out.trans h.out, Nat.le_trans h.dr k.dr⟩
      have butD : ∀ (a : World) (B0 : Nat), But a a.drew B0 := fun a B0 => ⟨fun _ _ _ => rfl, Nat.le_refl _, rfl, rfl, rfl, Nat.le_succ _⟩
      have hn63 : len + 1 ≤ 9223372036854775807 := by
        have h2 := room_le hroom
        have : (2 * (len + 1) + 192) * 1 ≤ (2 * (len + 1) + 192) * bytes := Nat.mul_le_mul_left _ hb0
        omega
      by_cases hfit : len + 1 ≤ c
      · -- in place
        have hcz : len * z + z ≤ c * z := by have := hlz hfit; rwa [Nat.add_mul, Nat.one_mul] at this
        refine (W.shift (X.p k.s).B ((X.p k.s).o + off * (X.p k.s).z) len c j (X.p ky.s).B ((X.p ky.s).o + o' * (X.p ky.s).z) cy cs vs w hj hfit hn63 hne hcl' hvl hcs (fun q hq => (there q (by rw [Nat.add_mul, Nat.one_mul] at hq; omega)).1)
          (fun q hq => (there q (by rw [Nat.add_mul, Nat.one_mul] at hq; omega)).2) hvs h1c h1v TY T cellsY.size cells.size (by simp [World.shape?, hclY]) (by simp [World.shape?, hcl]) ?_ ?_ ?_).mono ?_
        · rw [hpz] at *; omega
        · have hlt : (X.p ky.s).o + o' * (X.p ky.s).z < cellsY.size := by
            rw [hpy]; rw [hy2.1] at y1
            have : (o' + 1) * z ≤ (X.p ky.s).cap * z := hlz (by omega)
            rw [Nat.add_mul] at this; omega
          have := y2 _ (.inl hlt)
          simp only [World.frozen?, hclY]; simpa using this
        · have := y2 cellsY.size (.inr ⟨rfl, by rw [hy2.1]; omega⟩)
          simp only [World.frozen?, hclY]; simpa using this
        · rintro e0 w' ⟨rfl, rfl⟩
          obtain ⟨c1, c2, c3, c4⟩ := u1b (X.p k.s).B (cs.drop (j * z)) ((X.p k.s).o + off * (X.p k.s).z + (j + 1) * z) w.drew cells hcl
          obtain ⟨d1, d2, d3, d4⟩ := u1b (X.p k.s).B vs ((X.p k.s).o + off * (X.p k.s).z + j * z) _ c1 c2
          obtain ⟨g1, g2⟩ := S.redo hk1 (pl := ⟨(X.p k.s).B, (X.p k.s).o + off * (X.p k.s).z, z, c⟩) (N := (k.xs.drop off).take j ++ [r] ++ (k.xs.drop off).drop j) (.inl rfl)
            (butT (butT (butD w _) (u1x _ _ _ _).1) (u1x _ _ _ _).1) d2 hNE (by rw [hNl]; exact hfit) (by rw [d3, c3]; simp only; rw [hpz]; omega)
            (fun q hq => b2 q (by rw [d3, c3] at hq; rw [hkz]; exact hq)) (fun q hq => by
              rw [hNC] at hq
              simp only
              rw [d4, c4, hNCq, hvl, hdl, c3]
              have hsz' : (X.p k.s).o + off * (X.p k.s).z + (len * z + z) ≤ cells.size := by rw [hpz]; omega
              by_cases q1 : q < j * z
              · rw [if_neg (by omega), if_neg (by omega), if_pos q1, ← u17 hcl]
                have hql : q < cs.length := by omega
                rw [List.getElem?_eq_getElem hql]
                exact hcs q _ (List.getElem?_eq_getElem hql)
              · rw [if_neg q1]
                by_cases q2 : q < j * z + z
                · rw [if_pos (by omega), if_pos q2]; congr 1; omega
                · rw [if_neg (by omega), if_pos (by omega), if_neg q2, List.getElem?_drop]; congr 1; omega)
          refine ⟨_, _, rfl, g1, g2, ?_⟩
          simp only [V]
          refine ⟨trivial, by rw [S.c]; exact Nat.lt_succ_self _, _, c, rfl, ?_, hfit, fun _ => ?_⟩
          · rw [S.c, X.mark_p]; simp
          · rw [S.c, X.mark_p]; simp
      · -- elsewhere
        have hG := grownCap_ge w (len + 1) c e
        have hGz : (len + 1) * z ≤ grownCap w (len + 1) c e * z := hlz hG
        refine (W.grow (X.p k.s).B ((X.p k.s).o + off * (X.p k.s).z) len c j (X.p ky.s).B ((X.p ky.s).o + o' * (X.p ky.s).z) cy cs vs w hj hlc (by omega) ?_ hcl' hvl hcs hvs h1c h1v).mono ?_
        · have h2 := room_le hroom
          have : (len + 1) * bytes ≤ (2 * (len + 1) + 192) * bytes := Nat.mul_le_mul_right _ (by omega)
          omega
        · rintro e0 w' ⟨rfl, rfl⟩
          generalize hGe : grownCap w (len + 1) c e = G at *
          obtain ⟨a1, a2⟩ := But.alloc w (.cells ((cs.take (j * z)).toArray ++ Builtin.zeroCells zv.cells (len + 1 - j) ++ Builtin.zeroCells zv.cells (G - (len + 1))) e)
          have hrow : ((cs.take (j * z)).toArray ++ Builtin.zeroCells zv.cells (len + 1 - j) ++ Builtin.zeroCells zv.cells (G - (len + 1))).size = G * z := by
            rw [Array.size_append, Array.size_append, u4q, u4q, hzl, List.size_toArray, htl, ← Nat.add_mul, ← Nat.add_mul]; congr 1; omega
          have hrowq : ∀ q, q < j * z → ((cs.take (j * z)).toArray ++ Builtin.zeroCells zv.cells (len + 1 - j) ++ Builtin.zeroCells zv.cells (G - (len + 1)))[q]? = cs[q]? := by
            intro q hq
            rw [Array.getElem?_append_left (by rw [Array.size_append, List.size_toArray, htl]; omega), Array.getElem?_append_left (by rw [List.size_toArray, htl]; omega)]
            simp [hq]
          generalize ((cs.take (j * z)).toArray ++ Builtin.zeroCells zv.cells (len + 1 - j) ++ Builtin.zeroCells zv.cells (G - (len + 1))) = ROW at *
          obtain ⟨c1, c2, c3, c4⟩ := u1b w.heap.size vs (j * z) (w.alloc (.cells ROW e)).drew ROW (T := e) (fr := (0, 0)) a2
          obtain ⟨d1, d2, d3, d4⟩ := u1b w.heap.size (cs.drop (j * z)) ((j + 1) * z) (((w.alloc (.cells ROW e)).drew.setCells w.heap.size (j * z) vs).drew) c1 c2
          obtain ⟨g1, g2⟩ := S.redo hk1 (pl := ⟨w.heap.size, 0, z, G⟩) (N := (k.xs.drop off).take j ++ [r] ++ (k.xs.drop off).drop j) (.inr rfl)
            (butT (butT (butT (butT a1 (butD _ _)) (u1x _ _ _ _).1) (butD _ _)) (u1x _ _ _ _).1) d2 hNE (by rw [hNl]; exact hG) (by rw [d3, c3, hrow]; simp only; omega)
            (fun q hq => by simp only; omega) (fun q hq => by
              rw [hNC] at hq
              simp only [Nat.zero_add]
              rw [d4, c4, hNCq, hvl, hdl, c3, hrow]
              rw [Nat.add_mul, Nat.one_mul] at hGz
              by_cases q1 : q < j * z
              · rw [if_neg (by omega), if_neg (by omega), if_pos q1]; exact hrowq q q1
              · rw [if_neg q1]
                by_cases q2 : q < j * z + z
                · rw [if_neg (by omega), if_pos (by omega), if_pos q2]
                · rw [if_pos (by omega), if_neg q2, List.getElem?_drop]; congr 1; omega)
          refine ⟨_, _, rfl, g1, g2, ?_⟩
          simp only [V]
          refine ⟨trivial, by rw [S.c]; exact Nat.lt_succ_self _, _, G, rfl, ?_, hG, fun _ => ?_⟩
          · rw [S.c, X.mark_p]; simp
          · rw [S.c, X.mark_p]; simp
end Go.Dv
/- The engine, second storey: slices.Clone, Delete, Insert. -/
set_option linter.unusedVariables false
set_option linter.unusedSimpArgs false
namespace Go.Dv

def cloneD (z bytes : Nat) (zero : List DV) : DF := ⟨false, 8, 1, (.seq (.ops [⟨some 2, .move (.val .nils), none⟩]) (.seq (.seq (.ops [⟨some 3, .move (.tmp 0), none⟩, ⟨some 4, .eqv .sl false (.tmp 3) (.val .nils), none⟩]) (.cond (.tmp 4) (.seq (.ops [⟨some 2, .move (.val .nils), none⟩]) .ret) .skip)) (.seq (.ops [⟨some 5, .buildSlice z 0 zero [], none⟩, ⟨some 6, .move (.tmp 0), none⟩, ⟨some 7, .append z bytes false (.tmp 5) (.tmp 6), none⟩, ⟨some 2, .move (.tmp 7), none⟩]) .ret))), [(2, none)]⟩

theorem clone_nil {tbl : Table} {f : FuncId} {z bytes : Nat} {zero : List DV} (hd : tbl.fn f = some (cloneD z bytes zero)) (hp : tbl.prim f = none) (dh : Hp) : callK tbl (ex tbl) (.fn f []) [.nils] dh = some (.nils, dh) := by
  simp [callK, hp, hd, cloneD, u0z, u0M, ex_ret, u15, ops, wants, step, putT, gt, Opd.ev, u29, u2k, u4t, eqv]
theorem elems_new {dh : Hp} {z z' : Nat} {xs : List (List DV)} {d : DV} {rows : List (List DV)} (he : elems dh z d = some rows) : elems (dh.new true z' xs).2 z d = some rows := by
  cases d <;> simp only [elems] at he ⊢ <;> try exact he
  rename_i i m off len
  split at he
  · rename_i k hk
    obtain ⟨h1, h2⟩ := Hp.blk_some hk
    have : (dh.new true z' xs).2.blk true i m = some k := by
      refine u0x ?_ h2
      simp only [Hp.heap, if_true] at h1
      simp only [Hp.new, if_true]
      rw [List.getElem?_append_left (u02 h1)]; exact h1
    rw [this]; exact he
  · cases he
theorem clone_some {tbl : Table} {f : FuncId} {z bytes : Nat} {zero : List DV} (h9 : ¬ 1000000 ≤ z) (hd : tbl.fn f = some (cloneD z bytes zero)) (hp : tbl.prim f = none) (hz : ∀ x ∈ zero, x.isCell = true) {dh : Hp} {d : DV} {rows : List (List DV)} (hne : d ≠ .nils) (he : elems dh z d = some rows) (hr : room rows.length bytes = true) :
    callK tbl (ex tbl) (.fn f []) [d] dh = if rows.length = 0 then some (.sl (dh.new true z []).1 dh.c 0 0, (dh.new true z []).2) else some (.sl (dh.new true z []).1 (dh.c + 1) 0 rows.length, { (dh.new true z []).2 with R := (dh.new true z []).2.R.set (dh.new true z []).1 ⟨dh.c + 1, z, rows⟩, c := dh.c + 2 }) := by
  have hq : eqv .sl d .nils = some false := by
    cases d <;> simp [elems] at he <;> simp_all [eqv]
  have he1 := elems_new (z' := z) (xs := []) he
  simp [callK, hp, hd, cloneD, u0z, u0M, ex_ret, u15, u1C, ops, wants, step, putT, gt, Opd.ev, u29, u2k, u4t, hq, h9]
  rw [if_pos hz]
  simp only [fill, chunk, u1n, Bool.false_eq_true, if_false, he1]
  have hb : (dh.new true z []).2.blk true (dh.new true z []).1 dh.c = some ⟨dh.c, z, []⟩ := by
    refine u0x ?_ rfl
    simp [Hp.new]
  have hc : (dh.new true z []).2.c = dh.c + 1 := by simp [Hp.new]
  simp only [u1j, hb, hc]
  by_cases h0 : rows = []
  · subst h0
    have : room 0 bytes = true := by simpa using hr
    simp [this]
  · have h0' : ¬ rows.length = 0 := by simpa using h0
    simp [h0, hr, Hp.put]

theorem elems_rows {dh : Hp} {z : Nat} {d : DV} {rows : List (List DV)} (h : elems dh z d = some rows) (hd : d = .nils) : rows = [] := by
  subst hd; simp [elems] at h; exact h

theorem RVs.one {X : RX} {v : SV} {ds : List DV} (h : RVs X [v] ds) : ∃ d, ds = [d] ∧ RV X v d := by
  obtain ⟨d, dr, rfl, h1, h2⟩ := u0A h
  cases dr with
  | nil => exact ⟨d, rfl, h1⟩
  | cons _ _ => simp [RVs] at h2

theorem u48 {tbl : Table} {f : FuncId} {z bytes : Nat} {zero : List DV} (hd : tbl.fn f = some (cloneD z bytes zero)) (hp : tbl.prim f = none) (hz : (zero.all DV.isCell) = true) (h9 : ¬ 1000000 ≤ z := by decide) : u00 (calls tbl (ex tbl)) f (cloneS z bytes) := by
  intro X h dh aa das dcap v h' hcap I L hs
  subst hcap
  rw [List.append_nil] at L
  have hz : ∀ x ∈ zero, x.isCell = true := by simpa using hz
  simp only at hs
  split at hs
  case h_2 => exact (T.sem_fail hs).elim
  rename_i v0
  split at hs
  case h_2 => exact (T.sem_fail hs).elim
  rename_i n c he
  rcases T.sem_br hs with ⟨hr, hs⟩ | ⟨_, hs⟩
  case inr => exact (T.sem_fail hs).elim
  have e := T.sem_ret hs
  simp only [Prod.mk.injEq] at e
  obtain ⟨rfl, rfl⟩ := e
  obtain ⟨d, rfl, k⟩ := L.one
  obtain ⟨rows, r1, r2, r3⟩ := sElems_ok I he k
  simp only [u1n, Bool.false_eq_true, if_false] at r1
  have hset : ∀ x : RB, ((h.R ++ [x]).set h.R.length .dead ++ [.live false z c]) = h.R ++ [.dead, .live false z c] := by
    intro x; rw [List.set_append_right _ _ (Nat.le_refl _), Nat.sub_self]; simp
  by_cases hn : d = .nils
  · have h0 := elems_rows r1 hn
    subst hn; subst h0
    obtain ⟨X1, a1, a2, a3, a4⟩ := newNil I (z := z) r2
    obtain ⟨b1, b2⟩ := killRow a2 (j := h.R.length) (by simp)
    obtain ⟨X2, c1, c2, c3, c4⟩ := newNil b1 (z := z) (c := c) (by
      have := r2.mono a1; exact this)
    refine ⟨.nils, dh, X2, clone_nil hd hp dh, a1.trans c1, ?_, ?_, ?_, fun _ _ _ => rfl⟩
    · simp only [hset] at c2; exact c2
    · simpa using c3
    · have := (a4.trans b2).trans c4
      simp only [hset] at this; exact this
  · obtain ⟨X1, a1, a2, a3, a4, a5⟩ := newRow I (z := z) (c := .raw []) (rows := []) trivial
    have hR1 : (({ h with R := h.R ++ [.live false z (.raw [])] } : SH).R)[h.R.length]? = some (.live false z (.raw [])) := by simp
    have hb1 : (dh.new true z []).2.R[(dh.new true z []).1]? = some ⟨dh.c, z, []⟩ := by simp [Hp.new]
    have hcl := clone_some h9 hd hp hz hn r1 (by rw [← r3]; exact hr)
    obtain ⟨X2, c1, c2, c3, c4⟩ := u6M a2 (mk := if rows.length = 0 then dh.c else dh.c + 1) (cc := if rows.length = 0 then dh.c + 1 else dh.c + 2) hR1 (by rw [a3]) hb1 (r2.mono a1)
    have hlen : c.len = rows.length := r2.len
    simp only [hset, List.length_append, List.length_cons, List.length_nil, Nat.zero_add] at c2 c3 c4
    have hbx : ∀ i, i < X.nb → ({ (dh.new true z []).2 with R := (dh.new true z []).2.R.set (dh.new true z []).1 ⟨if rows.length = 0 then dh.c else dh.c + 1, z, rows⟩, c := if rows.length = 0 then dh.c + 1 else dh.c + 2 } : Hp).B[X.bi i]? = dh.B[X.bi i]? := fun i _ => by simp [Hp.new]
    refine ⟨_, _, X2, ?_, a1.trans c1, c2, c3, a5.trans c4, fun i hi _ => hbx i hi⟩
    show callK tbl (ex tbl) (.fn f []) [d] dh = _
    rw [hcl, hlen]
    by_cases h0 : rows.length = 0
    · have h0' : rows = [] := by simpa using h0
      subst h0'
      simp [Hp.new]
    · simp [h0]

def u45 (z bytes : Nat) (zero : List DV) : DF := ⟨false, 33, 3, (.seq (.ops [⟨some 6, .move (.val .nils), none⟩]) (.seq (.ops [⟨some 8, .move (.tmp 0), none⟩, ⟨some 9, .move (.tmp 1), none⟩, ⟨some 10, .move (.tmp 2), none⟩, ⟨some 11, .move (.tmp 0), none⟩, ⟨some 12, .len false (.tmp 11), none⟩, ⟨some 13, .chk3 (.tmp 8) (some (.tmp 9)) (some (.tmp 10)) (.tmp 12), none⟩]) (.seq (.seq (.ops [⟨some 14, .move (.tmp 1), none⟩, ⟨some 15, .move (.tmp 2), none⟩, ⟨some 16, .bin .eql (.tmp 14) (.tmp 15), none⟩]) (.cond (.tmp 16) (.seq (.ops [⟨some 17, .move (.tmp 0), none⟩, ⟨some 6, .move (.tmp 17), none⟩]) .ret) .skip)) (.seq (.ops [⟨some 18, .move (.tmp 0), none⟩, ⟨some 19, .len false (.tmp 18), none⟩, ⟨some 7, .move (.tmp 19), none⟩]) (.seq (.draw [⟨0, [], ⟨some 20, .move (.tmp 0), none⟩⟩, ⟨1, [], ⟨some 21, .move (.tmp 1), none⟩⟩, ⟨2, [], ⟨some 22, .slice z (.tmp 20) none (some (.tmp 21)), none⟩⟩, ⟨3, [], ⟨some 23, .move (.tmp 0), none⟩⟩, ⟨4, [], ⟨some 24, .move (.tmp 2), none⟩⟩, ⟨5, [], ⟨some 25, .slice z (.tmp 23) (some (.tmp 24)) none, none⟩⟩, ⟨6, [], ⟨some 26, .append z bytes false (.tmp 22) (.tmp 25), none⟩⟩, ⟨7, [], ⟨some 0, .move (.tmp 26), none⟩⟩]) (.seq (.ops [⟨some 27, .move (.tmp 0), none⟩, ⟨some 28, .move (.tmp 0), none⟩, ⟨some 29, .len false (.tmp 28), none⟩, ⟨some 30, .move (.tmp 7), none⟩, ⟨some 31, .slice z (.tmp 27) (some (.tmp 29)) (some (.tmp 30)), none⟩, ⟨none, .clear z zero (.tmp 31), none⟩]) (.seq (.ops [⟨some 32, .move (.tmp 0), none⟩, ⟨some 6, .move (.tmp 32), none⟩]) .ret))))))), [(6, none)]⟩

theorem delete_nil {tbl : Table} {f : FuncId} {z bytes : Nat} {zero : List DV} (hd : tbl.fn f = some (u45 z bytes zero)) (hp : tbl.prim f = none) (dh : Hp) :
    callK tbl (ex tbl) (.fn f []) [.nils, .int .i64 0, .int .i64 0] dh = some (.nils, dh) := by
  simp [callK, hp, hd, u45, u0z, u0M, ex_ret, u15, ops, wants, step, putT, gt, Opd.ev, u29, u2k, u4t, lenOf, bound, binOp, intOp]
theorem delete_same {tbl : Table} {f : FuncId} {z bytes : Nat} {zero : List DV} (hd : tbl.fn f = some (u45 z bytes zero)) (hp : tbl.prim f = none) (dh : Hp) (i m n a : Nat) (ha : a ≤ n) :
    callK tbl (ex tbl) (.fn f []) [.sl i m 0 n, .int .i64 a, .int .i64 a] dh = some (.sl i m 0 n, dh) := by
  simp [callK, hp, hd, u45, u0z, u0M, ex_ret, u15, ops, wants, step, putT, gt, Opd.ev, u29, u2k, u4t, lenOf, bound, binOp, intOp, ha]
theorem delete_some {tbl : Table} {f : FuncId} {z bytes : Nat} {zero : List DV} (h9 : ¬ 1000000 ≤ z) (hd : tbl.fn f = some (u45 z bytes zero)) (hp : tbl.prim f = none) (hz0 : 0 < z) {dh : Hp} {i m n a b : Nat} {k : Blk} (hk : dh.blk true i m = some k) (hkz : k.z = z) (hkn : k.xs.length = n) (hab : a < b) (hbn : b ≤ n) (hr : ∀ q, q ≤ n → room q bytes = true) :
    ∃ XS, XS.take (a + (n - b)) = k.xs.take a ++ k.xs.drop b ∧ callK tbl (ex tbl) (.fn f []) [.sl i m 0 n, .int .i64 a, .int .i64 b] dh = some (.sl i m 0 (a + (n - b)), { dh with R := dh.R.set i { k with xs := XS } }) := by
  have e1 : ((a : Int) == (b : Int)) = false := by simp; omega
  have e2 : a ≤ n := by omega
  have e3 : a ≤ b := by omega
  have hz1 : ¬ z = 0 := by omega
  obtain ⟨hk1, hk2⟩ := Hp.blk_some hk
  simp only [Hp.heap, if_true] at hk1
  have hdl : (k.xs.drop b).length = n - b := by rw [List.length_drop, hkn]
  have htl : (k.xs.take a).length = a := by rw [List.length_take]; omega
  have hys : (k.xs.drop b).take (n - b) = k.xs.drop b := List.take_of_length_le (by omega)
  let XS1 := k.xs.take a ++ k.xs.drop b ++ k.xs.drop (a + (n - b))
  have hX1 : XS1.length = n := by simp only [XS1, List.length_append, htl, hdl, List.length_drop, hkn]; omega
  let dh1 : Hp := { dh with R := dh.R.set i { k with xs := XS1 } }
  have hap : u1j dh z (.sl i m 0 a) ((k.xs.drop b).take (n - b)) = some (.sl i m 0 (a + (n - b)), dh1) := by
    rw [hys]
    simp only [u1j, hk, hkz, hdl]
    rw [if_neg (by simp)]
    by_cases h0 : n - b = 0
    · rw [if_pos h0]
      have : k.xs.drop b = [] := List.eq_nil_of_length_eq_zero (by omega)
      have h1 : XS1 = k.xs := by simp only [XS1, this, List.append_nil, h0, Nat.add_zero, List.take_append_drop]
      simp only [dh1, h1, h0, Nat.add_zero, u6a hk1]
    · rw [if_neg h0, if_neg (by omega), if_pos (by omega)]
      simp only [Hp.put, if_true, dh1, XS1, hkz, Nat.zero_add]
  have hb1 : dh1.blk true i m = some { k with xs := XS1 } := by
    refine u0x ?_ hk2
    simp only [dh1]
    rw [List.getElem?_set_self (u02 hk1)]
  have hrr := hr (a + (n - b)) (by omega)
  have e4 : a + (n - b) ≤ n := by omega
  refine ⟨XS1.take (a + (n - b)) ++ List.replicate (n - (a + (n - b))) zero ++ XS1.drop (a + (n - b) + (n - (a + (n - b)))), ?_, ?_⟩
  · have h1 : (XS1.take (a + (n - b))).length = a + (n - b) := by rw [List.length_take]; omega
    rw [List.append_assoc, List.take_append_of_le_length (by omega), List.take_of_length_le (by omega)]
    simp only [XS1]
    rw [List.take_append_of_le_length (by rw [List.length_append, htl, hdl]; exact Nat.le_refl _), List.take_of_length_le (by rw [List.length_append, htl, hdl]; exact Nat.le_refl _)]
  generalize hXX : k.xs.drop (a + (n - b)) = tl at *
  have hset : ∀ y : Blk, dh1.R.set i y = dh.R.set i y := fun y => by simp [dh1]
  have hB1 : dh1.B = dh.B := rfl
  have hc1 : dh1.c = dh.c := rfl
  have e5 : (0 : Int) ≤ (a : Int) + ((n - b : Nat) : Int) := by omega
  have e6 : ((a : Int) + ((n - b : Nat) : Int)).toNat = a + (n - b) := by omega
  clear_value dh1 XS1
  simp [callK, hp, hd, u45, u0z, u0M, ex_ret, u15, ex_draw, u1C, ops, draws, wants, step, putT, gt, Opd.ev, u29, u2k, u4t, lenOf, bound, binOp, intOp, e1, e2, e3, hz1, hk, hkz, hkn, hbn, DOp.withAp, pick, u1n, elems, h9, hap, hrr, hb1, hX1, e4, e5, e6, Hp.put, hset, hB1, hc1]

theorem room_mono {n q bytes : Nat} (h : room n bytes = true) (hq : q ≤ n) : room q bytes = true := by
  simp only [room, decide_eq_true_eq] at h ⊢
  exact Nat.le_trans (Nat.mul_le_mul_right _ (by omega)) h

theorem delete_cut {tb0 : Table} {f : FuncId} {z bytes : Nat} {zero : List DV} (h9 : ¬ 1000000 ≤ z) (hd : tb0.fn f = some (u45 z bytes zero)) (hp : tb0.prim f = none) (hz0 : 0 < z) {dh : Hp} {i m n a b : Nat} {k : Blk} (hk : dh.R[i]? = some k) (hm : k.s = m) (hkz : k.z = z) (hkn : k.xs.length = n) (hab : a ≤ b) (hbn : b ≤ n) (hr : room n bytes = true) :
    u3K tb0 f [.sl i m 0 n, .int .i64 a, .int .i64 b] dh = some (.sl i m 0 (a + (n - b)), { dh with R := dh.R.set i ⟨m, z, k.xs.take a ++ k.xs.drop b⟩, c := dh.c }) := by
  have hil := u02 hk
  rcases Nat.lt_or_ge a b with h | h
  · obtain ⟨XS, h1, h2⟩ := delete_some h9 hd hp hz0 (u0x hk hm) hkz hkn h hbn (fun q hq => room_mono hr hq)
    simp only [u3K, h2, cutRes]
    rw [List.getElem?_set_self hil]
    simp only [hm, if_true, Nat.zero_add, List.set_set, h1, hkz]
  · obtain rfl : a = b := by omega
    have h2 := delete_same hd hp dh i m n a hbn
    simp only [u3K, h2, cutRes, hk, hm, if_true, Nat.zero_add, List.take_append_drop]
    rw [List.take_of_length_le (by omega)]
    have : a + (n - a) = n := by omega
    rw [this]
    rw [← hkz]

theorem deleteS_ok {tbl tb0 : Table} {f : FuncId} {z bytes : Nat} {zero : List DV} (hp : tbl.prim f = some (u3K tb0 f)) (hd : tb0.fn f = some (u45 z bytes zero)) (hp0 : tb0.prim f = none) (hz0 : 0 < z) (h9 : ¬ 1000000 ≤ z := by decide) : u00 (calls tbl (ex tbl)) f (deleteS z bytes) := by
  intro X h dh aa das dcap v h' hcap I L hs
  subst hcap
  rw [List.append_nil] at L
  simp only at hs
  split at hs
  case h_2 => exact (T.sem_fail hs).elim
  rename_i j a b
  split at hs
  case h_2 => exact (T.sem_fail hs).elim
  rename_i z' vv s l hj
  split at hs
  case isFalse => exact (T.sem_fail hs).elim
  rename_i hzz
  subst hzz
  rcases T.sem_br hs with ⟨hc, hs⟩ | ⟨_, hs⟩
  case inr => exact (T.sem_fail hs).elim
  have e := T.sem_ret hs
  simp only [Prod.mk.injEq] at e
  obtain ⟨rfl, rfl⟩ := e
  simp only [Bool.and_eq_true, decide_eq_true_eq] at hc
  obtain ⟨⟨⟨c1, c2⟩, c3⟩, c4⟩ := hc
  obtain ⟨a', rfl⟩ : ∃ q : Nat, a = (q : Int) := ⟨a.toNat, by omega⟩
  obtain ⟨b', rfl⟩ : ∃ q : Nat, b = (q : Int) := ⟨b.toNat, by omega⟩
  simp only [Int.toNat_natCast]
  obtain ⟨d0, dr, rfl, k0, L⟩ := u0A L
  obtain ⟨d1, dr, rfl, k1, L⟩ := u0A L
  obtain ⟨d2, rfl, k2⟩ := L.one
  simp only [RV] at k1 k2
  subst k1; subst k2
  have R := I.row _ _ _ _ hj
  unfold RowOk at R
  have k0' := k0
  simp only [RV] at k0
  have hjl := u02 hj
  have cal : ∀ (d : DV) (dh' : Hp), u3K tb0 f [d0, .int .i64 a', .int .i64 b'] dh = some (d, dh') → (calls tbl (ex tbl)).k (.fn f []) [d0, .int .i64 a', .int .i64 b'] dh = some (d, dh') := by
    intro d dh' hq
    show callK tbl (ex tbl) (.fn f []) _ dh = _
    simp only [callK, hp, List.isEmpty_nil, if_true, hq]
  cases eR : (X.R j).1 with
  | none =>
    rw [eR] at R k0
    obtain ⟨R1, R2⟩ := R
    obtain ⟨_, rfl, k3⟩ := k0
    have hl : l = [] := List.eq_nil_of_length_eq_zero (by have := R1.trans k3; simpa [RC.len] using this)
    subst hl
    obtain rfl : a' = 0 := by simp at c3; omega
    obtain rfl : b' = 0 := by simp at c3; omega
    obtain ⟨b1, b2⟩ := killRow I hjl
    obtain ⟨X2, g1, g2, g3, g4⟩ := newNil b1 (z := z') (c := .typed vv s ([] : List (El s))) ⟨R2.1, trivial⟩
    refine ⟨.nils, dh, X2, cal _ _ ?_, g1, ?_, ?_, ?_, fun _ _ _ => rfl⟩
    · have := delete_nil hd hp0 dh
      simp only [u3K]
      rw [show ((0 : Nat) : Int) = 0 from rfl, this]; rfl
    · simpa using g2
    · simpa using g3
    · simpa using b2.trans g4
  | some q =>
    obtain ⟨i, m⟩ := q
    rw [eR] at R k0
    obtain ⟨R1, k3, R2, R3, R4, R5, R6, R7⟩ := R
    obtain ⟨_, rfl⟩ := k0
    simp only [FzOk] at R7
    simp only [RC.len] at R1 R6 R7
    have hn : (X.R j).2 = l.length := R1.symm
    rw [hn] at cal ⊢
    have hxs : RCon X z' (.typed vv s (l.take a' ++ l.drop b')) (k3.xs.take a' ++ k3.xs.drop b') := by
      rw [R7.2, List.take_of_length_le (Nat.le_refl _)] at R6
      exact ⟨R6.1, (R6.2.take a').append (R6.2.drop b')⟩
    obtain ⟨X2, g1, g2, g3, g4⟩ := u6M I (mk := m) (cc := dh.c) hj eR R2 hxs
    have hlen : (RC.typed vv s (l.take a' ++ l.drop b')).len = a' + (l.length - b') := by
      simp only [RC.len, List.length_append, List.length_take, List.length_drop]; omega
    rw [hlen] at g3
    refine ⟨_, _, X2, cal _ _ (delete_cut h9 hd hp0 hz0 R2 R3 R4 R7.2.symm (by omega) (by omega) c4), g1, g2, g3, g4, fun _ _ _ => rfl⟩

theorem u5I {tbl : Table} {f : FuncId} {z bytes : Nat} (hp : tbl.prim f = some (u3n z bytes)) : u00 (calls tbl (ex tbl)) f (insertS z bytes) := by
  intro X h dh aa das dcap v h' hcap I L hs
  subst hcap
  rw [List.append_nil] at L
  simp only at hs
  split at hs
  case h_2 => exact (T.sem_fail hs).elim
  rename_i j n j2
  split at hs
  case h_2 => exact (T.sem_fail hs).elim
  rename_i z2 r hj2
  split at hs
  case h_2 => exact (T.sem_fail hs).elim
  rename_i z1 vv s l hj
  split at hs
  case isFalse => exact (T.sem_fail hs).elim
  rename_i hcnd
  obtain ⟨rfl, rfl, hne⟩ := hcnd
  split at hs
  case h_2 => exact (T.sem_fail hs).elim
  rename_i x hrow
  split at hs
  case isFalse => exact (T.sem_fail hs).elim
  rename_i hown
  rcases T.sem_br hs with ⟨hc, hs⟩ | ⟨_, hs⟩
  case inr => exact (T.sem_fail hs).elim
  have e := T.sem_ret hs
  simp only [Prod.mk.injEq] at e
  obtain ⟨rfl, rfl⟩ := e
  simp only [Bool.and_eq_true, decide_eq_true_eq] at hc
  obtain ⟨⟨c1, c2⟩, c3⟩ := hc
  obtain ⟨n', rfl⟩ : ∃ q : Nat, n = (q : Int) := ⟨n.toNat, by omega⟩
  simp only [Int.toNat_natCast]
  obtain ⟨d0, dr, rfl, k0, L⟩ := u0A L
  obtain ⟨d1, dr, rfl, k1, L⟩ := u0A L
  obtain ⟨d2, rfl, k2⟩ := L.one
  simp only [RV] at k1
  subst k1
  have hjl := u02 hj
  -- the element
  have Q2 := I.row _ _ _ _ hj2
  unfold RowOk at Q2
  simp only [RV] at k2
  obtain ⟨i2, m2, b2, e2R, rfl, q2, q3, q4, q5, q6, q7⟩ : ∃ i2 m2 b2, (X.R j2).1 = some (i2, m2) ∧ d2 = .sl i2 m2 0 1 ∧ dh.R[i2]? = some b2 ∧ b2.s = m2 ∧ b2.z = z2 ∧ 1 ≤ b2.xs.length ∧ RCon X z2 (.raw [r]) (b2.xs.take 1) ∧ FzOk X i2 b2 1 false := by
    cases eR : (X.R j2).1 with
    | none =>
      rw [eR] at Q2
      have := Q2.2.len
      simp [RC.len] at this
    | some q =>
      obtain ⟨i2, m2⟩ := q
      rw [eR] at Q2 k2
      obtain ⟨R1, b2, R2, R3, R4, R5, R6, R7⟩ := Q2
      simp only [RC.len, List.length_cons, List.length_nil] at R1 R5 R6 R7
      refine ⟨i2, m2, b2, rfl, ?_, R2, R3, R4, by omega, R6, R7⟩
      rw [k2.2, ← R1]
  obtain ⟨R, hR⟩ : ∃ R, b2.xs.take 1 = [R] := by
    cases hx : b2.xs with
    | nil => rw [hx] at q5; simp at q5
    | cons a _ => exact ⟨a, by simp⟩
  rw [hR] at q6
  have hels : elems dh z2 (.sl i2 m2 0 1) = some [R] := by
    simp only [elems, u0x q2 q3]
    rw [if_pos ⟨q4, by omega⟩]
    simp [hR]
  -- what hangs is frozen
  obtain ⟨Y, le, yR, yc, IY, ov, st, ynb⟩ := u42 (u0m r) I
  have hjY : (freeze (u0m r) h.R)[j]? = some (.live false z2 (.typed vv s l)) := by
    rw [u43 _ _ _ (by
      intro hm
      rw [List.all_eq_true] at hown
      have := hown j hm
      simp at this)]
    exact hj
  have hx := u4d (Y := Y) I (z := z2) (rows := [r]) (rs := [R]) (by simpa using ov) hrow q6
  have R0 := IY.row _ _ _ _ hjY
  unfold RowOk at R0
  rw [yR] at R0
  simp only [RV] at k0
  have cal : ∀ (d : DV) (dh' : Hp), u3n z2 bytes [d0, .int .i64 n', .sl i2 m2 0 1] dh = some (d, dh') → (calls tbl (ex tbl)).k (.fn f []) [d0, .int .i64 n', .sl i2 m2 0 1] dh = some (d, dh') := by
    intro d dh' hq
    show callK tbl (ex tbl) (.fn f []) _ dh = _
    simp only [callK, hp, List.isEmpty_nil, if_true, hq]
  have hfl : (freeze (u0m r) h.R).length = h.R.length := u4k _ _
  have hx1 : RP Y vv s x R := hx.1
  have hjlY : j < (freeze (u0m r) h.R).length := u02 hjY
  cases eR : (X.R j).1 with
  | none =>
    rw [eR] at R0 k0
    obtain ⟨R1, R2⟩ := R0
    obtain ⟨_, rfl, k3⟩ := k0
    have hl : l = [] := List.eq_nil_of_length_eq_zero (by have := R1.trans k3; simpa [RC.len] using this)
    subst hl
    obtain rfl : n' = 0 := by simp at c2; omega
    obtain ⟨b1, b2⟩ := killRow IY (j := j) hjlY
    obtain ⟨X2, g1, g2, g3, g4, g5⟩ := newRow b1 (z := z2) (c := .typed vv s [x]) (rows := [R]) ⟨R2.1, hx1, trivial⟩
    simp only [List.length_set, hfl] at g2 g3 g4 g5
    refine ⟨.sl (dh.new true z2 [R]).1 dh.c 0 1, (dh.new true z2 [R]).2, X2, cal _ _ ?_, le.trans g1, ?_, u5B g3 g4, (st.trans b2).trans ?_, fun _ _ _ => rfl⟩
    · have hr1 : room 1 bytes = true := by simpa using c3
      have hels' := hels
      simp [u3n, hels', hr1, u1j]
    · simpa using g2
    · simpa using g5
  | some q =>
    obtain ⟨i, m⟩ := q
    rw [eR] at R0 k0
    obtain ⟨R1, b, R2, R3, R4, R5, R6, R7⟩ := R0
    obtain ⟨_, rfl⟩ := k0
    simp only [FzOk] at R7
    simp only [RC.len] at R1 R6 R7
    have hn : (X.R j).2 = l.length := R1.symm
    rw [hn] at cal ⊢
    have hxs : RCon Y z2 (.typed vv s (l.take n' ++ x :: l.drop n')) (b.xs.take n' ++ [R] ++ b.xs.drop n') := by
      rw [R7.2, List.take_of_length_le (Nat.le_refl _)] at R6
      refine ⟨R6.1, ?_⟩
      rw [List.append_assoc]
      exact (R6.2.take n').append ⟨hx1, R6.2.drop n'⟩
    have hii : i2 ≠ i := fun h => hne (I.dist _ _ _ _ _ _ _ _ _ hj hj2 eR (by rw [e2R, h]))
    obtain ⟨X2, g1, g2, g3, g4⟩ := u6M IY (mk := dh.c) (cc := dh.c + 1) hjY (by rw [yR]; exact eR) R2 hxs
    have hlen : (RC.typed vv s (l.take n' ++ x :: l.drop n')).len = l.length + 1 := by
      simp only [RC.len, List.length_append, List.length_take, List.length_cons, List.length_drop]; omega
    rw [hlen, hfl] at g3
    simp only [hfl] at g2 g4
    refine ⟨_, _, X2, cal _ _ ?_, le.trans g1, g2, g3, st.trans g4, fun _ _ _ => rfl⟩
    simp only [u3n, hels, u0x R2 R3]
    rw [if_pos ⟨R4, by rw [Nat.zero_add]; exact R7.2, c1, c2, c3, hii⟩]
    simp only [List.drop_zero, Int.toNat_natCast, Hp.put, if_true]
    split
    · rename_i hnl
      have hnl : n' = l.length := by omega
      have e1 : b.xs.take n' = b.xs := List.take_of_length_le (by omega)
      have e2 : b.xs.drop n' = [] := List.drop_eq_nil_of_le (by omega)
      simp only [u1j, u0x R2 R3, List.length_cons, List.length_nil, Nat.zero_add]
      rw [if_neg (by simp [R4]), if_neg (by omega), if_pos R7.2]
      simp only [List.drop_zero, Hp.put, if_true, e1, e2, List.append_nil]
    · rfl

def cmpPrim (args : List DV) (h : Hp) : Option (DV × Hp) := match args with
  | [.str a, .str b] => some (.int .i64 (cmpStr a b), h)
  | _ => none
theorem cmpPrim_ok {P : Program} {f : FuncId} (hen : ∀ args w, (callFunc f args).run P w = .ok (.enter f args) w)
    (hw : ∀ a b w, Calls P f #[.string a, .string b] w fun e w' => e = .returned (.int .i64 (cmpStr a b)) ∧ w' = w) : PrimOk P f cmpPrim := by
  intro args h v h' hp X w us S va
  unfold cmpPrim at hp
  split at hp
  case h_2 => cases hp
  rename_i a b
  cases hp
  obtain ⟨ua, ub, rfl⟩ : ∃ a b, us = [a, b] := by
    match us, va with
    | [a, b], _ => exact ⟨a, b, rfl⟩
    | [], va => simp [VS] at va
    | [_], va => simp [VS] at va
    | _ :: _ :: _ :: _, va => simp [VS] at va
  simp only [VS, V, and_true] at va
  obtain ⟨rfl, rfl⟩ := va
  refine ⟨f, #[], rfl, by simpa using hen _ _, ?_⟩
  have e : ([Value.string a, .string b] : List Value).toArray ++ #[] = #[.string a, .string b] := by simp
  rw [e]
  refine (hw a b w).mono fun e w' ⟨h1, h2⟩ => ?_
  subst h2
  exact ⟨_, X, h1, Cx.le.refl X, S, by simp [V]⟩
theorem cmpStrS_ok {tbl : Table} {f : FuncId} (hp : tbl.prim f = some cmpPrim) : u00 (calls tbl (ex tbl)) f cmpStrS := by
  intro X h dh aa das dcap v h' hcap I L hs
  subst hcap
  rw [List.append_nil] at L
  simp only at hs
  split at hs
  case h_2 => exact (T.sem_fail hs).elim
  rename_i a b
  have e := T.sem_ret hs
  simp only [Prod.mk.injEq] at e
  obtain ⟨rfl, rfl⟩ := e
  obtain ⟨d0, dr, rfl, k0, L⟩ := u0A L
  obtain ⟨d1, rfl, k1⟩ := L.one
  simp only [RV] at k0 k1
  subst k0; subst k1
  refine ⟨.int .i64 (cmpStr a b), dh, X, ?_, RX.le.refl X, I, by simp [RV], Step.refl _ _ _, fun _ _ _ => rfl⟩
  show callK tbl (ex tbl) (.fn f []) _ dh = _
  simp [callK, hp, cmpPrim]
end Go.Dv
/- The engine: slices.SortFunc by what it does (u2W): the kit's contract, lifted. -/
set_option linter.unusedVariables false
set_option linter.unusedSimpArgs false
namespace Go.Dv
open Go.Sort Go.Proofs
variable {P : Program}

instance (s : Sh) : Inhabited (El s) := ⟨El.dflt s⟩
def flatV : (s : Sh) → El s → List Value
  | .int k, n => [.int k n]
  | .bool, b => [.bool b]
  | .str, x => [.string x]
  | .pair a b, x => flatV a x.1 ++ flatV b x.2
  | _, _ => []
def flatD : (s : Sh) → El s → List DV
  | .int k, n => [.int k n]
  | .bool, b => [.bool b]
  | .str, x => [.str x]
  | .pair a b, x => flatD a x.1 ++ flatD b x.2
  | _, _ => []
def unD : (s : Sh) → List DV → Option (El s × List DV)
  | .int k, .int k' n :: r => if k = k' then some (n, r) else none
  | .bool, .bool b :: r => some (b, r)
  | .str, .str x :: r => some (x, r)
  | .pair a b, ds => match unD a ds with
    | some (x, r) => match unD b r with
      | some (y, r) => some ((x, y), r)
      | none => none
    | none => none
  | _, _ => none
def un1 (s : Sh) (ds : List DV) : Option (El s) := match unD s ds with
  | some (x, []) => some x
  | _ => none
theorem unD_eq : ∀ (s : Sh) {ds r : List DV} {x : El s}, unD s ds = some (x, r) → ds = flatD s x ++ r
  | .int k, ds, r, x, h => by
    cases ds with
    | nil => simp [unD] at h
    | cons d ds => cases d <;> simp only [unD, reduceCtorEq] at h; split at h <;> simp_all [flatD]
  | .bool, ds, r, x, h => by
    cases ds with
    | nil => simp [unD] at h
    | cons d ds => cases d <;> simp [unD] at h; simp [flatD, h]
  | .str, ds, r, x, h => by
    cases ds with
    | nil => simp [unD] at h
    | cons d ds => cases d <;> simp [unD] at h; simp [flatD, h]
  | .list s, ds, r, x, h => by simp [unD] at h
  | .tree s, ds, r, x, h => by simp [unD] at h
  | .uno s, ds, r, x, h => by simp [unD] at h
  | .mark s, ds, r, x, h => by simp [unD] at h
  | .pair a b, ds, r, x, h => by
    simp only [unD] at h
    split at h
    · rename_i y q h1
      split at h
      · rename_i z q2 h2
        cases h
        rw [unD_eq a h1, unD_eq b h2]
        simp [flatD]
      · cases h
    · cases h
theorem unD_flat : ∀ (s : Sh), s.flat = true → ∀ (x : El s) (r : List DV), unD s (flatD s x ++ r) = some (x, r)
  | .int k, _, n, r => by simp [unD, flatD]
  | .bool, _, n, r => by simp [unD, flatD]
  | .str, _, n, r => by simp [unD, flatD]
  | .list s, h, _, _ => by simp [Sh.flat] at h
  | .tree s, h, _, _ => by simp [Sh.flat] at h
  | .uno s, h, _, _ => by simp [Sh.flat] at h
  | .mark s, h, _, _ => by simp [Sh.flat] at h
  | .pair a b, h, x, r => by
    simp only [Sh.flat, Bool.and_eq_true] at h
    simp only [unD, flatD, List.append_assoc, unD_flat a h.1, unD_flat b h.2]
theorem un1_eq {s : Sh} {ds : List DV} {x : El s} (h : un1 s ds = some x) : ds = flatD s x := by
  unfold un1 at h
  split at h
  · rename_i y h1; cases h; simpa using unD_eq s h1
  · cases h
theorem un1_flat {s : Sh} (hs : s.flat = true) (x : El s) : un1 s (flatD s x) = some x := by
  have := unD_flat s hs x []
  rw [List.append_nil] at this
  simp [un1, this]
theorem u3x : ∀ (s : Sh), s.flat = true → ∀ x : El s, (flatV s x).length = s.size
  | .int k, _, n | .bool, _, n | .str, _, n => rfl
  | .list s, h, _ => by simp [Sh.flat] at h
  | .tree s, h, _ => by simp [Sh.flat] at h
  | .uno s, h, _ => by simp [Sh.flat] at h
  | .mark s, h, _ => by simp [Sh.flat] at h
  | .pair a b, h, x => by simp only [Sh.flat, Bool.and_eq_true] at h; simp [flatV, Sh.size, u3x a h.1, u3x b h.2]
theorem u5c : ∀ (s : Sh), s.flat = true → ∀ x : El s, (flatD s x).length = s.size
  | .int k, _, n | .bool, _, n | .str, _, n => rfl
  | .list s, h, _ => by simp [Sh.flat] at h
  | .tree s, h, _ => by simp [Sh.flat] at h
  | .uno s, h, _ => by simp [Sh.flat] at h
  | .mark s, h, _ => by simp [Sh.flat] at h
  | .pair a b, h, x => by simp only [Sh.flat, Bool.and_eq_true] at h; simp [flatD, Sh.size, u5c a h.1, u5c b h.2]
theorem u5b : ∀ (s : Sh) (x : El s), ∀ v ∈ flatV s x, v.oneCell' = true
  | .int k, n, v, h | .bool, n, v, h | .str, n, v, h => by simp [flatV] at h; subst h; rfl
  | .list s, _, v, h => by simp [flatV] at h
  | .tree s, _, v, h => by simp [flatV] at h
  | .uno s, _, v, h => by simp [flatV] at h
  | .mark s, _, v, h => by simp [flatV] at h
  | .pair a b, x, v, h => by
    simp only [flatV, List.mem_append] at h
    rcases h with h | h
    · exact u5b a _ v h
    · exact u5b b _ v h
theorem flat_VS {X : Cx} {L : Bool} : ∀ (s : Sh) (x : El s), VS X L (flatD s x) (flatV s x)
  | .int k, n | .bool, n | .str, n => by simp [flatD, flatV, VS, V]
  | .list s, _ => by simp [flatD, flatV, VS]
  | .tree s, _ => by simp [flatD, flatV, VS]
  | .uno s, _ => by simp [flatD, flatV, VS]
  | .mark s, _ => by simp [flatD, flatV, VS]
  | .pair a b, x => by simp only [flatD, flatV]; exact (flat_VS a x.1).append (flat_VS b x.2)
theorem VS_unique {X : Cx} {L : Bool} : ∀ (s : Sh) {x : El s} {us : List Value}, VS X L (flatD s x) us → us = flatV s x := by
  have key : ∀ (s : Sh) (x : El s) (r : List DV) (us : List Value), VS X L (flatD s x ++ r) us → ∃ ur, us = flatV s x ++ ur ∧ VS X L r ur := by
    intro s
    induction s with
    | int k => intro x r us h; cases us with
      | nil => simp [flatD, VS] at h
      | cons u us => simp only [flatD, List.cons_append, List.nil_append, VS, V] at h; exact ⟨us, by simp [flatV, h.1], h.2⟩
    | bool => intro x r us h; cases us with
      | nil => simp [flatD, VS] at h
      | cons u us => simp only [flatD, List.cons_append, List.nil_append, VS, V] at h; exact ⟨us, by simp [flatV, h.1], h.2⟩
    | str => intro x r us h; cases us with
      | nil => simp [flatD, VS] at h
      | cons u us => simp only [flatD, List.cons_append, List.nil_append, VS, V] at h; exact ⟨us, by simp [flatV, h.1], h.2⟩
    | list s => intro x r us h; exact ⟨us, by simp [flatV], by simpa [flatD] using h⟩
    | tree s => intro x r us h; exact ⟨us, by simp [flatV], by simpa [flatD] using h⟩
    | uno s => intro x r us h; exact ⟨us, by simp [flatV], by simpa [flatD] using h⟩
    | mark s => intro x r us h; exact ⟨us, by simp [flatV], by simpa [flatD] using h⟩
    | pair a b iha ihb =>
      intro x r us h
      simp only [flatD, List.append_assoc] at h
      obtain ⟨u1, rfl, h1⟩ := iha x.1 _ _ h
      obtain ⟨u2, rfl, h2⟩ := ihb x.2 _ _ h1
      exact ⟨u2, by simp [flatV], h2⟩
  intro s x us h
  obtain ⟨ur, rfl, h2⟩ := key s x [] us (by simpa using h)
  cases ur with
  | nil => simp
  | cons _ _ => simp [VS] at h2
theorem u6l : ∀ (s : Sh), s.flat = true → ∀ x : El s, RE s x (flatD s x)
  | .int k, _, n | .bool, _, n | .str, _, n => rfl
  | .list s, h, _ => by simp [Sh.flat] at h
  | .tree s, h, _ => by simp [Sh.flat] at h
  | .uno s, h, _ => by simp [Sh.flat] at h
  | .mark s, h, _ => by simp [Sh.flat] at h
  | .pair a b, h, x => by simp only [Sh.flat, Bool.and_eq_true] at h; exact ⟨_, _, rfl, u6l a h.1 x.1, u6l b h.2 x.2⟩
theorem RE_flat : ∀ (s : Sh), s.flat = true → ∀ {x : El s} {ds : List DV}, RE s x ds → ds = flatD s x
  | .int k, _, _, _, h | .bool, _, _, _, h | .str, _, _, _, h => h
  | .list s, h, _, _, _ => by simp [Sh.flat] at h
  | .tree s, h, _, _, _ => by simp [Sh.flat] at h
  | .uno s, h, _, _, _ => by simp [Sh.flat] at h
  | .mark s, h, _, _, _ => by simp [Sh.flat] at h
  | .pair a b, h, x, ds, k => by
    simp only [Sh.flat, Bool.and_eq_true] at h
    obtain ⟨d1, d2, rfl, k1, k2⟩ := k
    rw [RE_flat a h.1 k1, RE_flat b h.2 k2]; rfl

def sortL {s : Sh} (cf : El s → El s → Int) (l : List (El s)) : List (El s) := (pdq (ltOf cf) l.toArray 0 l.length (Lib.bitLen l.length) true true).toList
def u2W (s : Sh) (cf : El s → El s → Int) (g : FuncId) (args : List DV) (h : Hp) : Option (DV × Hp) :=
  match args with
  | [.nils, .fn g' []] => if g' = g then some (.tup [], h) else none
  | [.sl i m off len, .fn g' []] => if g' = g ∧ len < 4611686018427387904 then match h.blk true i m with
    | some k => if k.z = s.size ∧ off + len ≤ k.xs.length then match ((k.xs.drop off).take len).mapM (un1 s) with
      | some l => some (.tup [], h.put true i { k with xs := k.xs.take off ++ (sortL cf l).map (flatD s) ++ k.xs.drop (off + len) })
      | none => none
      else none
    | none => none
    else none
  | _ => none

structure SortWalk (P : Program) (tbl : Table) (f g : FuncId) (s : Sh) (cf : El s → El s → Int) : Prop where
  enters : ∀ args w, (callFunc f args).run P w = .ok (.enter f args) w
  nil : ∀ h, ∃ n, callK tbl (run tbl n) (.fn f []) [.nils, .fn g []] h = some (.tup [], h)
  zero : ∀ i m off h, ∃ n, callK tbl (run tbl n) (.fn f []) [.sl i m off 0, .fn g []] h = some (.tup [], h)
  sort : ∀ (blk off cap : Nat) (d : Array (El s)) (w : World), CmpLays P g #[] (flatV s) s.size cf blk off d.size w → HoldsK (flatV s) s.size w blk off d → blk < w.heap.size → d.size < 4611686018427387904 →
    Calls P f #[.slice (some ⟨blk, off, none⟩) d.size cap, .func (.func g) #[] #[]] w fun e w' => e = .returned (.tuple #[]) ∧ ∃ n os, w' = sortWorldK (flatV s) s.size w blk off n (pdq (ltOf cf) d 0 d.size (Lib.bitLen d.size) true true) os

theorem cmp_lays {esc quiet : FuncId → List Nat} {tbl : Table} (TO : TblOk P esc quiet tbl) {g : FuncId} (rg : real g = g) {s : Sh} {cf : El s → El s → Int}
    (hc : ∀ x y, callK tbl (ex tbl) (.fn g []) [.agg (flatD s x), .agg (flatD s y)] ⟨[], [], 0⟩ = some (.int .i64 (cf x y), ⟨[], [], 0⟩)) (blk off size : Nat) (w : World) : CmpLays P g #[] (flatV s) s.size cf blk off size w := by
  intro m os dk hdk x y
  generalize sortWorldK (flatV s) s.size w blk off m dk os = W
  obtain ⟨n, hn⟩ := u5m (hc x y)
  have vf : V (Cx.all W) true (.fn g []) (.func (.func g) #[] #[]) := by simp only [V, rg]; exact ⟨#[], rfl, by simp [VS]⟩
  have ag : ∀ z : El s, V (Cx.all W) true (.agg (flatD s z)) (.agg (flatV s z).toArray) := fun z => by simp only [V]; exact ⟨_, rfl, by simpa using flat_VS s z⟩
  have va : VS (Cx.all W) true [.agg (flatD s x), .agg (flatD s y)] [.agg (flatV s x).toArray, .agg (flatV s y).toArray] := by simp only [VS, and_true]; exact ⟨ag x, ag y⟩
  obtain ⟨fid, arr, g1, g2, g3⟩ := u4p TO (u6y TO n) hn (Sim.all W) vf va
  cases g1
  have g4 : Calls P g (#[.agg (flatV s x).toArray, .agg (flatV s y).toArray] ++ #[]) W _ := g3
  refine g4.mono fun e w' ⟨u', X', he, le, S', hv'⟩ => ?_
  simp only [V] at hv'
  subst hv'
  refine ⟨he, w'.drawn - W.drawn, w'.heap.extract W.heap.size w'.heap.size, ?_⟩
  have e1 := le.W
  have h1 : w'.os = W.os := by rw [S'.os, e1]; rfl
  have h2 : w'.tape = W.tape := by rw [S'.tape, e1]; rfl
  have h3 : w'.output = W.output := by rw [S'.out, e1]; rfl
  have h4 : W.drawn ≤ w'.drawn := by have := S'.dr; rw [e1] at this; exact this
  have h5 : W.heap.size ≤ w'.heap.size := by have := S'.N; rw [le.N] at this; exact this
  have h6 : ∀ k, k < W.heap.size → w'.heap[k]? = W.heap[k]? := fun k hk => by
    have := S'.keep k (by rw [le.N]; exact hk) (by rw [le.U]; exact fun h => h)
    rw [e1] at this; exact this
  have h7 : w'.heap = W.heap ++ w'.heap.extract W.heap.size w'.heap.size := by
    apply Array.ext_getElem?
    intro k
    rw [Array.getElem?_append]
    split
    · rename_i hk; exact h6 k hk
    · rename_i hk
      rw [Array.getElem?_extract]
      split
      · congr 1; omega
      · rw [Array.getElem?_eq_none (by omega)]
  cases w' with
  | mk wh wt wd wo wout =>
    simp only at h1 h2 h3 h4 h7
    subst h1; subst h2; subst h3
    show _ = ({ W with heap := W.heap ++ _, drawn := W.drawn + (wd - W.drawn) } : World)
    rw [← h7, Nat.add_sub_cancel' h4]
theorem sortPrim_ok {esc quiet : FuncId → List Nat} {tbl : Table} (TO : TblOk P esc quiet tbl) {tbl2 : Table} {esc2 quiet2 : FuncId → List Nat} (TO2 : TblOk P esc2 quiet2 tbl2) {f g : FuncId} {s : Sh} {cf : El s → El s → Int} (hs : s.flat = true) (hs0 : 0 < s.size) (hO : SWO (ltOf cf)) (W : SortWalk P tbl2 f g s cf)
    (hcf : ∀ x y, callK tbl (ex tbl) (.fn g []) [.agg (flatD s x), .agg (flatD s y)] ⟨[], [], 0⟩ = some (.int .i64 (cf x y), ⟨[], [], 0⟩)) (rf : real f = f) (rg : real g = g) : PrimOk P f (u2W s cf g) := by
  intro args h v h' hp X w us S va
  have vf : V X true (.fn f []) (.func (.func f) #[] #[]) := by simp only [V, rf]; exact ⟨#[], rfl, by simp [VS]⟩
  unfold u2W at hp
  split at hp
  · rename_i g'
    split at hp
    · rename_i hg; subst hg
      simp only [Option.some.injEq, Prod.mk.injEq] at hp
      obtain ⟨rfl, rfl⟩ := hp
      obtain ⟨n, hn⟩ := W.nil h
      exact u4p TO2 (u6y TO2 n) hn S vf va
    · cases hp
  · rename_i i m off len g'
    split at hp
    case isFalse => cases hp
    rename_i hg
    obtain ⟨rfl, hlen⟩ := hg
    split at hp
    case h_2 => cases hp
    rename_i k hb
    split at hp
    case isFalse => cases hp
    rename_i hk0
    obtain ⟨hkz, hoff⟩ := hk0
    split at hp
    case h_2 => cases hp
    rename_i l hl
    simp only [Option.some.injEq, Prod.mk.injEq] at hp
    obtain ⟨rfl, rfl⟩ := hp
    obtain ⟨hk1, hks⟩ := Hp.blk_some hb
    subst hks
    obtain ⟨hll, hlg⟩ := mapM_get hl
    have hrl : ((k.xs.drop off).take len).length = len := by rw [List.length_take, List.length_drop]; omega
    rw [hrl] at hll
    by_cases hl0 : len = 0
    · subst hl0
      obtain ⟨n, hn⟩ := W.zero i k.s off h
      have hl' : l = [] := List.eq_nil_of_length_eq_zero hll
      subst hl'
      have hsame : (h.put true i { k with xs := k.xs.take off ++ (sortL cf []).map (flatD s) ++ k.xs.drop (off + 0) }) = h := by
        have h1 : (sortL cf ([] : List (El s))) = [] := by
          have := (pdq_sorts (ltOf cf) hO (#[] : Array (El s)) 0 0 (Lib.bitLen 0) true true (Nat.zero_le _) (Nat.le_refl _) (Or.inl rfl)).1.1
          exact List.eq_nil_of_length_eq_zero (by simpa [sortL] using this)
        simp only [Hp.heap, if_true] at hk1
        rw [h1]
        simp only [List.map_nil, List.append_nil, Nat.add_zero, List.take_append_drop, Hp.put, if_true]
        rw [u6a hk1]
      rw [hsame]
      exact u4p TO2 (u6y TO2 n) hn S vf va
    · obtain ⟨ux, uf, rfl⟩ : ∃ a b, us = [a, b] := by
        match us, va with
        | [a, b], _ => exact ⟨a, b, rfl⟩
        | [], va => simp [VS] at va
        | [_], va => simp [VS] at va
        | _ :: _ :: _ :: _, va => simp [VS] at va
      simp only [VS, and_true] at va
      obtain ⟨vx, vg⟩ := va
      simp only [V] at vx vg
      obtain ⟨_, hsc, at_, c, rfl, hc, hlc, ha⟩ := vx
      obtain ⟨arr, rfl, harr⟩ := vg
      have harr : arr = #[] := by
        cases e : arr.toList with
        | nil => rw [← Array.toArray_toList (xs := arr), e]
        | cons x r => rw [e] at harr; simp [VS] at harr
      subst harr
      obtain rfl := ha (by omega)
      have B := S.blk _ _ _ hk1
      obtain ⟨cells, T, fr, hcl, b1, b2, b3⟩ := B.at_
      have hpz : (X.p k.s).z = s.size := by rw [B.z, hkz]
      have hrow : ∀ e x, l[e]? = some x → k.xs[off + e]? = some (flatD s x) := by
        intro e x hx
        have he : e < len := by rw [← hll]; exact (List.getElem?_eq_some_iff.1 hx).1
        obtain ⟨y, h1, h2⟩ := hlg e _ (List.getElem?_eq_getElem (show e < ((k.xs.drop off).take len).length by omega))
        rw [hx] at h2; cases h2
        have := un1_eq h1
        rw [← this, ← List.getElem?_eq_getElem, List.getElem?_take, if_pos he, List.getElem?_drop]
      have hcell : ∀ e x j, l[e]? = some x → j < s.size → cells[(X.p k.s).o + (off + e) * s.size + j]? = (flatV s x)[j]? := by
        intro e x j hx hj
        have hlies := (B.lies (hrow e x hx)).2
        obtain ⟨us, g1, g2, g3, g4⟩ := hlies.list
        have hus := VS_unique s g3
        have hju : j < us.length := by rw [hus, u3x s hs]; exact hj
        have := g2 j _ (List.getElem?_eq_getElem hju)
        rw [u17 hcl] at this
        rw [hkz] at this
        rw [this, ← hus, List.getElem?_eq_getElem hju]
      have hcapz : (X.p k.s).cap * s.size = off * s.size + c * s.size := by rw [← hc, Nat.add_mul]
      have hlz : len * s.size ≤ c * s.size := Nat.mul_le_mul_right _ hlc
      rw [hkz] at b1
      have dm : ∀ t, t < len * s.size → t / s.size < len ∧ t % s.size < s.size ∧ (t / s.size) * s.size + t % s.size = t := fun t ht =>
        ⟨Nat.div_lt_of_lt_mul (by rw [Nat.mul_comm]; exact ht), Nat.mod_lt _ hs0, by rw [Nat.mul_comm]; exact Nat.div_add_mod _ _⟩
      have hH : HoldsK (flatV s) s.size w (X.p k.s).B ((X.p k.s).o + off * (X.p k.s).z) l.toArray := by
        intro t ht
        rw [size_flatK, List.size_toArray, hll] at ht
        obtain ⟨d1, d2, d3⟩ := dm t ht
        have hx : l[t / s.size]? = some (l[t / s.size]'(by omega)) := List.getElem?_eq_getElem (by omega)
        have hc1 := hcell _ _ (t % s.size) hx d2
        have ei : (X.p k.s).o + (off + t / s.size) * s.size + t % s.size = (X.p k.s).o + off * (X.p k.s).z + t := by rw [hpz, Nat.add_mul]; omega
        rw [ei] at hc1
        constructor
        · rw [u17 hcl, hc1, get_flatK _ _ _ _ (by rw [List.size_toArray, hll]; exact ht)]
          have e1 : (l.toArray)[t / s.size]! = l[t / s.size]'(by omega) := by
            rw [getElem!_pos _ _ (by rw [List.size_toArray]; omega)]; simp
          rw [e1]
          have hjl : t % s.size < (flatV s (l[t / s.size]'(by omega))).length := by rw [u3x s hs]; exact d2
          rw [List.getElem?_eq_getElem hjl, getElem!_pos (flatV s _) _ hjl]; rfl
        · have hlt : (X.p k.s).o + off * (X.p k.s).z + t < cells.size := by rw [hpz]; omega
          have := b2 _ (.inl hlt)
          simp only [World.frozen?, hcl]
          simpa using this
      have hblk := B.lt
      have hcmp := cmp_lays TO rg hcf (X.p k.s).B ((X.p k.s).o + off * (X.p k.s).z) l.toArray.size w
      have hcalls := W.sort (X.p k.s).B ((X.p k.s).o + off * (X.p k.s).z) c l.toArray w hcmp hH hblk (by rw [List.size_toArray, hll]; exact hlen)
      rw [List.size_toArray, hll] at hcalls
      refine ⟨f, #[], rfl, by simpa using W.enters _ _, Calls.mono (by simpa [rg, rg] using hcalls) fun e w' he => ?_⟩
      obtain ⟨rfl, n, os, rfl⟩ := he
      refine ⟨_, X, rfl, Cx.le.refl X, ?_, by simp [V, VS]⟩
      have hsl : (sortL cf l).length = len := by
        have := (pdq_sorts (ltOf cf) hO l.toArray 0 l.length (Lib.bitLen l.length) true true (Nat.zero_le _) (by simp) (Or.inl rfl)).1.1
        simpa [sortL, hll] using this
      have hD : pdq (ltOf cf) l.toArray 0 len (Lib.bitLen len) true true = (sortL cf l).toArray := by simp [sortL, hll]
      rw [hD]
      generalize sortL cf l = L' at *
      have hF : (flatK (flatV s) s.size L'.toArray).size = len * s.size := by rw [size_flatK, List.size_toArray, hsl]
      have hheap : ∀ b, (sortWorldK (flatV s) s.size w (X.p k.s).B ((X.p k.s).o + off * (X.p k.s).z) n L'.toArray os).heap[b]? = if b < w.heap.size then (if (X.p k.s).B = b then (w.heap[b]?).map (onCells (putCells id ((X.p k.s).o + off * (X.p k.s).z) (flatK (flatV s) s.size L'.toArray))) else w.heap[b]?) else os[b - w.heap.size]? := by
        intro b
        show ((w.heap.modify _ _) ++ os)[b]? = _
        rw [Array.getElem?_append, Array.size_modify]
        split
        · rw [Array.getElem?_modify]
        · rfl
      have hbut : But w (sortWorldK (flatV s) s.size w (X.p k.s).B ((X.p k.s).o + off * (X.p k.s).z) n L'.toArray os) (X.p k.s).B :=
        ⟨fun b' hb hl => by rw [hheap, if_pos hl, if_neg (Ne.symm hb)], by show _ ≤ ((w.heap.modify _ _) ++ os).size; simp, rfl, rfl, rfl, Nat.le_add_right _ _⟩
      have hh : (sortWorldK (flatV s) s.size w (X.p k.s).B ((X.p k.s).o + off * (X.p k.s).z) n L'.toArray os).heap[(X.p k.s).B]? = some (.cells (putCells id ((X.p k.s).o + off * (X.p k.s).z) (flatK (flatV s) s.size L'.toArray) cells) T fr) := by
        rw [hheap, if_pos hblk, if_pos rfl, hcl]; rfl
      have hput : ∀ q, (putCells id ((X.p k.s).o + off * (X.p k.s).z) (flatK (flatV s) s.size L'.toArray) cells)[q]? = if (X.p k.s).o + off * (X.p k.s).z ≤ q ∧ q < (X.p k.s).o + off * (X.p k.s).z + len * s.size then (cells[q]?).map (fun _ => (flatK (flatV s) s.size L'.toArray)[q - ((X.p k.s).o + off * (X.p k.s).z)]!) else cells[q]? := by
        intro q
        unfold putCells
        rw [Array.getElem?_mapIdx, hF]
        split
        · rfl
        · cases cells[q]? <;> rfl
      have hpsz : (putCells id ((X.p k.s).o + off * (X.p k.s).z) (flatK (flatV s) s.size L'.toArray) cells).size = cells.size := by simp [putCells]
      have := S.upd (X' := X) (k' := { k with xs := k.xs.take off ++ L'.map (flatD s) ++ k.xs.drop (off + len) }) hk1 (Cx.le.refl X) rfl (.inl rfl) hbut
        ⟨B.c, B.z, ?_, ⟨_, T, fr, hh, by rw [hpsz, hkz]; exact b1, by rw [hpsz]; exact b2, fun e r hr => ?_⟩, B.own, B.off⟩
      · rw [← S.c] at this; exact this
      · have := B.len
        simp only [List.length_append, List.length_take, List.length_map, List.length_drop]; omega
      · have htl : (k.xs.take off).length = off := by rw [List.length_take]; omega
        rw [List.append_assoc, List.getElem?_append, htl] at hr
        split at hr
        · rename_i he
          rw [List.getElem?_take, if_pos he] at hr
          obtain ⟨r1, r2⟩ := b3 e r hr
          refine ⟨r1, fun j d hd => ?_⟩
          obtain ⟨u, u1, u2, u3⟩ := r2 j d hd
          refine ⟨u, ?_, u2, u3⟩
          have hj : j < k.z := by rw [← r1]; exact (List.getElem?_eq_some_iff.1 hd).1
          have : (e + 1) * s.size ≤ off * s.size := Nat.mul_le_mul_right _ he
          rw [Nat.add_mul] at this
          rw [hput, if_neg]
          · exact u1
          · rw [hpz]; rw [hkz] at hj ⊢; simp only []; omega
        · rename_i he
          rw [List.getElem?_append, List.length_map, hsl] at hr
          split at hr
          · rename_i he2
            rw [List.getElem?_map, Option.map_eq_some_iff] at hr
            obtain ⟨x, hx, rfl⟩ := hr
            refine ⟨by rw [u5c s hs, hkz], fun j d hd => ?_⟩
            have hj : j < s.size := by rw [← u5c s hs x]; exact (List.getElem?_eq_some_iff.1 hd).1
            have hjv : j < (flatV s x).length := by rw [u3x s hs]; exact hj
            refine ⟨(flatV s x)[j], ?_, (flat_VS s x).val hd (List.getElem?_eq_getElem hjv), u5b s x _ (List.getElem_mem _)⟩
            have e1 : (off + (e - off)) * s.size = off * s.size + (e - off) * s.size := Nat.add_mul _ _ _
            have e2 : off + (e - off) = e := by omega
            rw [e2] at e1
            have e3 : (e - off + 1) * s.size ≤ len * s.size := Nat.mul_le_mul_right _ (by omega)
            rw [Nat.add_mul, Nat.one_mul] at e3
            have hlt : (X.p k.s).o + e * k.z + j < cells.size := by rw [hkz]; omega
            rw [hput, if_pos (by rw [hpz, hkz]; simp only []; omega), show ({ k with xs := k.xs.take off ++ L'.map (flatD s) ++ k.xs.drop (off + len) } : Blk).z = k.z from rfl, Array.getElem?_eq_getElem hlt, Option.map_some,
              show (X.p k.s).o + e * k.z + j - ((X.p k.s).o + off * (X.p k.s).z) = (e - off) * s.size + j by rw [hpz, hkz]; omega, get_flatK _ _ _ _ (by rw [List.size_toArray, hsl]; omega)]
            have q1 : ((e - off) * s.size + j) / s.size = e - off := (blk_iff s.size (e - off) _ hs0).1 ⟨by omega, by omega⟩
            have q2 : ((e - off) * s.size + j) % s.size = j := by rw [Nat.mod_eq_sub_div_mul, q1]; omega
            rw [q1, q2]
            have e4 : (L'.toArray)[e - off]! = x := by
              have hlx : e - off < L'.length := (List.getElem?_eq_some_iff.1 hx).1
              rw [getElem!_pos _ _ (by rw [List.size_toArray]; exact hlx)]
              have := (List.getElem?_eq_some_iff.1 hx).2
              simpa using this
            rw [e4, getElem!_pos (flatV s x) _ hjv]
          · rename_i he2
            rw [List.getElem?_drop] at hr
            have he3 : off + len + (e - off - len) = e := by omega
            rw [he3] at hr
            obtain ⟨r1, r2⟩ := b3 e r hr
            refine ⟨r1, fun j d hd => ?_⟩
            obtain ⟨u, u1, u2, u3⟩ := r2 j d hd
            refine ⟨u, ?_, u2, u3⟩
            have : (off + len) * s.size ≤ e * s.size := Nat.mul_le_mul_right _ (by omega)
            rw [Nat.add_mul] at this
            rw [hput, if_neg]
            · exact u1
            · rw [hpz]; simp only [hkz]; omega
  · cases hp
end Go.Dv
/- The engine, second storey: slices.SortFunc. -/
set_option linter.unusedVariables false
set_option linter.unusedSimpArgs false
namespace Go.Dv
open Go.Sort Go.Proofs

theorem bare_flat : ∀ {s : Sh}, s.flat = true → s.bare = true
  | .int _, _ | .bool, _ | .str, _ => rfl
  | .pair a b, h => by
    simp only [Sh.flat, Bool.and_eq_true] at h
    simp only [Sh.bare, Bool.and_eq_true]
    exact ⟨bare_flat h.1, bare_flat h.2⟩
  | .list _, h | .tree _, h | .uno _, h | .mark _, h => by simp [Sh.flat] at h
theorem u5y : ∀ {s : Sh}, s.flat = true → s.plain = true
  | .int _, _ | .bool, _ | .str, _ => rfl
  | .pair a b, h => by
    simp only [Sh.flat, Bool.and_eq_true] at h
    simp only [Sh.plain, Bool.and_eq_true]
    exact ⟨u5y h.1, u5y h.2⟩
  | .list _, h | .tree _, h | .uno _, h | .mark _, h => by simp [Sh.flat] at h
theorem nilSet {X : RX} {h : SH} {dh : Hp} (I : Inv X h dh) {j z : Nat} {c c' : RC} (hj : h.R[j]? = some (.live false z c)) (e : (X.R j).1 = none) (k : RCon X z c' []) (hc0 : (X.R j).2 = 0) : Inv X (h.setR j (.live false z c')) dh ∧ Step X h dh X (h.setR j (.live false z c')) dh := by
  have hc : c'.len = 0 := k.len
  have set_ne : ∀ {j' : Nat} {x : RB}, (h.R.set j (.live false z c'))[j']? = some x → (j' = j ∧ x = .live false z c') ∨ (j' ≠ j ∧ h.R[j']? = some x) := by
    intro j' x e
    rw [List.getElem?_set] at e
    by_cases hjj : j = j'
    · subst hjj
      rw [if_pos rfl, if_pos (u02 hj)] at e
      cases e; exact .inl ⟨rfl, rfl⟩
    · rw [if_neg hjj] at e; exact .inr ⟨fun h => hjj h.symm, e⟩
  refine ⟨⟨by simp [SH.setR, I.c], I.nb, I.box, I.bdist, I.z, fun j' fz' z' c2 hj' => ?_, fun j1 j2 z1 c1 z2 c2 q m1 m2 h1 h2 e1 e2 => ?_⟩, ⟨fun _ _ _ => rfl, Nat.le_refl _, fun _ _ _ => rfl, Nat.le_refl _, fun q w => ?_, fun q hq => .inl ⟨q, hq, rfl⟩, fun _ _ e => .inl e⟩⟩
  · rcases set_ne hj' with ⟨rfl, h1⟩ | ⟨hne, h1⟩
    · cases h1
      unfold RowOk
      rw [e]
      exact ⟨hc.trans hc0.symm, k⟩
    · exact I.row j' fz' z' c2 h1
  · have pull : ∀ {j' : Nat} {z' : Nat} {c2 : RC}, (h.R.set j (.live false z c'))[j']? = some (.live false z' c2) → ∃ z3 c3, h.R[j']? = some (.live false z3 c3) := by
      intro j' z' c2 e
      rcases set_ne e with ⟨rfl, _⟩ | ⟨_, e⟩
      · exact ⟨_, _, hj⟩
      · exact ⟨_, _, e⟩
    obtain ⟨_, _, g1⟩ := pull h1
    obtain ⟨_, _, g2⟩ := pull h2
    exact I.dist _ _ _ _ _ _ _ _ _ g1 g2 e1 e2
  · obtain ⟨j', z', c2, m', h1, h2⟩ := w
    rcases set_ne h1 with ⟨rfl, _⟩ | ⟨_, h1⟩
    · exact .inl ⟨j', z, c, m', hj, h2⟩
    · exact .inl ⟨j', z', c2, m', h1, h2⟩

theorem fixSame_fn {g : FuncId} {v : SV} (h : u1B (.fn g []) v = true) : v = .fn g [] := by
  cases v with
  | fn g' cap =>
    cases cap with
    | nil => simp [u1B] at h; rw [h]
    | cons _ _ => simp [u1B] at h
  | _ => simp [u1B] at h
theorem RP_flat {X : RX} : ∀ {s : Sh} {v : Bool}, s.flat = true → ∀ {x : El s} {ds : List DV}, RP X v s x ds → ds = flatD s x := by
  have key : ∀ (s : Sh) (v : Bool), s.flat = true → ∀ {x : El s} {ds : List DV}, RW X v s x ds → ds = flatD s x := by
    intro s
    induction s with
    | int k => intro v _ x ds h; exact h
    | bool => intro v _ x ds h; exact h
    | str => intro v _ x ds h; exact h
    | list s => intro v h; simp [Sh.flat] at h
    | tree s => intro v h; simp [Sh.flat] at h
    | uno s => intro v h; simp [Sh.flat] at h
    | mark s => intro v h; simp [Sh.flat] at h
    | pair a b iha ihb =>
      intro v h x ds k
      simp only [Sh.flat, Bool.and_eq_true] at h
      obtain ⟨d1, d2, rfl, k1, k2⟩ := k
      rw [iha v h.1 k1, ihb v h.2 k2]; rfl
  intro s v h x ds k
  cases v with
  | true => exact key s true h k
  | false => exact RE_flat s h k
theorem rows_flat {X : RX} {s : Sh} {v : Bool} (hs : s.flat = true) : ∀ {l : List (El s)} {rows : List (List DV)}, RRows (RP X v s) l rows → rows = l.map (flatD s)
  | [], [], _ => rfl
  | x :: l, r :: rows, h => by rw [RP_flat hs h.1, rows_flat hs h.2]; rfl
theorem mapM_un {s : Sh} (hs : s.flat = true) : ∀ l : List (El s), (l.map (flatD s)).mapM (un1 s) = some l
  | [] => by simp
  | x :: l => by simp [un1_flat hs x, mapM_un hs l]
theorem flat_rows {X : RX} {s : Sh} {v : Bool} (hs : s.flat = true) : ∀ l : List (El s), RRows (RP X v s) l (l.map (flatD s))
  | [] => trivial
  | x :: l => ⟨RE.toP (bare_flat hs) (u6l s hs x), flat_rows hs l⟩

theorem u6r {s : Sh} {cf : El s → El s → Int} (hO : SWO (ltOf cf)) (l : List (El s)) : (sortL cf l).length = l.length := by
  have := (pdq_sorts (ltOf cf) hO l.toArray 0 l.length (Lib.bitLen l.length) true true (Nat.zero_le _) (by simp) (Or.inl rfl)).1.1
  simpa [sortL] using this
def sortF {s : Sh} (cf : El s → El s → Int) (l : List (El s)) : Option (List (El s)) := if l.length < 4611686018427387904 then some (sortL cf l) else none

theorem sortS_ok {tbl : Table} {f g : FuncId} {s : Sh} {cf : El s → El s → Int} (hs : s.flat = true) (hO : SWO (ltOf cf)) (hp : tbl.prim f = some (u2W s cf g)) : u00 (calls tbl (ex tbl)) f (specI s.size s [.fn g []] (sortF cf)) := by
  intro X h dh aa das dcap v h' hcap I L hs'
  subst hcap
  rw [List.append_nil] at L
  have cal : ∀ (args : List DV) (d : DV) (dh' : Hp), u2W s cf g args dh = some (d, dh') → (calls tbl (ex tbl)).k (.fn f []) args dh = some (d, dh') := by
    intro args d dh' hq
    show callK tbl (ex tbl) (.fn f []) _ dh = _
    simp only [callK, hp, List.isEmpty_nil, if_true, hq]
  have hfn : ∀ {r : List SV} {dr : List DV}, r.length = [SV.fn g []].length ∧ (([SV.fn g []].zip r).all fun p => u1B p.1 p.2) = true → RVs X r dr → dr = [.fn g []] := by
    intro r dr ⟨h1, h2⟩ k
    match r, h1 with
    | [v0], _ =>
      obtain ⟨d, rfl, k1⟩ := k.one
      simp only [List.zip_cons_cons, List.zip_nil_right, List.all_cons, List.all_nil, Bool.and_true] at h2
      have := fixSame_fn h2
      subst this
      simp only [RV] at k1
      obtain ⟨ds, rfl, k2⟩ := k1
      cases ds with
      | nil => rfl
      | cons _ _ => simp [RVs] at k2
  simp only [specI] at hs'
  split at hs'
  case h_3 => exact (T.sem_fail hs').elim
  case h_2 =>
    rename_i r
    split at hs'
    case isFalse => exact (T.sem_fail hs').elim
    rename_i hr
    have e := T.sem_ret hs'
    simp only [Prod.mk.injEq] at e
    obtain ⟨rfl, rfl⟩ := e
    obtain ⟨d0, dr, rfl, k0, L⟩ := u0A L
    obtain rfl := hfn hr L
    simp only [RV] at k0
    subst k0
    exact ⟨.tup [], dh, X, cal _ _ _ (by simp [u2W]), RX.le.refl X, I, by simp [RV, RVs], Step.refl _ _ _, fun _ _ _ => rfl⟩
  rename_i j r
  split at hs'
  case isFalse => exact (T.sem_fail hs').elim
  rename_i hr
  obtain ⟨d0, dr, rfl, k0, L⟩ := u0A L
  obtain rfl := hfn hr L
  -- what it comes to
  have go : ∀ (c : RC) (vv : Bool) (l l' : List (El s)), h.R[j]? = some (.live false s.size c) → c.len = l.length → (∀ rows, RCon X s.size c rows → rows = l.map (flatD s)) → sortF cf l = some l' →
      ∃ d dh' X', (calls tbl (ex tbl)).k (.fn f []) [d0, .fn g []] dh = some (d, dh') ∧ X.le X' ∧ Inv X' (h.setR j (.live false s.size (.typed vv s l'))) dh' ∧ RV X' (.tup []) d ∧ Step X h dh X' (h.setR j (.live false s.size (.typed vv s l'))) dh' ∧ ∀ i, i < X.nb → (∀ o, SV.ptr i o ∉ (SV.own j :: r)) → dh'.B[X.bi i]? = dh.B[X.bi i]? := by
    intro c vv l l' hj hlen hrows hl'
    unfold sortF at hl'
    split at hl'
    case isFalse => cases hl'
    rename_i hsz
    cases hl'
    have R := I.row _ _ _ _ hj
    unfold RowOk at R
    simp only [RV] at k0
    cases eR : (X.R j).1 with
    | none =>
      rw [eR] at R k0
      obtain ⟨R1, R2⟩ := R
      obtain ⟨_, rfl, k3⟩ := k0
      have hl : l = [] := List.eq_nil_of_length_eq_zero (by rw [← hlen, R1, k3])
      subst hl
      have hs0 : sortL cf ([] : List (El s)) = [] := List.eq_nil_of_length_eq_zero (by rw [u6r hO]; rfl)
      rw [hs0]
      obtain ⟨g1, g2⟩ := nilSet I hj eR (c' := .typed vv s ([] : List (El s))) ⟨rfl, trivial⟩ k3
      exact ⟨.tup [], dh, X, cal _ _ _ (by simp [u2W]), RX.le.refl X, g1, by simp [RV, RVs], g2, fun _ _ _ => rfl⟩
    | some q =>
      obtain ⟨i, m⟩ := q
      rw [eR] at R k0
      obtain ⟨R1, b, R2, R3, R4, R5, R6, R7⟩ := R
      obtain ⟨_, rfl⟩ := k0
      simp only [FzOk] at R7
      rw [R7.2, List.take_of_length_le (Nat.le_refl _)] at R6
      have hb := hrows _ R6
      have hn : (X.R j).2 = l.length := by rw [← R1, hlen]
      have hbl : b.xs.length = l.length := by rw [hb, List.length_map]
      obtain ⟨g1, g2⟩ := storeRow I (c' := .typed vv s (sortL cf l)) (b' := { b with xs := (sortL cf l).map (flatD s) }) hj eR R2 rfl rfl (by rw [hb]; simp [u6r hO]) (by rw [hlen]; simp [RC.len, u6r hO]) ⟨rfl, flat_rows hs _⟩
      refine ⟨.tup [], _, X, cal _ _ _ ?_, RX.le.refl X, g1, by simp [RV, RVs], g2, fun _ _ _ => by simp [Hp.put]⟩
      simp only [u2W]
      rw [if_pos ⟨trivial, by rw [hn]; exact hsz⟩]
      simp only [u0x R2 R3]
      rw [if_pos ⟨R4, by rw [hn, hbl]; omega⟩, hn]
      have : (b.xs.drop 0).take l.length = l.map (flatD s) := by rw [List.drop_zero, ← hbl, List.take_length, hb]
      rw [this, mapM_un hs]
      simp only [List.take_zero, List.nil_append, Nat.zero_add]
      have h2 : b.xs.drop l.length = [] := List.drop_eq_nil_of_le (by omega)
      rw [h2, List.append_nil]
  split at hs'
  case h_2 => exact (T.sem_fail hs').elim
  · rename_i z' vv s' l hj
    split at hs'
    case isFalse => exact (T.sem_fail hs').elim
    rename_i hz
    subst hz
    split at hs'
    case h_2 => exact (T.sem_fail hs').elim
    rename_i l0 hl0
    obtain ⟨e, rfl⟩ := u1i hl0
    subst e
    obtain ⟨l', h1, h2⟩ := T.sem_ask hs'
    have e := T.sem_ret h2
    simp only [Prod.mk.injEq] at e
    obtain ⟨rfl, rfl⟩ := e
    exact go _ vv l l' hj rfl (fun rows hrows => rows_flat hs hrows.2) h1

theorem cmp_call {tbl : Table} {g : FuncId} {s : Sh} (hs : s.flat = true) (ha : s.isAgg = true) {F : El s × El s → Option Int} (SO : u00 (calls tbl (ex tbl)) g (specO [.kd (.val s), .kd (.val s)] [.val (.int .i64)] F)) {x y : El s} {n : Int} (hF : F (x, y) = some n) :
    callK tbl (ex tbl) (.fn g []) [.agg (flatD s x), .agg (flatD s y)] ⟨[], [], 0⟩ = some (.int .i64 n, ⟨[], [], 0⟩) := by
  have I : Inv ⟨fun _ => none, 0, fun _ => (none, 0), 0, fun _ => 0, fun _ => 0⟩ ⟨[], []⟩ ⟨[], [], 0⟩ :=
    ⟨rfl, rfl, fun i cs h => by simp at h, fun i i' h => by simp at h, fun i k h => (by cases h), fun j fz z c h => by simp at h, fun j j' z c z' c' i m m' h => by simp at h⟩
  have rv : ∀ z : El s, RV ⟨fun _ => none, 0, fun _ => (none, 0), 0, fun _ => 0, fun _ => 0⟩ (valE s z) (.agg (flatD s z)) := by
    intro z
    have h1 := (u6l s hs z)
    have h2 : RVs (⟨fun _ => none, 0, fun _ => (none, 0), 0, fun _ => 0, fun _ => 0⟩ : RX) (u0f s z []) (flatD s z ++ []) := RE.cells (r := []) (dr := []) h1 (by simp [RVs])
    rw [List.append_nil] at h2
    cases s with
    | pair a b => simp only [valE, RV]; exact ⟨_, rfl, h2⟩
    | tree a => simp only [valE, RV]; exact ⟨_, rfl, h2⟩
    | uno a => simp only [valE, RV]; exact ⟨_, rfl, h2⟩
    | mark a => simp only [valE, RV]; exact ⟨_, rfl, h2⟩
    | int k => simp [Sh.isAgg] at ha
    | bool => simp [Sh.isAgg] at ha
    | str => simp [Sh.isAgg] at ha
    | list _ => simp [Sh.isAgg] at ha
  have hrun : ((match specO [.kd (.val s), .kd (.val s)] [.val (.int .i64)] F with | .q _ run => run [valE s x, valE s y] ⟨[], []⟩ | _ => .fail).sem) = some (.int .i64 n) := by
    have e1 := u6n s x
    have e2 := u4y s x
    have e3 := u6n s y
    have e4 := u4y s y
    generalize valE s x = v0 at e1 e2
    generalize valE s y = v1 at e3 e4
    simp only [specO, u2A, e1, e3, Bool.and_self, Bool.true_eq_false, if_false, List.map_cons, List.map_nil, e2, e4, u2b, Sh.flat, decG, u4w, u5l, u5y hs, List.all_nil, if_true, kinds, KTy.mk, T.sem, ob, hF, Option.bind_some, resV, resL, K.put, valE]
  obtain ⟨d', r1, r2, _⟩ := SO _ ⟨[], []⟩ ⟨[], [], 0⟩ [valE s x, valE s y] [.agg (flatD s x), .agg (flatD s y)] [] (.int .i64 n) (.inr rfl) I (by simp only [List.append_nil, RVs, and_true]; exact ⟨rv x, rv y⟩) hrun
  simp only [RV] at r1
  subst r1
  exact r2
end Go.Dv
/- The engine, second storey: functions that call themselves. -/
set_option linter.unusedVariables false
namespace Go.Dv

def fixN {α β : Type} (Φ : (α → Option β) → α → Option β) : Nat → α → Option β
  | 0, _ => none
  | n + 1, x => Φ (fixN Φ n) x
open Classical in
noncomputable def fixO {α β : Type} (Φ : (α → Option β) → α → Option β) (x : α) : Option β := if e : ∃ n r, fixN Φ n x = some r then some e.choose_spec.choose else none
def UpO {β : Type} (o o' : Option β) : Prop := ∀ y, o = some y → o' = some y
def Mono {α β : Type} (Φ : (α → Option β) → α → Option β) : Prop := ∀ F F' : α → Option β, (∀ x, UpO (F x) (F' x)) → ∀ x, UpO (Φ F x) (Φ F' x)
end Go.Dv
/- The engine, second storey: slices.Clone of what is not written any more, whose copy is not written any more either. -/
set_option linter.unusedVariables false
set_option linter.unusedSimpArgs false
namespace Go.Dv
def cloneQD (z bytes : Nat) (zero : List DV) : DF := { cloneD z bytes zero with pure := true }
def cloneF (bytes : Nat) {α : Type} (l : List α) : Option (List α) := bif room l.length bytes then some l else none
end Go.Dv
/- The engine: a law whose run is told whole by the first storey, whatever its argument holds. -/
set_option linter.unusedVariables false
namespace Go.Dv
variable {tbl : Table} {l l1 : List DV} {h h1 : Hp} {a b : DC} {r : Option (Ex × List DV × Hp)}
def DC.fst : DC → DC
  | .seq a _ => a
  | .cond _ a _ => a
  | .block _ a => a
  | .fblock _ a => a
  | .loop a => a
  | c => c
def DC.snd : DC → DC
  | .seq _ b => b
  | .cond _ _ b => b
  | c => c
def endsQ (d : DF) (o : Option (Ex × List DV × Hp)) : Option DV := match o with
  | some (.ret, l, h') | some (.normal, l, h') => (u29 l h' d.results).map (res h' 8)
  | _ => none
end Go.Dv
