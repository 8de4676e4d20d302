/- How an argument that can be read as data is opened: a kind's reading (Kd.K), for whole numbers, bools, strings, slices and structs; and the sizes that the form's reach gives. -/
import Derived.Test.YthcadjfkbkegcaaWWords
import Derived.ChangeArms
import Derived.SizedLaws
namespace Go.Proofs.YthcadjfkbkegcaaOpens
open Go Go.Proofs.YthcadjfkbkegcaaW.PrintWords
variable {P : Program} {t e : TypeId} {α β : Type}
/-- Whatever reads as data of type t is of the kind d, and B holds of it. -/
def Opens (P : Program) (t : TypeId) (d : Kd α) (B : α → Prop) : Prop :=
  P.cellsOf t = d.sz ∧ ∀ (H : Type) (enc : TypeId × Value → H) (w : World) (held : Bool) (fuel : Nat) (cs : List Value) (x : DataW H × List MemPlace),
    DataW.trod enc P w 0 (fun _ => true) held fuel t cs = some x → (x.1.weights P t).all (· ≤ reachBytes) = true → ∃ y, d.K w y cs ∧ B y

theorem Opens.imp {d : Kd α} {B B' : α → Prop} (hB : ∀ y, B y → B' y) (h : Opens P t d B) : Opens P t d B' :=
  ⟨h.1, fun H enc w held fuel cs x hx hw => let ⟨y, hy, hb⟩ := h.2 H enc w held fuel cs x hx hw; ⟨y, hy, hB y hb⟩⟩
theorem opens_int {k : IntKind} (hu : P.underlying t = some (.int k)) (hc : P.cellsOf t = 1) : Opens P t (Kd.int k) (fun n => (Lit.int k n).wf = true) := by
  refine ⟨hc, fun H enc w held fuel cs x h _ => ?_⟩
  obtain ⟨n, rfl, _, hw⟩ := DataW.trod_int hu h
  exact ⟨n, rfl, hw⟩
theorem opens_bool (hu : P.underlying t = some .bool) (hc : P.cellsOf t = 1) : Opens P t Kd.bool (fun _ => True) := by
  refine ⟨hc, fun H enc w held fuel cs x h _ => ?_⟩
  obtain ⟨n, rfl, _⟩ := DataW.trod_bool hu h
  exact ⟨n, rfl, trivial⟩
theorem opens_string (hu : P.underlying t = some .string) (hc : P.cellsOf t = 1) : Opens P t Kd.string (fun s => s.size ≤ 140737488351232) := by
  refine ⟨hc, fun H enc w held fuel cs x h hw => ?_⟩
  obtain ⟨s, rfl, rfl, _⟩ := DataW.trod_string hu h
  refine ⟨s, rfl, ?_⟩
  simp [DataW.weights, reachBytes] at hw
  exact of_decide_eq_true hw

theorem weightsAll_mem {H : Type} {P : Program} {e : TypeId} : ∀ {l : List (DataW H)} {d : DataW H}, d ∈ l → (DataW.weightsAll P e l).all (· ≤ reachBytes) = true → (d.weights P e).all (· ≤ reachBytes) = true
  | _ :: _, _, .head _, h => by
    rw [DataW.weightsAll, List.all_append, Bool.and_eq_true] at h
    exact h.1
  | _ :: r, _, .tail _ hm, h => by
    rw [DataW.weightsAll, List.all_append, Bool.and_eq_true] at h
    exact weightsAll_mem hm h.2

theorem mapM_get {α β : Type} {f : α → Option β} : ∀ {l : List α} {r : List β}, l.mapM f = some r → r.length = l.length ∧ ∀ (i : Nat) (x : α), l[i]? = some x → ∃ y, f x = some y ∧ r[i]? = some y := by
  intro l
  induction l with
  | nil => intro r h; simp at h; subst h; exact ⟨rfl, fun i x hx => by simp at hx⟩
  | cons a l ih =>
    intro r h
    rw [List.mapM_cons] at h
    cases ha : f a with
    | none => simp [ha] at h
    | some y =>
      cases hl : l.mapM f with
      | none => simp [ha, hl] at h
      | some ys =>
        simp [ha, hl] at h
        subst h
        obtain ⟨h1, h2⟩ := ih hl
        refine ⟨by simp [h1], fun i x hx => ?_⟩
        cases i with
        | zero => simp at hx; subst hx; exact ⟨y, ha, rfl⟩
        | succ i => simp at hx; simpa using h2 i x hx

theorem add_add (a : Addr) (m n : Nat) : (a.add m).add n = a.add (m + n) := by
  unfold Addr.add
  by_cases h1 : m = 0
  · subst h1; simp
  · by_cases h2 : n = 0
    · subst h2; simp
    · simp [h1, h2, Nat.add_assoc]

theorem cells_get {w : World} {a : Addr} {n : Nat} {cs : List Value} (h : w.cells? 0 a n = some cs) : cs.length = n ∧ ∀ i u, cs[i]? = some u → w.cell? (a.add i) = some u := by
  unfold World.cells? at h
  rw [if_pos (Nat.zero_le _)] at h
  obtain ⟨h1, h2⟩ := mapM_get h
  rw [List.length_range] at h1
  refine ⟨h1, fun i u hu => ?_⟩
  have hi : i < n := by
    rw [← h1]
    rcases Nat.lt_or_ge i cs.length with h | h
    · exact h
    · rw [List.getElem?_eq_none h] at hu; cases hu
  obtain ⟨y, hy, hy2⟩ := h2 i i (List.getElem?_range hi)
  rw [hu] at hy2
  injection hy2 with hy2
  subst hy2
  exact hy

theorem opens_slice {d : Kd α} {B : α → Prop} (nb : Nat) (hd : Opens P e d B) (hu : P.underlying t = some (.slice e)) (hc : P.cellsOf t = 1) (hb : P.bytesOf e = nb) :
    Opens P t (Kd.slice e d) (fun xs => xs.length * nb ≤ 140737488351232 ∧ ∀ x ∈ xs, B x) := by
  refine ⟨hc, fun H enc w held fuel cs x h hw => ?_⟩
  rcases DataW.trod_slice hu h with ⟨rfl, rfl⟩ | ⟨a, len, cap, elems, rest, n, rfl, rfl, rfl, _, hl, hm, hlen, hel, hsp, _⟩
  · exact ⟨[], ⟨none, 0, rfl, Nat.le_refl _, rfl, by simp, fun h0 => absurd h0 (by simp)⟩, by simp, by simp⟩
  · obtain ⟨hrl, _⟩ := hsp rfl
    simp only [DataW.weights, hu, List.all_cons, List.all_append, Bool.and_eq_true, decide_eq_true_eq, List.length_map] at hw
    obtain ⟨hw1, hw2, _⟩ := hw
    have each : ∀ i, i < len → ∃ y c, c.length = d.sz ∧ d.K w y c ∧ B y ∧ ∀ j u, c[j]? = some u → w.cell? (a.add (i * d.sz + j)) = some u := by
      intro i hi
      have h1 := hel i hi
      have h2 : elems[i]? = some (elems[i]'(by omega)) := List.getElem?_eq_getElem (by omega)
      rw [h2, Option.bind_eq_some_iff] at h1
      obtain ⟨c, hc1, hc2⟩ := h1
      obtain ⟨hc3, hc4⟩ := cells_get hc1
      obtain ⟨y, hy, hB⟩ := hd.2 H enc w held n c _ hc2 (weightsAll_mem (List.mem_map_of_mem (List.getElem_mem _)) hw2)
      refine ⟨y, c, by rw [hc3, hd.1], hy, hB, fun j u hj => ?_⟩
      have := hc4 j u hj
      rwa [add_add, hd.1] at this
    have build : ∀ m, m ≤ len → ∃ ys : List α, ys.length = m ∧ (∀ y ∈ ys, B y) ∧ ∀ i y, ys[i]? = some y → ∃ c, c.length = d.sz ∧ d.K w y c ∧ ∀ j u, c[j]? = some u → w.cell? (a.add (i * d.sz + j)) = some u := by
      intro m
      induction m with
      | zero => intro _; exact ⟨[], rfl, by simp, by simp⟩
      | succ m ih =>
        intro hm
        obtain ⟨ys, h1, h2, h3⟩ := ih (by omega)
        obtain ⟨y, c, g1, g2, g3, g4⟩ := each m (by omega)
        refine ⟨ys ++ [y], by simp [h1], ?_, ?_⟩
        · intro z hz
          rcases List.mem_append.mp hz with hz | hz
          · exact h2 z hz
          · rw [List.mem_singleton.mp hz]; exact g3
        · intro i z hz
          rcases Nat.lt_or_ge i ys.length with hi | hi
          · rw [List.getElem?_append_left hi] at hz
            exact h3 i z hz
          · rw [List.getElem?_append_right hi] at hz
            have : i - ys.length = 0 := by
              rcases Nat.eq_zero_or_pos (i - ys.length) with h | h
              · exact h
              · rw [List.getElem?_eq_none (by simp; omega)] at hz; cases hz
            have hi2 : i = m := by omega
            rw [this] at hz
            simp at hz
            subst hz
            rw [hi2]
            exact ⟨c, g1, g2, g4⟩
    obtain ⟨ys, h1, h2, h3⟩ := build len (Nat.le_refl _)
    have hcap : cap ≤ 9223372036854775807 := by unfold maxLen at hm; omega
    refine ⟨ys, ⟨some a, cap, by rw [h1], by omega, rfl, by omega, fun _ => ⟨a, rfl, h3⟩⟩, ?_, h2⟩
    rw [hb] at hw1
    have h4 : elems.length + rest.length = cap := by omega
    rw [h4] at hw1
    have h5 : ys.length * nb ≤ cap * nb := Nat.mul_le_mul_right _ (by omega)
    have h6 : reachBytes = 140737488351232 := rfl
    omega

/-- The fields from one place on. -/
def Fields (P : Program) (fs : List Field) (o : Nat) (d : Kd α) (B : α → Prop) : Prop :=
  ∀ (H : Type) (enc : TypeId × Value → H) (w : World) (held : Bool) (n : Nat) (cs : List Value) (xs : List (DataW H × List MemPlace)),
    cs.length = o + d.sz → xs.length = fs.length → (∀ (i : Nat) (f : Field), fs[i]? = some f → DataW.trod enc P w 0 (fun _ => true) held n f.type ((cs.drop f.offset).take (P.cellsOf f.type)) = xs[i]?) →
    (DataW.weightsEach P (fs.map (·.type)) (xs.map (·.1))).all (· ≤ reachBytes) = true → ∃ y, d.K w y (cs.drop o) ∧ B y
theorem fields_one {f : Field} {o : Nat} {d : Kd α} {B : α → Prop} (hf : f.offset = o) (hd : Opens P f.type d B) : Fields P [f] o d B := by
  intro H enc w held n cs xs hl hx hget hw
  match xs, hx with
  | [x], _ =>
    have h1 := hget 0 f rfl
    rw [hf, hd.1, List.take_of_length_le (by rw [List.length_drop]; omega)] at h1
    simp only [List.map_cons, List.map_nil, DataW.weightsEach, List.append_nil] at hw
    exact hd.2 H enc w held n _ x h1 hw
theorem fields_cons {f : Field} {fs : List Field} {o : Nat} {a : Kd α} {b : Kd β} {A : α → Prop} {B : β → Prop} (hf : f.offset = o) (ha : Opens P f.type a A) (hb : Fields P fs (o + a.sz) b B) :
    Fields P (f :: fs) o (Kd.pair a b) (fun y => A y.1 ∧ B y.2) := by
  intro H enc w held n cs xs hl hx hget hw
  match xs, hx with
  | x :: xs, hx =>
    have h1 := hget 0 f rfl
    rw [hf, ha.1] at h1
    simp only [List.map_cons, DataW.weightsEach, List.all_append, Bool.and_eq_true] at hw
    have hl2 : cs.length = o + a.sz + b.sz := by rw [hl]; show _ = _; simp only [Kd.pair]; omega
    obtain ⟨y1, k1, b1⟩ := ha.2 H enc w held n _ x h1 hw.1
    obtain ⟨y2, k2, b2⟩ := hb H enc w held n cs xs hl2 (by simpa using hx) (fun i g hg => by simpa using hget (i + 1) g (by simpa using hg)) hw.2
    refine ⟨(y1, y2), ⟨(cs.drop o).take a.sz, cs.drop (o + a.sz), ?_, k1, k2⟩, b1, b2⟩
    rw [← List.drop_drop, List.take_append_drop]
theorem opens_struct {fs : Array Field} {d : Kd α} {B : α → Prop} {f : β → α} {g : α → β} (hfg : ∀ x, f (g x) = x) (hu : P.underlying t = some (.struct fs)) (hc : P.cellsOf t = d.sz) (hF : Fields P fs.toList 0 d B) :
    Opens P t (Kd.iso d f) (fun y => B (f y)) := by
  refine ⟨hc, fun H enc w held fuel cs x h hw => ?_⟩
  obtain ⟨xs, n, rfl, rfl, hl, hx, hget⟩ := DataW.trod_struct hu h
  simp only [DataW.weights, hu] at hw
  obtain ⟨y, hy, hB⟩ := hF H enc w held n cs xs (by rw [hl, hc]; omega) (by simpa using hx) (fun i f hf => hget i f (by simpa using hf)) hw
  refine ⟨g y, ?_, by show B (f (g y)); rw [hfg]; exact hB⟩
  show d.K w (f (g y)) cs
  rw [hfg]
  exact hy
theorem weights_at {H : Type} {P : Program} : ∀ {ts : List TypeId} {ds : List (DataW H)} {j : Nat} {t : TypeId} {d : DataW H}, ts[j]? = some t → ds[j]? = some d →
    (DataW.weightsEach P ts ds).all (· ≤ reachBytes) = true → (d.weights P t).all (· ≤ reachBytes) = true
  | t :: ts, d :: ds, 0, _, _, ht, hd, h => by
    simp at ht hd
    subst ht; subst hd
    rw [DataW.weightsEach, List.all_append, Bool.and_eq_true] at h
    exact h.1
  | t :: ts, d :: ds, j + 1, _, _, ht, hd, h => by
    rw [DataW.weightsEach, List.all_append, Bool.and_eq_true] at h
    exact weights_at (by simpa using ht) (by simpa using hd) h.2
  | [], _, _, _, _, ht, _, _ => by simp at ht
  | _ :: _, [], _, _, _, _, hd, _ => by simp at hd
end Go.Proofs.YthcadjfkbkegcaaOpens
