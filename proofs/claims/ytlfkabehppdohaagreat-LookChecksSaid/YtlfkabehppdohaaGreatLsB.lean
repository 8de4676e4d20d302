/- A part of the proof: LsT, LsKM, LsK, LsL. -/
import Derived.Test.YtlfkabehppdohaaGreatLsA
import Derived.Test.YtlfkabehppdohaaGreatTrD
import Derived.Test.YtlfkabehppdohaaGreatDvI
set_option linter.unusedVariables false
set_option linter.unusedSimpArgs false
namespace Go.Tr
open Go Go.Dv
def kidsC (l : List Nd) (id : Sp) : List Nd := (l.filter fun n => decide (n.2.1 = id)).foldl insK []
theorem kidsC_eq {l : List Nd} (id : Sp) (hs : Srt l) : kids l id = kidsC l id := kids_fold id hs
def tallN (l : List Nd) : Nat → Sp → Nat
  | 0, _ => 0
  | n + 1, id => (kidsC l id).foldl (fun a k => max a (tallN l n k.1)) 0 + 1
def tallC (l : List Nd) (id : Sp) : Nat := tallN l (l.length + 1) id
def upC (l : List Nd) (s : Sp) : List Sp := ups l l.length s
def liveC (l : List Nd) (s : Sp) : Bool := liveB l l.length s
def livC (l : List Nd) : Nat := (l.filter fun q => liveC l q.1).length
def trashB (s : Sp) : Bool := decide (s = (0, 1))
def movesC (l : List Nd) (o : Op') : Int :=
  if (!trashB o.2.2.2.2.2.1 && !liveC l o.2.2.2.2.2.1) = true then 3
  else if ((look l o.2.2.2.2.1).isSome && (circ l o.2.2.2.2.1 o.2.2.2.2.2.1 || !liveC l o.2.2.2.2.1) || !(look l o.2.2.2.2.1).isSome && trashB o.2.2.2.2.2.1) = true then 6
  else if (!(look l o.2.2.2.2.1).isSome && decide (48 ≤ livC l)) = true then 5
  else if (liveC l o.2.2.2.2.2.1 && decide (13 < (upC l o.2.2.2.2.2.1).length + 1 + tallC l o.2.2.2.2.1)) = true then 2 else 0
def letsC (l : List Nd) (o : Op') : Int := if (o.2.2.2.1 == 1) = true then movesC l o else if (look l o.2.2.2.2.1).isSome = true then 0 else 3
end Go.Tr
/- Plain lemmas on keys as lists of bytes: what lies between two, that it lies between, and how often one finds room. No program. -/
namespace Go.Ky
open Go
abbrev L := List UInt8
def hd (a : L) : Nat := match a with | [] => 0 | x :: _ => x.toNat
def hb (b : Option L) : Nat := match b with | none => 256 | some [] => 256 | some (y :: _) => y.toNat
def nx (x y : Nat) (b : Option L) : Option L := if y = x + 1 then none else b.map List.tail
def go : Nat → L → Option L → Option L
  | 0, _, _ => none
  | n + 1, a, b => if hd a + 2 ≤ hb b then some [UInt8.ofNat (hd a + (hb b - hd a) / 2)] else (go n a.tail (nx (hd a) (hb b) b)).map (UInt8.ofNat (hd a) :: ·)
theorem hd_lt (a : L) : hd a < 256 := by cases a with | nil => decide | cons x _ => exact UInt8.toNat_lt x
theorem hb_le (b : Option L) : hb b ≤ 256 := by
  match b with
  | none => decide
  | some [] => decide
  | some (y :: _) => have := UInt8.toNat_lt y; simp only [hb]; omega
theorem ofNat_toNat' (n : Nat) (h : n < 256) : (UInt8.ofNat n).toNat = n := by simp; omega
def Ends8 : L → Prop
  | [] => False
  | [x] => x ≠ 0
  | _ :: y :: r => Ends8 (y :: r)
def Fit (a : L) : Option L → Prop
  | none => True
  | some l => Ends8 l ∧ Op.bytesLess a l = true
inductive Gap : Nat → L → Option L → Nat → Prop
  | stop {a : L} {b : Option L} {d : Nat} (ha : a.tail = []) (hbt : ∀ l, b = some l → l.tail = [] ) (h : hb b = hd a + d) (h2 : 2 ≤ d) : Gap 0 a b d
  | next {i : Nat} {a : L} {b : Option L} {d : Nat} (h1 : ¬ hd a + 2 ≤ hb b) (h2 : hd a ≤ hb b) (h : Gap i a.tail (nx (hd a) (hb b) b) d) : Gap (i + 1) a b d

theorem Gap.two {i d : Nat} {a : L} {b : Option L} (h : Gap i a b d) : 2 ≤ d := by
  induction h with
  | stop _ _ _ h2 => exact h2
  | next _ _ _ ih => exact ih

theorem gap_wide : Gap 0 [] none 256 := .stop rfl (by intro l h; cases h) rfl (by decide)
theorem Gap.put {i d : Nat} {a : L} {b : Option L} (h : Gap i a b d) : ∃ s, go (i + 1) a b = some s ∧
    (if 2 ≤ d - d / 2 then Gap i s b (d - d / 2) else Gap (i + 1) s b 256) ∧ (if 2 ≤ d / 2 then Gap i a (some s) (d / 2) else Gap (i + 1) a (some s) 256) := by
  induction h with
  | @stop a b d ha hbt h h2 =>
    have h3 := hd_lt a
    have h4 := hb_le b
    have hs : (UInt8.ofNat (hd a + d / 2)).toNat = hd a + d / 2 := ofNat_toNat' _ (by omega)
    refine ⟨[UInt8.ofNat (hd a + d / 2)], ?_, ?_, ?_⟩
    · rw [go, if_pos (by omega), h, show hd a + d - hd a = d by omega]
    · have e : hd [UInt8.ofNat (hd a + d / 2)] = hd a + d / 2 := hs
      split
      · exact .stop rfl hbt (by rw [e]; omega) (by omega)
      · refine .next (by rw [e]; omega) (by rw [e]; omega) ?_
        rw [e, h]
        have : nx (hd a + d / 2) (hd a + d) b = none := by unfold nx; rw [if_pos (by omega)]
        rw [this]
        exact gap_wide
    · have e : hb (some [UInt8.ofNat (hd a + d / 2)]) = hd a + d / 2 := hs
      split
      · exact .stop ha (by intro l hl; cases hl; rfl) (by rw [e]) (by omega)
      · refine .next (by rw [e]; omega) (by rw [e]; omega) ?_
        rw [e]
        have : nx (hd a) (hd a + d / 2) (some [UInt8.ofNat (hd a + d / 2)]) = none := by unfold nx; rw [if_pos (by omega)]
        rw [this, ha]
        exact gap_wide
  | @next i a b d h1 h2 h ih =>
    obtain ⟨s, hg, ga, gb⟩ := ih
    have h3 := hd_lt a
    have hs : (UInt8.ofNat (hd a)).toNat = hd a := ofNat_toNat' _ h3
    refine ⟨UInt8.ofNat (hd a) :: s, ?_, ?_, ?_⟩
    · rw [go, if_neg h1, hg]; rfl
    · have e : hd (UInt8.ofNat (hd a) :: s) = hd a := hs
      split at ga
      · rename_i h5; rw [if_pos h5]; exact .next (by rw [e]; exact h1) (by rw [e]; exact h2) (by rw [e]; exact ga)
      · rename_i h5; rw [if_neg h5]; exact .next (by rw [e]; exact h1) (by rw [e]; exact h2) (by rw [e]; exact ga)
    · have e : hb (some (UInt8.ofNat (hd a) :: s)) = hd a := hs
      have e2 : nx (hd a) (hd a) (some (UInt8.ofNat (hd a) :: s)) = some s := by unfold nx; rw [if_neg (by omega)]; rfl
      split at gb
      · rename_i h5; rw [if_pos h5]; exact .next (by rw [e]; omega) (by rw [e]; omega) (by rw [e, e2]; exact gb)
      · rename_i h5; rw [if_neg h5]; exact .next (by rw [e]; omega) (by rw [e]; omega) (by rw [e, e2]; exact gb)

def At (c : Nat) (a : L) (b : Option L) : Prop := Gap (c / 8) a b (2 ^ (8 - c % 8))
theorem pow8 (t : Nat) (h : t < 8) : (2 ^ (8 - t) - 2 ^ (8 - t) / 2 = 2 ^ (8 - (t + 1))) ∧ (2 ^ (8 - t) / 2 = 2 ^ (8 - (t + 1))) := by
  match t, h with
  | 0, _ => decide
  | 1, _ => decide
  | 2, _ => decide
  | 3, _ => decide
  | 4, _ => decide
  | 5, _ => decide
  | 6, _ => decide
  | 7, _ => decide
theorem At.put {c : Nat} {a : L} {b : Option L} (h : At c a b) : ∃ s, go (c / 8 + 1) a b = some s ∧ At (c + 1) s b ∧ At (c + 1) a (some s) := by
  obtain ⟨s, hg, ga, gb⟩ := Gap.put h
  have ht : c % 8 < 8 := Nat.mod_lt _ (by decide)
  have hp := pow8 (c % 8) ht
  rw [hp.1] at ga
  rw [hp.2] at gb
  refine ⟨s, hg, ?_, ?_⟩
  · by_cases h7 : c % 8 = 7
    · rw [h7] at ga
      rw [if_neg (by decide)] at ga
      unfold At
      rw [show (c + 1) / 8 = c / 8 + 1 by omega, show (c + 1) % 8 = 0 by omega]
      exact ga
    · have : 2 ≤ 2 ^ (8 - (c % 8 + 1)) := by
        have : 2 ^ 1 ≤ 2 ^ (8 - (c % 8 + 1)) := Nat.pow_le_pow_right (by decide) (by omega)
        simpa using this
      rw [if_pos this] at ga
      unfold At
      rw [show (c + 1) / 8 = c / 8 by omega, show (c + 1) % 8 = c % 8 + 1 by omega]
      exact ga
  · by_cases h7 : c % 8 = 7
    · rw [h7] at gb
      rw [if_neg (by decide)] at gb
      unfold At
      rw [show (c + 1) / 8 = c / 8 + 1 by omega, show (c + 1) % 8 = 0 by omega]
      exact gb
    · have : 2 ≤ 2 ^ (8 - (c % 8 + 1)) := by
        have : 2 ^ 1 ≤ 2 ^ (8 - (c % 8 + 1)) := Nat.pow_le_pow_right (by decide) (by omega)
        simpa using this
      rw [if_pos this] at gb
      unfold At
      rw [show (c + 1) / 8 = c / 8 by omega, show (c + 1) % 8 = c % 8 + 1 by omega]
      exact gb
end Go.Ky
set_option linter.unusedVariables false
set_option linter.unusedSimpArgs false
namespace Go.Tr
open Go Go.Dv Go.Ky
def mkB (s : L) : ByteArray := ⟨s.toArray⟩
def ints (s : L) : List Int := s.map fun u => (u.toNat : Int)
def resK : Option L → ByteArray × Int
  | none => (⟨#[]⟩, 5)
  | some s => (mkB s, 0)
def resAtK (acc : L) (r : Option L) : ByteArray × Int := resK (r.map (acc ++ ·))
def lft (left : Bool) (b : ByteArray) (i : Nat) : Option L := if left = true then none else some (b.data.toList.drop i)
abbrev SK : Type := ByteArray × (ByteArray × (List Int × (Int × Bool)))
def boundK (b : L) : Option L := if b = [] then none else some b
noncomputable def mayK (a b : ByteArray) : Bool := (empB a || keyB a) && (empB b || (keyB b && Go.Op.bytesLess a.data.toList b.data.toList))
end Go.Tr
set_option linter.unusedVariables false
set_option linter.unusedSimpArgs false
namespace Go.Tr
open Go Go.Dv Go.Ky
def lastK (K : List Nd) : ByteArray := match K.getLast? with
  | some n => n.2.2
  | none => ⟨#[]⟩
noncomputable def gapC (l : List Nd) (p : Sp) : ByteArray × Int :=
  if liveC l p = true then (if mayK (lastK (kidsC l p)) ⟨#[]⟩ = true then resK (go 64 (lastK (kidsC l p)).data.toList none) else (⟨#[]⟩, 1)) else (⟨#[]⟩, 3)
theorem O_op : opOk (arraslaw10_O ()) = true := by rw [← mv_op rfl]; exact O_ok
theorem made_O : (made [arraslaw10_O ()]).1 = [(((1 : Int), (0 : Int)), ((0 : Int), (0 : Int)), (ByteArray.mk ([107]).toArray))] := by
  simp [made, nds, doL, circ, ov, arraslaw10_O, putN]
structure Light (x : Script_arraslaw17) : Prop where
  s : SmS x.1
  n : x.1.1.1.length ≤ 3000
  m : x.1.1.2.length ≤ 60
  k : x.1.2.length ≤ 3000
  l : x.2.1.length ≤ 3000
  i : x.2.2.length ≤ 200
  d : ∀ o ∈ x.2.1, o.2.2.1.length ≤ 3000
end Go.Tr
