/-
  No cell of these rows narrows 'for every input' (looked for: loops, veiled, ifaces, maps, wideKeys, modest, calm, conditions, laid).
  DERIVED. THE GIVEN ROWS OF THIS SEAT. 4 by the template 'for every input the law returns true; each argument reads behind the call as it read before'; 0 by the template 'total and deterministic' (their statements: YthcadjfkbkegcaaTotals.lean).
  GIVEN WITH THE SEED: the statements are not yours to turn. If you find one false, say at which input.
  Laid BY PROGRAM, IN A SANDBOX (cutbox-rows.mjs): the forced cells as the released guide's own fill.sh prints them over the translation f7de9f14d2b7aaad… (all of the seat's roots in one cut). By AI agents, Wed Nov 11 2026. No macro, syntax, notation, axiom, sorry.
-/
import Derived.Test.YthcadjfkbkegcaaChecked
import GoSem.Claim
import GoSem.ClaimJoined
import GoSem.ClaimMapViews
import Derived.JoinedTies
import Derived.KernelRfl
namespace Go.Proofs.Ythcadjfkbkegcaa
/- THE CELL 'sum', in the pinned program and in every row, IS THE sha256 OF THE DUMP (.gsa) THAT YthcadjfkbkegcaaProg.lean LOADS. Nothing in Lean hashes anything: it is a label: what it is worth is what the hold of that sum in a sandbox is worth. -/
noncomputable def Try.pinned : Pinned := { name := "ythcadjfkbkegcaa", sum := "f7de9f14d2b7aaad9d18c73b37e5de07c054d2f8feb152730424c571f5eb44be", checked := Try.checked }
namespace Rows
def none {H : Type} : Left H := { results := [], args := [] }

/-- 'arraslaw8.KeyHalves': WHATEVER THE INPUT: true; the input reads as it did. -/
def keyHalvesSpec : ChangeSpec := { name := "keyHalves", fn := fun _ => fun
  | [d] => { results := [.lit (.bool true)], args := [d] }
  | _ => none }
def keyHalvesRow : OpenClaim := { program := "ythcadjfkbkegcaa", sum := "f7de9f14d2b7aaad9d18c73b37e5de07c054d2f8feb152730424c571f5eb44be", func := "arras/arraslaw8.KeyHalves", spec := "keyHalves", apart := false }
def KeyHalvesSaid : Prop := keyHalvesRow.holds Try.pinned (OpenSpec.ofChange keyHalvesSpec)

/-- ITS FALSE NEIGHBOUR: 'it returns false'. Refute it at one input. -/
def keyHalvesWrong : ChangeSpec := { name := "keyHalves", fn := fun _ => fun
  | [d] => { results := [.lit (.bool false)], args := [d] }
  | _ => none }
def KeyHalvesWrongFalsely : Prop := keyHalvesRow.holds Try.pinned (OpenSpec.ofChange keyHalvesWrong)

/-- 'arraslaw8.KeyBetweens': WHATEVER THE INPUT: true; the input reads as it did. -/
def keyBetweensSpec : ChangeSpec := { name := "keyBetweens", fn := fun _ => fun
  | [d] => { results := [.lit (.bool true)], args := [d] }
  | _ => none }
def keyBetweensRow : OpenClaim := { program := "ythcadjfkbkegcaa", sum := "f7de9f14d2b7aaad9d18c73b37e5de07c054d2f8feb152730424c571f5eb44be", func := "arras/arraslaw8.KeyBetweens", spec := "keyBetweens", apart := false }
def KeyBetweensSaid : Prop := keyBetweensRow.holds Try.pinned (OpenSpec.ofChange keyBetweensSpec)

/-- ITS FALSE NEIGHBOUR: 'it returns false'. Refute it at one input. -/
def keyBetweensWrong : ChangeSpec := { name := "keyBetweens", fn := fun _ => fun
  | [d] => { results := [.lit (.bool false)], args := [d] }
  | _ => none }
def KeyBetweensWrongFalsely : Prop := keyBetweensRow.holds Try.pinned (OpenSpec.ofChange keyBetweensWrong)

/-- 'arraslaw8.KeyLies': WHATEVER THE INPUT: true; the input reads as it did. -/
def keyLiesSpec : ChangeSpec := { name := "keyLies", fn := fun _ => fun
  | [d] => { results := [.lit (.bool true)], args := [d] }
  | _ => none }
def keyLiesRow : OpenClaim := { program := "ythcadjfkbkegcaa", sum := "f7de9f14d2b7aaad9d18c73b37e5de07c054d2f8feb152730424c571f5eb44be", func := "arras/arraslaw8.KeyLies", spec := "keyLies", apart := false }
def KeyLiesSaid : Prop := keyLiesRow.holds Try.pinned (OpenSpec.ofChange keyLiesSpec)

/-- ITS FALSE NEIGHBOUR: 'it returns false'. Refute it at one input. -/
def keyLiesWrong : ChangeSpec := { name := "keyLies", fn := fun _ => fun
  | [d] => { results := [.lit (.bool false)], args := [d] }
  | _ => none }
def KeyLiesWrongFalsely : Prop := keyLiesRow.holds Try.pinned (OpenSpec.ofChange keyLiesWrong)

/-- 'arraslaw8.KeyMany': WHATEVER THE INPUT: true; the input reads as it did. -/
def keyManySpec : ChangeSpec := { name := "keyMany", fn := fun _ => fun
  | [d] => { results := [.lit (.bool true)], args := [d] }
  | _ => none }
def keyManyRow : OpenClaim := { program := "ythcadjfkbkegcaa", sum := "f7de9f14d2b7aaad9d18c73b37e5de07c054d2f8feb152730424c571f5eb44be", func := "arras/arraslaw8.KeyMany", spec := "keyMany", apart := false }
def KeyManySaid : Prop := keyManyRow.holds Try.pinned (OpenSpec.ofChange keyManySpec)

/-- ITS FALSE NEIGHBOUR: 'it returns false'. Refute it at one input. -/
def keyManyWrong : ChangeSpec := { name := "keyMany", fn := fun _ => fun
  | [d] => { results := [.lit (.bool false)], args := [d] }
  | _ => none }
def KeyManyWrongFalsely : Prop := keyManyRow.holds Try.pinned (OpenSpec.ofChange keyManyWrong)

/- THE SECOND FORM. 'bulk': how many values and letters a reading holds, each counted each time it is reached (what is shared counts as often as it is met; a slice's spare places count too). A statement '..UptoSaid' is the law's where the arguments, and the package variables that the reading takes, are together of bulk at most 1048576: NARROWER than '..Said'. Prove '..Said' where nothing that the law and all that it calls make is longer than what came in: it says more and counts as full. Else prove '..UptoSaid'. A law counts once. -/
mutual
def uptoBulk {H : Type} : DataW H → Nat
  | .lit (.string bytes) => bytes.length + 1
  | .lit _ => 1
  | .nil => 1
  | .ptr d => uptoBulk d + 1
  | .slice elems spare => uptoBulkAll elems + uptoBulkAll spare + 1
  | .agg parts => uptoBulkAll parts + 1
  | .iface _ d => uptoBulk d + 1
  | .map entries => uptoBulkEntries entries + 1
  | .held _ => 1
def uptoBulkAll {H : Type} : List (DataW H) → Nat
  | [] => 0
  | d :: r => uptoBulk d + uptoBulkAll r
def uptoBulkEntries {H : Type} : List (Lit × DataW H) → Nat
  | [] => 0
  | x :: r => uptoBulkEntry x + uptoBulkEntries r
def uptoBulkEntry {H : Type} : Lit × DataW H → Nat
  | (.string bytes, d) => bytes.length + uptoBulk d + 1
  | (_, d) => uptoBulk d + 1
 end
def uptoSmall : (H : Type) → List (DataW H) → Bool := fun _ ds => decide (uptoBulkAll ds ≤ 1048576)
def OpenSpec.upto (s : _root_.Go.ChangeSpec) : _root_.Go.OpenSpec := { _root_.Go.OpenSpec.ofChange s with cond := some uptoSmall }

/-- 'arraslaw8.KeyHalves', WHERE WHAT IT READS IS OF BULK AT MOST 1048576: true; the input reads as it did. -/
def keyHalvesUptoRow : OpenClaim := { program := "ythcadjfkbkegcaa", sum := "f7de9f14d2b7aaad9d18c73b37e5de07c054d2f8feb152730424c571f5eb44be", func := "arras/arraslaw8.KeyHalves", spec := "keyHalves", apart := false, narrowed := true }
def KeyHalvesUptoSaid : Prop := keyHalvesUptoRow.holds Try.pinned (OpenSpec.upto keyHalvesSpec)

/-- 'arraslaw8.KeyBetweens', WHERE WHAT IT READS IS OF BULK AT MOST 1048576: true; the input reads as it did. -/
def keyBetweensUptoRow : OpenClaim := { program := "ythcadjfkbkegcaa", sum := "f7de9f14d2b7aaad9d18c73b37e5de07c054d2f8feb152730424c571f5eb44be", func := "arras/arraslaw8.KeyBetweens", spec := "keyBetweens", apart := false, narrowed := true }
def KeyBetweensUptoSaid : Prop := keyBetweensUptoRow.holds Try.pinned (OpenSpec.upto keyBetweensSpec)

/-- 'arraslaw8.KeyLies', WHERE WHAT IT READS IS OF BULK AT MOST 1048576: true; the input reads as it did. -/
def keyLiesUptoRow : OpenClaim := { program := "ythcadjfkbkegcaa", sum := "f7de9f14d2b7aaad9d18c73b37e5de07c054d2f8feb152730424c571f5eb44be", func := "arras/arraslaw8.KeyLies", spec := "keyLies", apart := false, narrowed := true }
def KeyLiesUptoSaid : Prop := keyLiesUptoRow.holds Try.pinned (OpenSpec.upto keyLiesSpec)

/-- 'arraslaw8.KeyMany', WHERE WHAT IT READS IS OF BULK AT MOST 1048576: true; the input reads as it did. -/
def keyManyUptoRow : OpenClaim := { program := "ythcadjfkbkegcaa", sum := "f7de9f14d2b7aaad9d18c73b37e5de07c054d2f8feb152730424c571f5eb44be", func := "arras/arraslaw8.KeyMany", spec := "keyMany", apart := false, narrowed := true }
def KeyManyUptoSaid : Prop := keyManyUptoRow.holds Try.pinned (OpenSpec.upto keyManySpec)

end Rows
end Go.Proofs.Ythcadjfkbkegcaa
