/-
  No cell of these rows narrows 'for every input' (looked for: loops, veiled, ifaces, maps, wideKeys, modest, calm, conditions, laid).
  DERIVED. THE GIVEN ROWS OF THIS SEAT. 3 by the template 'for every input the law returns true; each argument reads behind the call as it read before'; 0 by the template 'total and deterministic' (their statements: YtjjhppjdnbahjaaGreatTotals.lean).
  GIVEN WITH THE SEED: the statements are not yours to turn. If you find one false, say at which input.
  Laid BY PROGRAM, IN A SANDBOX (cutbox-rows.mjs): the forced cells as the released guide's own fill.sh prints them over the translation 0e9c977afd2c67a7… (all of the seat's roots in one cut). By AI agents, Wed Nov 11 2026. No macro, syntax, notation, axiom, sorry.
-/
import Derived.Test.YtjjhppjdnbahjaaGreatChecked
import GoSem.Claim
import GoSem.ClaimJoined
import GoSem.ClaimMapViews
import Derived.JoinedTies
import Derived.KernelRfl
namespace Go.Proofs.YtjjhppjdnbahjaaGreat
/- THE CELL 'sum', in the pinned program and in every row, IS THE sha256 OF THE DUMP (.gsa) THAT YtjjhppjdnbahjaaGreatProg.lean LOADS. Nothing in Lean hashes anything: it is a label: what it is worth is what the hold of that sum in a sandbox is worth. -/
noncomputable def Tryz.pinned : Pinned := { name := "ytjjhppjdnbahjaagreat", sum := "0e9c977afd2c67a7d7cce7a0b8f0c58a6ad3cadefd9bc0705e38e72938830cb5", checked := Tryz.checked }
namespace Rows
def none {H : Type} : Left H := { results := [], args := [] }

/-- 'arraslaw16.TreeApplies': WHATEVER THE INPUT: true; the input reads as it did. -/
def treeAppliesSpec : ChangeSpec := { name := "treeApplies", fn := fun _ => fun
  | [d] => { results := [.lit (.bool true)], args := [d] }
  | _ => none }
def treeAppliesRow : OpenClaim := { program := "ytjjhppjdnbahjaagreat", sum := "0e9c977afd2c67a7d7cce7a0b8f0c58a6ad3cadefd9bc0705e38e72938830cb5", func := "arras/arraslaw16.TreeApplies", spec := "treeApplies", inPlace := ["slices.overlaps[arras/api.Node]", "internal/bytealg.abigen_runtime_cmpstring"], unfollowed := true, recurses := true, apart := false }
def TreeAppliesSaid : Prop := treeAppliesRow.holds Tryz.pinned (OpenSpec.ofChange treeAppliesSpec)

/-- ITS FALSE NEIGHBOUR: 'it returns false'. Refute it at one input. -/
def treeAppliesWrong : ChangeSpec := { name := "treeApplies", fn := fun _ => fun
  | [d] => { results := [.lit (.bool false)], args := [d] }
  | _ => none }
def TreeAppliesWrongFalsely : Prop := treeAppliesRow.holds Tryz.pinned (OpenSpec.ofChange treeAppliesWrong)

/-- 'arraslaw18.LookBoxes': WHATEVER THE INPUT: true; the input reads as it did. -/
def lookBoxesSpec : ChangeSpec := { name := "lookBoxes", fn := fun _ => fun
  | [d] => { results := [.lit (.bool true)], args := [d] }
  | _ => none }
def lookBoxesRow : OpenClaim := { program := "ytjjhppjdnbahjaagreat", sum := "0e9c977afd2c67a7d7cce7a0b8f0c58a6ad3cadefd9bc0705e38e72938830cb5", func := "arras/arraslaw18.LookBoxes", spec := "lookBoxes", inPlace := ["slices.overlaps[arras/api.Node]", "internal/bytealg.abigen_runtime_cmpstring"], unfollowed := true, recurses := true, apart := false }
def LookBoxesSaid : Prop := lookBoxesRow.holds Tryz.pinned (OpenSpec.ofChange lookBoxesSpec)

/-- ITS FALSE NEIGHBOUR: 'it returns false'. Refute it at one input. -/
def lookBoxesWrong : ChangeSpec := { name := "lookBoxes", fn := fun _ => fun
  | [d] => { results := [.lit (.bool false)], args := [d] }
  | _ => none }
def LookBoxesWrongFalsely : Prop := lookBoxesRow.holds Tryz.pinned (OpenSpec.ofChange lookBoxesWrong)

/-- 'arraslaw17.ShapeApplies': WHATEVER THE INPUT: true; the input reads as it did. -/
def shapeAppliesSpec : ChangeSpec := { name := "shapeApplies", fn := fun _ => fun
  | [d] => { results := [.lit (.bool true)], args := [d] }
  | _ => none }
def shapeAppliesRow : OpenClaim := { program := "ytjjhppjdnbahjaagreat", sum := "0e9c977afd2c67a7d7cce7a0b8f0c58a6ad3cadefd9bc0705e38e72938830cb5", func := "arras/arraslaw17.ShapeApplies", spec := "shapeApplies", inPlace := ["slices.overlaps[arras/api.Node]", "slices.overlaps[arras/api.Look]", "slices.overlaps[arras/api.Reg]", "internal/bytealg.abigen_runtime_cmpstring"], unfollowed := true, recurses := true, apart := false }
def ShapeAppliesSaid : Prop := shapeAppliesRow.holds Tryz.pinned (OpenSpec.ofChange shapeAppliesSpec)

/-- ITS FALSE NEIGHBOUR: 'it returns false'. Refute it at one input. -/
def shapeAppliesWrong : ChangeSpec := { name := "shapeApplies", fn := fun _ => fun
  | [d] => { results := [.lit (.bool false)], args := [d] }
  | _ => none }
def ShapeAppliesWrongFalsely : Prop := shapeAppliesRow.holds Tryz.pinned (OpenSpec.ofChange shapeAppliesWrong)

/- THE SECOND FORM. 'bulk': how many values and letters a reading holds, each counted each time it is reached (what is shared counts as often as it is met; a slice's spare places count too). A statement '..UptoSaid' is the law's where the arguments, and the package variables that the reading takes, are together of bulk at most 1048576: NARROWER than '..Said'. Prove '..Said' where nothing that the law and all that it calls make is longer than what came in: it says more and counts as full. Else prove '..UptoSaid'. A law counts once. -/
mutual
def uptoBulk {H : Type} : DataW H → Nat
  | .lit (.string bytes) => bytes.length + 1
  | .lit _ => 1
  | .nil => 1
  | .ptr d => uptoBulk d + 1
  | .slice elems spare => uptoBulkAll elems + uptoBulkAll spare + 1
  | .agg parts => uptoBulkAll parts + 1
  | .iface _ d => uptoBulk d + 1
  | .map entries => uptoBulkEntries entries + 1
  | .held _ => 1
def uptoBulkAll {H : Type} : List (DataW H) → Nat
  | [] => 0
  | d :: r => uptoBulk d + uptoBulkAll r
def uptoBulkEntries {H : Type} : List (Lit × DataW H) → Nat
  | [] => 0
  | x :: r => uptoBulkEntry x + uptoBulkEntries r
def uptoBulkEntry {H : Type} : Lit × DataW H → Nat
  | (.string bytes, d) => bytes.length + uptoBulk d + 1
  | (_, d) => uptoBulk d + 1
 end
def uptoSmall : (H : Type) → List (DataW H) → Bool := fun _ ds => decide (uptoBulkAll ds ≤ 1048576)
def OpenSpec.upto (s : _root_.Go.ChangeSpec) : _root_.Go.OpenSpec := { _root_.Go.OpenSpec.ofChange s with cond := some uptoSmall }

/-- 'arraslaw16.TreeApplies', WHERE WHAT IT READS IS OF BULK AT MOST 1048576: true; the input reads as it did. -/
def treeAppliesUptoRow : OpenClaim := { program := "ytjjhppjdnbahjaagreat", sum := "0e9c977afd2c67a7d7cce7a0b8f0c58a6ad3cadefd9bc0705e38e72938830cb5", func := "arras/arraslaw16.TreeApplies", spec := "treeApplies", inPlace := ["slices.overlaps[arras/api.Node]", "internal/bytealg.abigen_runtime_cmpstring"], unfollowed := true, recurses := true, apart := false, narrowed := true }
def TreeAppliesUptoSaid : Prop := treeAppliesUptoRow.holds Tryz.pinned (OpenSpec.upto treeAppliesSpec)

/-- 'arraslaw18.LookBoxes', WHERE WHAT IT READS IS OF BULK AT MOST 1048576: true; the input reads as it did. -/
def lookBoxesUptoRow : OpenClaim := { program := "ytjjhppjdnbahjaagreat", sum := "0e9c977afd2c67a7d7cce7a0b8f0c58a6ad3cadefd9bc0705e38e72938830cb5", func := "arras/arraslaw18.LookBoxes", spec := "lookBoxes", inPlace := ["slices.overlaps[arras/api.Node]", "internal/bytealg.abigen_runtime_cmpstring"], unfollowed := true, recurses := true, apart := false, narrowed := true }
def LookBoxesUptoSaid : Prop := lookBoxesUptoRow.holds Tryz.pinned (OpenSpec.upto lookBoxesSpec)

/-- 'arraslaw17.ShapeApplies', WHERE WHAT IT READS IS OF BULK AT MOST 1048576: true; the input reads as it did. -/
def shapeAppliesUptoRow : OpenClaim := { program := "ytjjhppjdnbahjaagreat", sum := "0e9c977afd2c67a7d7cce7a0b8f0c58a6ad3cadefd9bc0705e38e72938830cb5", func := "arras/arraslaw17.ShapeApplies", spec := "shapeApplies", inPlace := ["slices.overlaps[arras/api.Node]", "slices.overlaps[arras/api.Look]", "slices.overlaps[arras/api.Reg]", "internal/bytealg.abigen_runtime_cmpstring"], unfollowed := true, recurses := true, apart := false, narrowed := true }
def ShapeAppliesUptoSaid : Prop := shapeAppliesUptoRow.holds Tryz.pinned (OpenSpec.upto shapeAppliesSpec)

end Rows
end Go.Proofs.YtjjhppjdnbahjaaGreat
