/-
  No cell of these rows narrows 'for every input' (looked for: loops, veiled, ifaces, maps, wideKeys, modest, calm, conditions, laid).
  DERIVED. THE GIVEN ROWS OF THIS SEAT. 7 by the template 'for every input the law returns true; each argument reads behind the call as it read before'; 0 by the template 'total and deterministic' (their statements: YtmphmiddiofejaaGreatTotals.lean).
  GIVEN WITH THE SEED: the statements are not yours to turn. If you find one false, say at which input.
  Laid BY PROGRAM, IN A SANDBOX (cutbox-rows.mjs): the forced cells as the released guide's own fill.sh prints them over the translation 56f81dfa4d2197d4… (all of the seat's roots in one cut). By AI agents, Wed Nov 11 2026. No macro, syntax, notation, axiom, sorry.
-/
import Derived.Test.YtmphmiddiofejaaGreatChecked
import GoSem.Claim
import GoSem.ClaimJoined
import GoSem.ClaimMapViews
import Derived.JoinedTies
import Derived.KernelRfl
namespace Go.Proofs.YtmphmiddiofejaaGreat
/- THE CELL 'sum', in the pinned program and in every row, IS THE sha256 OF THE DUMP (.gsa) THAT YtmphmiddiofejaaGreatProg.lean LOADS. Nothing in Lean hashes anything: it is a label: what it is worth is what the hold of that sum in a sandbox is worth. -/
noncomputable def Tryz.pinned : Pinned := { name := "ytmphmiddiofejaagreat", sum := "56f81dfa4d2197d459afd363e73476683019c4bb08306904badf7bac0586ea33", checked := Tryz.checked }
namespace Rows
def none {H : Type} : Left H := { results := [], args := [] }

/-- 'arraslaw16.TreeApplies': WHATEVER THE INPUT: true; the input reads as it did. -/
def treeAppliesSpec : ChangeSpec := { name := "treeApplies", fn := fun _ => fun
  | [d] => { results := [.lit (.bool true)], args := [d] }
  | _ => none }
def treeAppliesRow : OpenClaim := { program := "ytmphmiddiofejaagreat", sum := "56f81dfa4d2197d459afd363e73476683019c4bb08306904badf7bac0586ea33", func := "arras/arraslaw16.TreeApplies", spec := "treeApplies", inPlace := ["slices.overlaps[arras/api.Node]", "internal/bytealg.abigen_runtime_cmpstring"], unfollowed := true, recurses := true, apart := false }
def TreeAppliesSaid : Prop := treeAppliesRow.holds Tryz.pinned (OpenSpec.ofChange treeAppliesSpec)

/-- ITS FALSE NEIGHBOUR: 'it returns false'. Refute it at one input. -/
def treeAppliesWrong : ChangeSpec := { name := "treeApplies", fn := fun _ => fun
  | [d] => { results := [.lit (.bool false)], args := [d] }
  | _ => none }
def TreeAppliesWrongFalsely : Prop := treeAppliesRow.holds Tryz.pinned (OpenSpec.ofChange treeAppliesWrong)

/-- 'arraslaw16.TreeUndoes': WHATEVER THE INPUT: true; the input reads as it did. -/
def treeUndoesSpec : ChangeSpec := { name := "treeUndoes", fn := fun _ => fun
  | [d] => { results := [.lit (.bool true)], args := [d] }
  | _ => none }
def treeUndoesRow : OpenClaim := { program := "ytmphmiddiofejaagreat", sum := "56f81dfa4d2197d459afd363e73476683019c4bb08306904badf7bac0586ea33", func := "arras/arraslaw16.TreeUndoes", spec := "treeUndoes", inPlace := ["slices.overlaps[arras/api.Node]", "internal/bytealg.abigen_runtime_cmpstring"], unfollowed := true, recurses := true, apart := false }
def TreeUndoesSaid : Prop := treeUndoesRow.holds Tryz.pinned (OpenSpec.ofChange treeUndoesSpec)

/-- ITS FALSE NEIGHBOUR: 'it returns false'. Refute it at one input. -/
def treeUndoesWrong : ChangeSpec := { name := "treeUndoes", fn := fun _ => fun
  | [d] => { results := [.lit (.bool false)], args := [d] }
  | _ => none }
def TreeUndoesWrongFalsely : Prop := treeUndoesRow.holds Tryz.pinned (OpenSpec.ofChange treeUndoesWrong)

/-- 'arraslaw16.TreeAsks': WHATEVER THE INPUT: true; the input reads as it did. -/
def treeAsksSpec : ChangeSpec := { name := "treeAsks", fn := fun _ => fun
  | [d] => { results := [.lit (.bool true)], args := [d] }
  | _ => none }
def treeAsksRow : OpenClaim := { program := "ytmphmiddiofejaagreat", sum := "56f81dfa4d2197d459afd363e73476683019c4bb08306904badf7bac0586ea33", func := "arras/arraslaw16.TreeAsks", spec := "treeAsks", inPlace := ["slices.overlaps[arras/api.Node]", "internal/bytealg.abigen_runtime_cmpstring"], unfollowed := true, recurses := true, apart := false }
def TreeAsksSaid : Prop := treeAsksRow.holds Tryz.pinned (OpenSpec.ofChange treeAsksSpec)

/-- ITS FALSE NEIGHBOUR: 'it returns false'. Refute it at one input. -/
def treeAsksWrong : ChangeSpec := { name := "treeAsks", fn := fun _ => fun
  | [d] => { results := [.lit (.bool false)], args := [d] }
  | _ => none }
def TreeAsksWrongFalsely : Prop := treeAsksRow.holds Tryz.pinned (OpenSpec.ofChange treeAsksWrong)

/-- 'arraslaw16.TreeFinds': WHATEVER THE INPUT: true; the input reads as it did. -/
def treeFindsSpec : ChangeSpec := { name := "treeFinds", fn := fun _ => fun
  | [d] => { results := [.lit (.bool true)], args := [d] }
  | _ => none }
def treeFindsRow : OpenClaim := { program := "ytmphmiddiofejaagreat", sum := "56f81dfa4d2197d459afd363e73476683019c4bb08306904badf7bac0586ea33", func := "arras/arraslaw16.TreeFinds", spec := "treeFinds", inPlace := ["slices.overlaps[arras/api.Node]", "internal/bytealg.abigen_runtime_cmpstring"], unfollowed := true, recurses := true, apart := false }
def TreeFindsSaid : Prop := treeFindsRow.holds Tryz.pinned (OpenSpec.ofChange treeFindsSpec)

/-- ITS FALSE NEIGHBOUR: 'it returns false'. Refute it at one input. -/
def treeFindsWrong : ChangeSpec := { name := "treeFinds", fn := fun _ => fun
  | [d] => { results := [.lit (.bool false)], args := [d] }
  | _ => none }
def TreeFindsWrongFalsely : Prop := treeFindsRow.holds Tryz.pinned (OpenSpec.ofChange treeFindsWrong)

/-- 'arraslaw16.TreeKids': WHATEVER THE INPUT: true; the input reads as it did. -/
def treeKidsSpec : ChangeSpec := { name := "treeKids", fn := fun _ => fun
  | [d] => { results := [.lit (.bool true)], args := [d] }
  | _ => none }
def treeKidsRow : OpenClaim := { program := "ytmphmiddiofejaagreat", sum := "56f81dfa4d2197d459afd363e73476683019c4bb08306904badf7bac0586ea33", func := "arras/arraslaw16.TreeKids", spec := "treeKids", inPlace := ["slices.overlaps[arras/api.Node]", "internal/bytealg.abigen_runtime_cmpstring"], unfollowed := true, recurses := true, apart := false }
def TreeKidsSaid : Prop := treeKidsRow.holds Tryz.pinned (OpenSpec.ofChange treeKidsSpec)

/-- ITS FALSE NEIGHBOUR: 'it returns false'. Refute it at one input. -/
def treeKidsWrong : ChangeSpec := { name := "treeKids", fn := fun _ => fun
  | [d] => { results := [.lit (.bool false)], args := [d] }
  | _ => none }
def TreeKidsWrongFalsely : Prop := treeKidsRow.holds Tryz.pinned (OpenSpec.ofChange treeKidsWrong)

/-- 'arraslaw16.TreeAboves': WHATEVER THE INPUT: true; the input reads as it did. -/
def treeAbovesSpec : ChangeSpec := { name := "treeAboves", fn := fun _ => fun
  | [d] => { results := [.lit (.bool true)], args := [d] }
  | _ => none }
def treeAbovesRow : OpenClaim := { program := "ytmphmiddiofejaagreat", sum := "56f81dfa4d2197d459afd363e73476683019c4bb08306904badf7bac0586ea33", func := "arras/arraslaw16.TreeAboves", spec := "treeAboves", inPlace := ["slices.overlaps[arras/api.Node]", "internal/bytealg.abigen_runtime_cmpstring"], unfollowed := true, recurses := true, apart := false }
def TreeAbovesSaid : Prop := treeAbovesRow.holds Tryz.pinned (OpenSpec.ofChange treeAbovesSpec)

/-- ITS FALSE NEIGHBOUR: 'it returns false'. Refute it at one input. -/
def treeAbovesWrong : ChangeSpec := { name := "treeAboves", fn := fun _ => fun
  | [d] => { results := [.lit (.bool false)], args := [d] }
  | _ => none }
def TreeAbovesWrongFalsely : Prop := treeAbovesRow.holds Tryz.pinned (OpenSpec.ofChange treeAbovesWrong)

/-- 'arraslaw16.TreeLives': WHATEVER THE INPUT: true; the input reads as it did. -/
def treeLivesSpec : ChangeSpec := { name := "treeLives", fn := fun _ => fun
  | [d] => { results := [.lit (.bool true)], args := [d] }
  | _ => none }
def treeLivesRow : OpenClaim := { program := "ytmphmiddiofejaagreat", sum := "56f81dfa4d2197d459afd363e73476683019c4bb08306904badf7bac0586ea33", func := "arras/arraslaw16.TreeLives", spec := "treeLives", inPlace := ["slices.overlaps[arras/api.Node]", "internal/bytealg.abigen_runtime_cmpstring"], unfollowed := true, recurses := true, apart := false }
def TreeLivesSaid : Prop := treeLivesRow.holds Tryz.pinned (OpenSpec.ofChange treeLivesSpec)

/-- ITS FALSE NEIGHBOUR: 'it returns false'. Refute it at one input. -/
def treeLivesWrong : ChangeSpec := { name := "treeLives", fn := fun _ => fun
  | [d] => { results := [.lit (.bool false)], args := [d] }
  | _ => none }
def TreeLivesWrongFalsely : Prop := treeLivesRow.holds Tryz.pinned (OpenSpec.ofChange treeLivesWrong)

/- THE SECOND FORM. 'bulk': how many values and letters a reading holds, each counted each time it is reached (what is shared counts as often as it is met; a slice's spare places count too). A statement '..UptoSaid' is the law's where the arguments, and the package variables that the reading takes, are together of bulk at most 1048576: NARROWER than '..Said'. Prove '..Said' where nothing that the law and all that it calls make is longer than what came in: it says more and counts as full. Else prove '..UptoSaid'. A law counts once. -/
mutual
def uptoBulk {H : Type} : DataW H → Nat
  | .lit (.string bytes) => bytes.length + 1
  | .lit _ => 1
  | .nil => 1
  | .ptr d => uptoBulk d + 1
  | .slice elems spare => uptoBulkAll elems + uptoBulkAll spare + 1
  | .agg parts => uptoBulkAll parts + 1
  | .iface _ d => uptoBulk d + 1
  | .map entries => uptoBulkEntries entries + 1
  | .held _ => 1
def uptoBulkAll {H : Type} : List (DataW H) → Nat
  | [] => 0
  | d :: r => uptoBulk d + uptoBulkAll r
def uptoBulkEntries {H : Type} : List (Lit × DataW H) → Nat
  | [] => 0
  | x :: r => uptoBulkEntry x + uptoBulkEntries r
def uptoBulkEntry {H : Type} : Lit × DataW H → Nat
  | (.string bytes, d) => bytes.length + uptoBulk d + 1
  | (_, d) => uptoBulk d + 1
 end
def uptoSmall : (H : Type) → List (DataW H) → Bool := fun _ ds => decide (uptoBulkAll ds ≤ 1048576)
def OpenSpec.upto (s : _root_.Go.ChangeSpec) : _root_.Go.OpenSpec := { _root_.Go.OpenSpec.ofChange s with cond := some uptoSmall }

/-- 'arraslaw16.TreeApplies', WHERE WHAT IT READS IS OF BULK AT MOST 1048576: true; the input reads as it did. -/
def treeAppliesUptoRow : OpenClaim := { program := "ytmphmiddiofejaagreat", sum := "56f81dfa4d2197d459afd363e73476683019c4bb08306904badf7bac0586ea33", func := "arras/arraslaw16.TreeApplies", spec := "treeApplies", inPlace := ["slices.overlaps[arras/api.Node]", "internal/bytealg.abigen_runtime_cmpstring"], unfollowed := true, recurses := true, apart := false, narrowed := true }
def TreeAppliesUptoSaid : Prop := treeAppliesUptoRow.holds Tryz.pinned (OpenSpec.upto treeAppliesSpec)

/-- 'arraslaw16.TreeUndoes', WHERE WHAT IT READS IS OF BULK AT MOST 1048576: true; the input reads as it did. -/
def treeUndoesUptoRow : OpenClaim := { program := "ytmphmiddiofejaagreat", sum := "56f81dfa4d2197d459afd363e73476683019c4bb08306904badf7bac0586ea33", func := "arras/arraslaw16.TreeUndoes", spec := "treeUndoes", inPlace := ["slices.overlaps[arras/api.Node]", "internal/bytealg.abigen_runtime_cmpstring"], unfollowed := true, recurses := true, apart := false, narrowed := true }
def TreeUndoesUptoSaid : Prop := treeUndoesUptoRow.holds Tryz.pinned (OpenSpec.upto treeUndoesSpec)

/-- 'arraslaw16.TreeAsks', WHERE WHAT IT READS IS OF BULK AT MOST 1048576: true; the input reads as it did. -/
def treeAsksUptoRow : OpenClaim := { program := "ytmphmiddiofejaagreat", sum := "56f81dfa4d2197d459afd363e73476683019c4bb08306904badf7bac0586ea33", func := "arras/arraslaw16.TreeAsks", spec := "treeAsks", inPlace := ["slices.overlaps[arras/api.Node]", "internal/bytealg.abigen_runtime_cmpstring"], unfollowed := true, recurses := true, apart := false, narrowed := true }
def TreeAsksUptoSaid : Prop := treeAsksUptoRow.holds Tryz.pinned (OpenSpec.upto treeAsksSpec)

/-- 'arraslaw16.TreeFinds', WHERE WHAT IT READS IS OF BULK AT MOST 1048576: true; the input reads as it did. -/
def treeFindsUptoRow : OpenClaim := { program := "ytmphmiddiofejaagreat", sum := "56f81dfa4d2197d459afd363e73476683019c4bb08306904badf7bac0586ea33", func := "arras/arraslaw16.TreeFinds", spec := "treeFinds", inPlace := ["slices.overlaps[arras/api.Node]", "internal/bytealg.abigen_runtime_cmpstring"], unfollowed := true, recurses := true, apart := false, narrowed := true }
def TreeFindsUptoSaid : Prop := treeFindsUptoRow.holds Tryz.pinned (OpenSpec.upto treeFindsSpec)

/-- 'arraslaw16.TreeKids', WHERE WHAT IT READS IS OF BULK AT MOST 1048576: true; the input reads as it did. -/
def treeKidsUptoRow : OpenClaim := { program := "ytmphmiddiofejaagreat", sum := "56f81dfa4d2197d459afd363e73476683019c4bb08306904badf7bac0586ea33", func := "arras/arraslaw16.TreeKids", spec := "treeKids", inPlace := ["slices.overlaps[arras/api.Node]", "internal/bytealg.abigen_runtime_cmpstring"], unfollowed := true, recurses := true, apart := false, narrowed := true }
def TreeKidsUptoSaid : Prop := treeKidsUptoRow.holds Tryz.pinned (OpenSpec.upto treeKidsSpec)

/-- 'arraslaw16.TreeAboves', WHERE WHAT IT READS IS OF BULK AT MOST 1048576: true; the input reads as it did. -/
def treeAbovesUptoRow : OpenClaim := { program := "ytmphmiddiofejaagreat", sum := "56f81dfa4d2197d459afd363e73476683019c4bb08306904badf7bac0586ea33", func := "arras/arraslaw16.TreeAboves", spec := "treeAboves", inPlace := ["slices.overlaps[arras/api.Node]", "internal/bytealg.abigen_runtime_cmpstring"], unfollowed := true, recurses := true, apart := false, narrowed := true }
def TreeAbovesUptoSaid : Prop := treeAbovesUptoRow.holds Tryz.pinned (OpenSpec.upto treeAbovesSpec)

/-- 'arraslaw16.TreeLives', WHERE WHAT IT READS IS OF BULK AT MOST 1048576: true; the input reads as it did. -/
def treeLivesUptoRow : OpenClaim := { program := "ytmphmiddiofejaagreat", sum := "56f81dfa4d2197d459afd363e73476683019c4bb08306904badf7bac0586ea33", func := "arras/arraslaw16.TreeLives", spec := "treeLives", inPlace := ["slices.overlaps[arras/api.Node]", "internal/bytealg.abigen_runtime_cmpstring"], unfollowed := true, recurses := true, apart := false, narrowed := true }
def TreeLivesUptoSaid : Prop := treeLivesUptoRow.holds Tryz.pinned (OpenSpec.upto treeLivesSpec)

end Rows
end Go.Proofs.YtmphmiddiofejaaGreat
