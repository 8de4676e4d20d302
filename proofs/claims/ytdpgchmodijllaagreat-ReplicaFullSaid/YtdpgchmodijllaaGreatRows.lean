/-
  No cell of these rows narrows 'for every input' (looked for: loops, veiled, ifaces, maps, wideKeys, modest, calm, conditions, laid).
  DERIVED. THE GIVEN ROWS OF THIS SEAT. 4 by the template 'for every input the law returns true; each argument reads behind the call as it read before'; 0 by the template 'total and deterministic' (their statements: YtdpgchmodijllaaGreatTotals.lean).
  GIVEN WITH THE SEED: the statements are not yours to turn. If you find one false, say at which input.
  Laid BY PROGRAM, IN A SANDBOX (cutbox-rows.mjs): the forced cells as the released guide's own fill.sh prints them over the translation 8ff113081d62e85e… (all of the seat's roots in one cut). By AI agents, Wed Nov 11 2026. No macro, syntax, notation, axiom, sorry.
-/
import Derived.Test.YtdpgchmodijllaaGreatChecked
import GoSem.Claim
import GoSem.ClaimJoined
import GoSem.ClaimMapViews
import Derived.JoinedTies
import Derived.KernelRfl
namespace Go.Proofs.YtdpgchmodijllaaGreat
/- THE CELL 'sum', in the pinned program and in every row, IS THE sha256 OF THE DUMP (.gsa) THAT YtdpgchmodijllaaGreatProg.lean LOADS. Nothing in Lean hashes anything: it is a label: what it is worth is what the hold of that sum in a sandbox is worth. -/
noncomputable def Tryz.pinned : Pinned := { name := "ytdpgchmodijllaagreat", sum := "8ff113081d62e85ecbbbcef916f5c7fe71f45c161d1842392831683736ebc737", checked := Tryz.checked }
namespace Rows
def none {H : Type} : Left H := { results := [], args := [] }

/-- 'arraslaw26.ReplicaErrors': WHATEVER THE INPUT: true; the input reads as it did. -/
def replicaErrorsSpec : ChangeSpec := { name := "replicaErrors", fn := fun _ => fun
  | [d] => { results := [.lit (.bool true)], args := [d] }
  | _ => none }
def replicaErrorsRow : OpenClaim := { program := "ytdpgchmodijllaagreat", sum := "8ff113081d62e85ecbbbcef916f5c7fe71f45c161d1842392831683736ebc737", func := "arras/arraslaw26.ReplicaErrors", spec := "replicaErrors", inPlace := ["slices.overlaps[arras/api.Node]", "slices.overlaps[arras/api.Look]", "slices.overlaps[arras/api.Reg]", "internal/bytealg.abigen_runtime_cmpstring", "slices.overlaps[arras/api.Op]"], unfollowed := true, recurses := true, plainKeys := false, apart := false }
def ReplicaErrorsSaid : Prop := replicaErrorsRow.holds Tryz.pinned (OpenSpec.ofChange replicaErrorsSpec)

/-- ITS FALSE NEIGHBOUR: 'it returns false'. Refute it at one input. -/
def replicaErrorsWrong : ChangeSpec := { name := "replicaErrors", fn := fun _ => fun
  | [d] => { results := [.lit (.bool false)], args := [d] }
  | _ => none }
def ReplicaErrorsWrongFalsely : Prop := replicaErrorsRow.holds Tryz.pinned (OpenSpec.ofChange replicaErrorsWrong)

/-- 'arraslaw26.ReplicaFull': WHATEVER THE INPUT: true; the input reads as it did. -/
def replicaFullSpec : ChangeSpec := { name := "replicaFull", fn := fun _ => fun
  | [d] => { results := [.lit (.bool true)], args := [d] }
  | _ => none }
def replicaFullRow : OpenClaim := { program := "ytdpgchmodijllaagreat", sum := "8ff113081d62e85ecbbbcef916f5c7fe71f45c161d1842392831683736ebc737", func := "arras/arraslaw26.ReplicaFull", spec := "replicaFull", inPlace := ["slices.overlaps[arras/api.Node]", "slices.overlaps[arras/api.Look]", "slices.overlaps[arras/api.Reg]", "internal/bytealg.abigen_runtime_cmpstring", "slices.overlaps[arras/api.Op]"], unfollowed := true, recurses := true, plainKeys := false, apart := false }
def ReplicaFullSaid : Prop := replicaFullRow.holds Tryz.pinned (OpenSpec.ofChange replicaFullSpec)

/-- ITS FALSE NEIGHBOUR: 'it returns false'. Refute it at one input. -/
def replicaFullWrong : ChangeSpec := { name := "replicaFull", fn := fun _ => fun
  | [d] => { results := [.lit (.bool false)], args := [d] }
  | _ => none }
def ReplicaFullWrongFalsely : Prop := replicaFullRow.holds Tryz.pinned (OpenSpec.ofChange replicaFullWrong)

/-- 'arraslaw26.ReplicaBatches': WHATEVER THE INPUT: true; the input reads as it did. -/
def replicaBatchesSpec : ChangeSpec := { name := "replicaBatches", fn := fun _ => fun
  | [d] => { results := [.lit (.bool true)], args := [d] }
  | _ => none }
def replicaBatchesRow : OpenClaim := { program := "ytdpgchmodijllaagreat", sum := "8ff113081d62e85ecbbbcef916f5c7fe71f45c161d1842392831683736ebc737", func := "arras/arraslaw26.ReplicaBatches", spec := "replicaBatches", inPlace := ["slices.overlaps[arras/api.Node]", "slices.overlaps[arras/api.Look]", "slices.overlaps[arras/api.Reg]", "internal/bytealg.abigen_runtime_cmpstring", "slices.overlaps[arras/api.Op]"], unfollowed := true, recurses := true, plainKeys := false, apart := false }
def ReplicaBatchesSaid : Prop := replicaBatchesRow.holds Tryz.pinned (OpenSpec.ofChange replicaBatchesSpec)

/-- ITS FALSE NEIGHBOUR: 'it returns false'. Refute it at one input. -/
def replicaBatchesWrong : ChangeSpec := { name := "replicaBatches", fn := fun _ => fun
  | [d] => { results := [.lit (.bool false)], args := [d] }
  | _ => none }
def ReplicaBatchesWrongFalsely : Prop := replicaBatchesRow.holds Tryz.pinned (OpenSpec.ofChange replicaBatchesWrong)

/-- 'arraslaw26.ReplicaHolds': WHATEVER THE INPUT: true; the input reads as it did. -/
def replicaHoldsSpec : ChangeSpec := { name := "replicaHolds", fn := fun _ => fun
  | [d] => { results := [.lit (.bool true)], args := [d] }
  | _ => none }
def replicaHoldsRow : OpenClaim := { program := "ytdpgchmodijllaagreat", sum := "8ff113081d62e85ecbbbcef916f5c7fe71f45c161d1842392831683736ebc737", func := "arras/arraslaw26.ReplicaHolds", spec := "replicaHolds", inPlace := ["slices.overlaps[arras/api.Node]", "slices.overlaps[arras/api.Look]", "slices.overlaps[arras/api.Reg]", "slices.overlaps[arras/api.Op]", "internal/bytealg.abigen_runtime_cmpstring"], unfollowed := true, recurses := true, plainKeys := false, apart := false }
def ReplicaHoldsSaid : Prop := replicaHoldsRow.holds Tryz.pinned (OpenSpec.ofChange replicaHoldsSpec)

/-- ITS FALSE NEIGHBOUR: 'it returns false'. Refute it at one input. -/
def replicaHoldsWrong : ChangeSpec := { name := "replicaHolds", fn := fun _ => fun
  | [d] => { results := [.lit (.bool false)], args := [d] }
  | _ => none }
def ReplicaHoldsWrongFalsely : Prop := replicaHoldsRow.holds Tryz.pinned (OpenSpec.ofChange replicaHoldsWrong)

/- THE SECOND FORM. 'bulk': how many values and letters a reading holds, each counted each time it is reached (what is shared counts as often as it is met; a slice's spare places count too). A statement '..UptoSaid' is the law's where the arguments, and the package variables that the reading takes, are together of bulk at most 1048576: NARROWER than '..Said'. Prove '..Said' where nothing that the law and all that it calls make is longer than what came in: it says more and counts as full. Else prove '..UptoSaid'. A law counts once. -/
mutual
def uptoBulk {H : Type} : DataW H → Nat
  | .lit (.string bytes) => bytes.length + 1
  | .lit _ => 1
  | .nil => 1
  | .ptr d => uptoBulk d + 1
  | .slice elems spare => uptoBulkAll elems + uptoBulkAll spare + 1
  | .agg parts => uptoBulkAll parts + 1
  | .iface _ d => uptoBulk d + 1
  | .map entries => uptoBulkEntries entries + 1
  | .held _ => 1
def uptoBulkAll {H : Type} : List (DataW H) → Nat
  | [] => 0
  | d :: r => uptoBulk d + uptoBulkAll r
def uptoBulkEntries {H : Type} : List (Lit × DataW H) → Nat
  | [] => 0
  | x :: r => uptoBulkEntry x + uptoBulkEntries r
def uptoBulkEntry {H : Type} : Lit × DataW H → Nat
  | (.string bytes, d) => bytes.length + uptoBulk d + 1
  | (_, d) => uptoBulk d + 1
 end
def uptoSmall : (H : Type) → List (DataW H) → Bool := fun _ ds => decide (uptoBulkAll ds ≤ 1048576)
def OpenSpec.upto (s : _root_.Go.ChangeSpec) : _root_.Go.OpenSpec := { _root_.Go.OpenSpec.ofChange s with cond := some uptoSmall }

/-- 'arraslaw26.ReplicaErrors', WHERE WHAT IT READS IS OF BULK AT MOST 1048576: true; the input reads as it did. -/
def replicaErrorsUptoRow : OpenClaim := { program := "ytdpgchmodijllaagreat", sum := "8ff113081d62e85ecbbbcef916f5c7fe71f45c161d1842392831683736ebc737", func := "arras/arraslaw26.ReplicaErrors", spec := "replicaErrors", inPlace := ["slices.overlaps[arras/api.Node]", "slices.overlaps[arras/api.Look]", "slices.overlaps[arras/api.Reg]", "internal/bytealg.abigen_runtime_cmpstring", "slices.overlaps[arras/api.Op]"], unfollowed := true, recurses := true, plainKeys := false, apart := false, narrowed := true }
def ReplicaErrorsUptoSaid : Prop := replicaErrorsUptoRow.holds Tryz.pinned (OpenSpec.upto replicaErrorsSpec)

/-- 'arraslaw26.ReplicaFull', WHERE WHAT IT READS IS OF BULK AT MOST 1048576: true; the input reads as it did. -/
def replicaFullUptoRow : OpenClaim := { program := "ytdpgchmodijllaagreat", sum := "8ff113081d62e85ecbbbcef916f5c7fe71f45c161d1842392831683736ebc737", func := "arras/arraslaw26.ReplicaFull", spec := "replicaFull", inPlace := ["slices.overlaps[arras/api.Node]", "slices.overlaps[arras/api.Look]", "slices.overlaps[arras/api.Reg]", "internal/bytealg.abigen_runtime_cmpstring", "slices.overlaps[arras/api.Op]"], unfollowed := true, recurses := true, plainKeys := false, apart := false, narrowed := true }
def ReplicaFullUptoSaid : Prop := replicaFullUptoRow.holds Tryz.pinned (OpenSpec.upto replicaFullSpec)

/-- 'arraslaw26.ReplicaBatches', WHERE WHAT IT READS IS OF BULK AT MOST 1048576: true; the input reads as it did. -/
def replicaBatchesUptoRow : OpenClaim := { program := "ytdpgchmodijllaagreat", sum := "8ff113081d62e85ecbbbcef916f5c7fe71f45c161d1842392831683736ebc737", func := "arras/arraslaw26.ReplicaBatches", spec := "replicaBatches", inPlace := ["slices.overlaps[arras/api.Node]", "slices.overlaps[arras/api.Look]", "slices.overlaps[arras/api.Reg]", "internal/bytealg.abigen_runtime_cmpstring", "slices.overlaps[arras/api.Op]"], unfollowed := true, recurses := true, plainKeys := false, apart := false, narrowed := true }
def ReplicaBatchesUptoSaid : Prop := replicaBatchesUptoRow.holds Tryz.pinned (OpenSpec.upto replicaBatchesSpec)

/-- 'arraslaw26.ReplicaHolds', WHERE WHAT IT READS IS OF BULK AT MOST 1048576: true; the input reads as it did. -/
def replicaHoldsUptoRow : OpenClaim := { program := "ytdpgchmodijllaagreat", sum := "8ff113081d62e85ecbbbcef916f5c7fe71f45c161d1842392831683736ebc737", func := "arras/arraslaw26.ReplicaHolds", spec := "replicaHolds", inPlace := ["slices.overlaps[arras/api.Node]", "slices.overlaps[arras/api.Look]", "slices.overlaps[arras/api.Reg]", "slices.overlaps[arras/api.Op]", "internal/bytealg.abigen_runtime_cmpstring"], unfollowed := true, recurses := true, plainKeys := false, apart := false, narrowed := true }
def ReplicaHoldsUptoSaid : Prop := replicaHoldsUptoRow.holds Tryz.pinned (OpenSpec.upto replicaHoldsSpec)

end Rows
end Go.Proofs.YtdpgchmodijllaaGreat
