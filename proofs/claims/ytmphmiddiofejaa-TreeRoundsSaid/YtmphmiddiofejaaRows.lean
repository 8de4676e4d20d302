/-
  No cell of these rows narrows 'for every input' (looked for: loops, veiled, ifaces, maps, wideKeys, modest, calm, conditions, laid).
  DERIVED. THE GIVEN ROWS OF THIS SEAT. 3 by the template 'for every input the law returns true; each argument reads behind the call as it read before'; 0 by the template 'total and deterministic' (their statements: YtmphmiddiofejaaTotals.lean).
  GIVEN WITH THE SEED: the statements are not yours to turn. If you find one false, say at which input.
  Laid BY PROGRAM, IN A SANDBOX (cutbox-rows.mjs): the forced cells as the released guide's own fill.sh prints them over the translation b8e23af2771c3b82… (all of the seat's roots in one cut). By AI agents, Wed Nov 11 2026. No macro, syntax, notation, axiom, sorry.
-/
import Derived.Test.YtmphmiddiofejaaChecked
import GoSem.Claim
import GoSem.ClaimJoined
import GoSem.ClaimMapViews
import Derived.JoinedTies
import Derived.KernelRfl
namespace Go.Proofs.Ytmphmiddiofejaa
/- THE CELL 'sum', in the pinned program and in every row, IS THE sha256 OF THE DUMP (.gsa) THAT YtmphmiddiofejaaProg.lean LOADS. Nothing in Lean hashes anything: it is a label: what it is worth is what the hold of that sum in a sandbox is worth. -/
noncomputable def Try.pinned : Pinned := { name := "ytmphmiddiofejaa", sum := "b8e23af2771c3b82c9f322149656c47f8069b18b38cef173a2f4bcdbe660f67e", checked := Try.checked }
namespace Rows
def none {H : Type} : Left H := { results := [], args := [] }

/-- 'arraslaw16.TreeOrders': WHATEVER THE INPUT: true; the input reads as it did. -/
def treeOrdersSpec : ChangeSpec := { name := "treeOrders", fn := fun _ => fun
  | [d] => { results := [.lit (.bool true)], args := [d] }
  | _ => none }
def treeOrdersRow : OpenClaim := { program := "ytmphmiddiofejaa", sum := "b8e23af2771c3b82c9f322149656c47f8069b18b38cef173a2f4bcdbe660f67e", func := "arras/arraslaw16.TreeOrders", spec := "treeOrders", inPlace := ["slices.overlaps[arras/api.Node]", "internal/bytealg.abigen_runtime_cmpstring"], unfollowed := true, recurses := true, apart := false }
def TreeOrdersSaid : Prop := treeOrdersRow.holds Try.pinned (OpenSpec.ofChange treeOrdersSpec)

/-- ITS FALSE NEIGHBOUR: 'it returns false'. Refute it at one input. -/
def treeOrdersWrong : ChangeSpec := { name := "treeOrders", fn := fun _ => fun
  | [d] => { results := [.lit (.bool false)], args := [d] }
  | _ => none }
def TreeOrdersWrongFalsely : Prop := treeOrdersRow.holds Try.pinned (OpenSpec.ofChange treeOrdersWrong)

/-- 'arraslaw16.TreeLate': WHATEVER THE INPUT: true; the input reads as it did. -/
def treeLateSpec : ChangeSpec := { name := "treeLate", fn := fun _ => fun
  | [d] => { results := [.lit (.bool true)], args := [d] }
  | _ => none }
def treeLateRow : OpenClaim := { program := "ytmphmiddiofejaa", sum := "b8e23af2771c3b82c9f322149656c47f8069b18b38cef173a2f4bcdbe660f67e", func := "arras/arraslaw16.TreeLate", spec := "treeLate", inPlace := ["slices.overlaps[arras/api.Node]", "internal/bytealg.abigen_runtime_cmpstring"], unfollowed := true, recurses := true, apart := false }
def TreeLateSaid : Prop := treeLateRow.holds Try.pinned (OpenSpec.ofChange treeLateSpec)

/-- ITS FALSE NEIGHBOUR: 'it returns false'. Refute it at one input. -/
def treeLateWrong : ChangeSpec := { name := "treeLate", fn := fun _ => fun
  | [d] => { results := [.lit (.bool false)], args := [d] }
  | _ => none }
def TreeLateWrongFalsely : Prop := treeLateRow.holds Try.pinned (OpenSpec.ofChange treeLateWrong)

/-- 'arraslaw16.TreeRounds': WHATEVER THE INPUT: true; the input reads as it did. -/
def treeRoundsSpec : ChangeSpec := { name := "treeRounds", fn := fun _ => fun
  | [d] => { results := [.lit (.bool true)], args := [d] }
  | _ => none }
def treeRoundsRow : OpenClaim := { program := "ytmphmiddiofejaa", sum := "b8e23af2771c3b82c9f322149656c47f8069b18b38cef173a2f4bcdbe660f67e", func := "arras/arraslaw16.TreeRounds", spec := "treeRounds", inPlace := ["slices.overlaps[arras/api.Node]", "internal/bytealg.abigen_runtime_cmpstring"], unfollowed := true, recurses := true, apart := false }
def TreeRoundsSaid : Prop := treeRoundsRow.holds Try.pinned (OpenSpec.ofChange treeRoundsSpec)

/-- ITS FALSE NEIGHBOUR: 'it returns false'. Refute it at one input. -/
def treeRoundsWrong : ChangeSpec := { name := "treeRounds", fn := fun _ => fun
  | [d] => { results := [.lit (.bool false)], args := [d] }
  | _ => none }
def TreeRoundsWrongFalsely : Prop := treeRoundsRow.holds Try.pinned (OpenSpec.ofChange treeRoundsWrong)

/- THE SECOND FORM. 'bulk': how many values and letters a reading holds, each counted each time it is reached (what is shared counts as often as it is met; a slice's spare places count too). A statement '..UptoSaid' is the law's where the arguments, and the package variables that the reading takes, are together of bulk at most 1048576: NARROWER than '..Said'. Prove '..Said' where nothing that the law and all that it calls make is longer than what came in: it says more and counts as full. Else prove '..UptoSaid'. A law counts once. -/
mutual
def uptoBulk {H : Type} : DataW H → Nat
  | .lit (.string bytes) => bytes.length + 1
  | .lit _ => 1
  | .nil => 1
  | .ptr d => uptoBulk d + 1
  | .slice elems spare => uptoBulkAll elems + uptoBulkAll spare + 1
  | .agg parts => uptoBulkAll parts + 1
  | .iface _ d => uptoBulk d + 1
  | .map entries => uptoBulkEntries entries + 1
  | .held _ => 1
def uptoBulkAll {H : Type} : List (DataW H) → Nat
  | [] => 0
  | d :: r => uptoBulk d + uptoBulkAll r
def uptoBulkEntries {H : Type} : List (Lit × DataW H) → Nat
  | [] => 0
  | x :: r => uptoBulkEntry x + uptoBulkEntries r
def uptoBulkEntry {H : Type} : Lit × DataW H → Nat
  | (.string bytes, d) => bytes.length + uptoBulk d + 1
  | (_, d) => uptoBulk d + 1
 end
def uptoSmall : (H : Type) → List (DataW H) → Bool := fun _ ds => decide (uptoBulkAll ds ≤ 1048576)
def OpenSpec.upto (s : _root_.Go.ChangeSpec) : _root_.Go.OpenSpec := { _root_.Go.OpenSpec.ofChange s with cond := some uptoSmall }

/-- 'arraslaw16.TreeOrders', WHERE WHAT IT READS IS OF BULK AT MOST 1048576: true; the input reads as it did. -/
def treeOrdersUptoRow : OpenClaim := { program := "ytmphmiddiofejaa", sum := "b8e23af2771c3b82c9f322149656c47f8069b18b38cef173a2f4bcdbe660f67e", func := "arras/arraslaw16.TreeOrders", spec := "treeOrders", inPlace := ["slices.overlaps[arras/api.Node]", "internal/bytealg.abigen_runtime_cmpstring"], unfollowed := true, recurses := true, apart := false, narrowed := true }
def TreeOrdersUptoSaid : Prop := treeOrdersUptoRow.holds Try.pinned (OpenSpec.upto treeOrdersSpec)

/-- 'arraslaw16.TreeLate', WHERE WHAT IT READS IS OF BULK AT MOST 1048576: true; the input reads as it did. -/
def treeLateUptoRow : OpenClaim := { program := "ytmphmiddiofejaa", sum := "b8e23af2771c3b82c9f322149656c47f8069b18b38cef173a2f4bcdbe660f67e", func := "arras/arraslaw16.TreeLate", spec := "treeLate", inPlace := ["slices.overlaps[arras/api.Node]", "internal/bytealg.abigen_runtime_cmpstring"], unfollowed := true, recurses := true, apart := false, narrowed := true }
def TreeLateUptoSaid : Prop := treeLateUptoRow.holds Try.pinned (OpenSpec.upto treeLateSpec)

/-- 'arraslaw16.TreeRounds', WHERE WHAT IT READS IS OF BULK AT MOST 1048576: true; the input reads as it did. -/
def treeRoundsUptoRow : OpenClaim := { program := "ytmphmiddiofejaa", sum := "b8e23af2771c3b82c9f322149656c47f8069b18b38cef173a2f4bcdbe660f67e", func := "arras/arraslaw16.TreeRounds", spec := "treeRounds", inPlace := ["slices.overlaps[arras/api.Node]", "internal/bytealg.abigen_runtime_cmpstring"], unfollowed := true, recurses := true, apart := false, narrowed := true }
def TreeRoundsUptoSaid : Prop := treeRoundsUptoRow.holds Try.pinned (OpenSpec.upto treeRoundsSpec)

end Rows
end Go.Proofs.Ytmphmiddiofejaa
