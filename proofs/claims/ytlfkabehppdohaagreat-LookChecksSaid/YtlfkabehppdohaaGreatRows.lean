/-
  NARROWER THAN 'FOR EVERY INPUT', by the rows' own cells (each row's printed sentence says how): LookChecks: loops.
  DERIVED. THE GIVEN ROWS OF THIS SEAT. 12 by the template 'for every input the law returns true; each argument reads behind the call as it read before'; 0 by the template 'total and deterministic' (their statements: YtlfkabehppdohaaGreatTotals.lean).
  GIVEN WITH THE SEED: the statements are not yours to turn. If you find one false, say at which input.
  Laid BY PROGRAM, IN A SANDBOX (cutbox-rows.mjs): the forced cells as the released guide's own fill.sh prints them over the translation 9646fff6d7f69b42… (all of the seat's roots in one cut). By AI agents, Wed Nov 11 2026. No macro, syntax, notation, axiom, sorry.
-/
import Derived.Test.YtlfkabehppdohaaGreatChecked
import GoSem.Claim
import GoSem.ClaimJoined
import GoSem.ClaimMapViews
import Derived.JoinedTies
import Derived.KernelRfl
namespace Go.Proofs.YtlfkabehppdohaaGreat
/- THE CELL 'sum', in the pinned program and in every row, IS THE sha256 OF THE DUMP (.gsa) THAT YtlfkabehppdohaaGreatProg.lean LOADS. Nothing in Lean hashes anything: it is a label: what it is worth is what the hold of that sum in a sandbox is worth. -/
noncomputable def Tryz.pinned : Pinned := { name := "ytlfkabehppdohaagreat", sum := "9646fff6d7f69b42d531aafd7df65fd0bce89b20cb63974a430c0d58fc5934ca", checked := Tryz.checked }
namespace Rows
def none {H : Type} : Left H := { results := [], args := [] }

/-- 'arraslaw18.LookOrders': WHATEVER THE INPUT: true; the input reads as it did. -/
def lookOrdersSpec : ChangeSpec := { name := "lookOrders", fn := fun _ => fun
  | [d] => { results := [.lit (.bool true)], args := [d] }
  | _ => none }
def lookOrdersRow : OpenClaim := { program := "ytlfkabehppdohaagreat", sum := "9646fff6d7f69b42d531aafd7df65fd0bce89b20cb63974a430c0d58fc5934ca", func := "arras/arraslaw18.LookOrders", spec := "lookOrders", inPlace := ["slices.overlaps[arras/api.Node]", "internal/bytealg.abigen_runtime_cmpstring"], unfollowed := true, recurses := true, apart := false }
def LookOrdersSaid : Prop := lookOrdersRow.holds Tryz.pinned (OpenSpec.ofChange lookOrdersSpec)

/-- ITS FALSE NEIGHBOUR: 'it returns false'. Refute it at one input. -/
def lookOrdersWrong : ChangeSpec := { name := "lookOrders", fn := fun _ => fun
  | [d] => { results := [.lit (.bool false)], args := [d] }
  | _ => none }
def LookOrdersWrongFalsely : Prop := lookOrdersRow.holds Tryz.pinned (OpenSpec.ofChange lookOrdersWrong)

/-- 'arraslaw18.LookBoxes': WHATEVER THE INPUT: true; the input reads as it did. -/
def lookBoxesSpec : ChangeSpec := { name := "lookBoxes", fn := fun _ => fun
  | [d] => { results := [.lit (.bool true)], args := [d] }
  | _ => none }
def lookBoxesRow : OpenClaim := { program := "ytlfkabehppdohaagreat", sum := "9646fff6d7f69b42d531aafd7df65fd0bce89b20cb63974a430c0d58fc5934ca", func := "arras/arraslaw18.LookBoxes", spec := "lookBoxes", inPlace := ["slices.overlaps[arras/api.Node]", "internal/bytealg.abigen_runtime_cmpstring"], unfollowed := true, recurses := true, apart := false }
def LookBoxesSaid : Prop := lookBoxesRow.holds Tryz.pinned (OpenSpec.ofChange lookBoxesSpec)

/-- ITS FALSE NEIGHBOUR: 'it returns false'. Refute it at one input. -/
def lookBoxesWrong : ChangeSpec := { name := "lookBoxes", fn := fun _ => fun
  | [d] => { results := [.lit (.bool false)], args := [d] }
  | _ => none }
def LookBoxesWrongFalsely : Prop := lookBoxesRow.holds Tryz.pinned (OpenSpec.ofChange lookBoxesWrong)

/-- 'arraslaw18.LookChecks': WHATEVER THE INPUT: true; the input reads as it did. -/
def lookChecksSpec : ChangeSpec := { name := "lookChecks", fn := fun _ => fun
  | [d] => { results := [.lit (.bool true)], args := [d] }
  | _ => none }
def lookChecksRow : OpenClaim := { program := "ytlfkabehppdohaagreat", sum := "9646fff6d7f69b42d531aafd7df65fd0bce89b20cb63974a430c0d58fc5934ca", func := "arras/arraslaw18.LookChecks", spec := "lookChecks", inPlace := ["slices.overlaps[arras/api.Node]", "internal/bytealg.abigen_runtime_cmpstring"], unfollowed := true, recurses := true, loops := true, apart := false }
def LookChecksSaid : Prop := lookChecksRow.holds Tryz.pinned (OpenSpec.ofChange lookChecksSpec)

/-- ITS FALSE NEIGHBOUR: 'it returns false'. Refute it at one input. -/
def lookChecksWrong : ChangeSpec := { name := "lookChecks", fn := fun _ => fun
  | [d] => { results := [.lit (.bool false)], args := [d] }
  | _ => none }
def LookChecksWrongFalsely : Prop := lookChecksRow.holds Tryz.pinned (OpenSpec.ofChange lookChecksWrong)

/-- 'arraslaw18.LookStyles': WHATEVER THE INPUT: true; the input reads as it did. -/
def lookStylesSpec : ChangeSpec := { name := "lookStyles", fn := fun _ => fun
  | [d] => { results := [.lit (.bool true)], args := [d] }
  | _ => none }
def lookStylesRow : OpenClaim := { program := "ytlfkabehppdohaagreat", sum := "9646fff6d7f69b42d531aafd7df65fd0bce89b20cb63974a430c0d58fc5934ca", func := "arras/arraslaw18.LookStyles", spec := "lookStyles", inPlace := ["slices.overlaps[arras/api.Node]", "internal/bytealg.abigen_runtime_cmpstring"], unfollowed := true, recurses := true, apart := false }
def LookStylesSaid : Prop := lookStylesRow.holds Tryz.pinned (OpenSpec.ofChange lookStylesSpec)

/-- ITS FALSE NEIGHBOUR: 'it returns false'. Refute it at one input. -/
def lookStylesWrong : ChangeSpec := { name := "lookStyles", fn := fun _ => fun
  | [d] => { results := [.lit (.bool false)], args := [d] }
  | _ => none }
def LookStylesWrongFalsely : Prop := lookStylesRow.holds Tryz.pinned (OpenSpec.ofChange lookStylesWrong)

/-- 'arraslaw18.LookGoes': WHATEVER THE INPUT: true; the input reads as it did. -/
def lookGoesSpec : ChangeSpec := { name := "lookGoes", fn := fun _ => fun
  | [d] => { results := [.lit (.bool true)], args := [d] }
  | _ => none }
def lookGoesRow : OpenClaim := { program := "ytlfkabehppdohaagreat", sum := "9646fff6d7f69b42d531aafd7df65fd0bce89b20cb63974a430c0d58fc5934ca", func := "arras/arraslaw18.LookGoes", spec := "lookGoes", inPlace := ["slices.overlaps[arras/api.Node]", "internal/bytealg.abigen_runtime_cmpstring"], unfollowed := true, recurses := true, apart := false }
def LookGoesSaid : Prop := lookGoesRow.holds Tryz.pinned (OpenSpec.ofChange lookGoesSpec)

/-- ITS FALSE NEIGHBOUR: 'it returns false'. Refute it at one input. -/
def lookGoesWrong : ChangeSpec := { name := "lookGoes", fn := fun _ => fun
  | [d] => { results := [.lit (.bool false)], args := [d] }
  | _ => none }
def LookGoesWrongFalsely : Prop := lookGoesRow.holds Tryz.pinned (OpenSpec.ofChange lookGoesWrong)

/-- 'arraslaw17.ShapeSlots': WHATEVER THE INPUT: true; the input reads as it did. -/
def shapeSlotsSpec : ChangeSpec := { name := "shapeSlots", fn := fun _ => fun
  | [d] => { results := [.lit (.bool true)], args := [d] }
  | _ => none }
def shapeSlotsRow : OpenClaim := { program := "ytlfkabehppdohaagreat", sum := "9646fff6d7f69b42d531aafd7df65fd0bce89b20cb63974a430c0d58fc5934ca", func := "arras/arraslaw17.ShapeSlots", spec := "shapeSlots", inPlace := ["slices.overlaps[arras/api.Node]", "internal/bytealg.abigen_runtime_cmpstring", "slices.overlaps[arras/api.Look]", "slices.overlaps[arras/api.Reg]"], unfollowed := true, recurses := true, apart := false }
def ShapeSlotsSaid : Prop := shapeSlotsRow.holds Tryz.pinned (OpenSpec.ofChange shapeSlotsSpec)

/-- ITS FALSE NEIGHBOUR: 'it returns false'. Refute it at one input. -/
def shapeSlotsWrong : ChangeSpec := { name := "shapeSlots", fn := fun _ => fun
  | [d] => { results := [.lit (.bool false)], args := [d] }
  | _ => none }
def ShapeSlotsWrongFalsely : Prop := shapeSlotsRow.holds Tryz.pinned (OpenSpec.ofChange shapeSlotsWrong)

/-- 'arraslaw17.ShapeOrders': WHATEVER THE INPUT: true; the input reads as it did. -/
def shapeOrdersSpec : ChangeSpec := { name := "shapeOrders", fn := fun _ => fun
  | [d] => { results := [.lit (.bool true)], args := [d] }
  | _ => none }
def shapeOrdersRow : OpenClaim := { program := "ytlfkabehppdohaagreat", sum := "9646fff6d7f69b42d531aafd7df65fd0bce89b20cb63974a430c0d58fc5934ca", func := "arras/arraslaw17.ShapeOrders", spec := "shapeOrders", inPlace := ["slices.overlaps[arras/api.Node]", "slices.overlaps[arras/api.Look]", "slices.overlaps[arras/api.Reg]", "internal/bytealg.abigen_runtime_cmpstring"], unfollowed := true, recurses := true, apart := false }
def ShapeOrdersSaid : Prop := shapeOrdersRow.holds Tryz.pinned (OpenSpec.ofChange shapeOrdersSpec)

/-- ITS FALSE NEIGHBOUR: 'it returns false'. Refute it at one input. -/
def shapeOrdersWrong : ChangeSpec := { name := "shapeOrders", fn := fun _ => fun
  | [d] => { results := [.lit (.bool false)], args := [d] }
  | _ => none }
def ShapeOrdersWrongFalsely : Prop := shapeOrdersRow.holds Tryz.pinned (OpenSpec.ofChange shapeOrdersWrong)

/-- 'arraslaw17.ShapeLooks': WHATEVER THE INPUT: true; the input reads as it did. -/
def shapeLooksSpec : ChangeSpec := { name := "shapeLooks", fn := fun _ => fun
  | [d] => { results := [.lit (.bool true)], args := [d] }
  | _ => none }
def shapeLooksRow : OpenClaim := { program := "ytlfkabehppdohaagreat", sum := "9646fff6d7f69b42d531aafd7df65fd0bce89b20cb63974a430c0d58fc5934ca", func := "arras/arraslaw17.ShapeLooks", spec := "shapeLooks", inPlace := ["slices.overlaps[arras/api.Node]", "slices.overlaps[arras/api.Look]", "slices.overlaps[arras/api.Reg]", "internal/bytealg.abigen_runtime_cmpstring"], unfollowed := true, recurses := true, apart := false }
def ShapeLooksSaid : Prop := shapeLooksRow.holds Tryz.pinned (OpenSpec.ofChange shapeLooksSpec)

/-- ITS FALSE NEIGHBOUR: 'it returns false'. Refute it at one input. -/
def shapeLooksWrong : ChangeSpec := { name := "shapeLooks", fn := fun _ => fun
  | [d] => { results := [.lit (.bool false)], args := [d] }
  | _ => none }
def ShapeLooksWrongFalsely : Prop := shapeLooksRow.holds Tryz.pinned (OpenSpec.ofChange shapeLooksWrong)

/-- 'arraslaw17.ShapeMays': WHATEVER THE INPUT: true; the input reads as it did. -/
def shapeMaysSpec : ChangeSpec := { name := "shapeMays", fn := fun _ => fun
  | [d] => { results := [.lit (.bool true)], args := [d] }
  | _ => none }
def shapeMaysRow : OpenClaim := { program := "ytlfkabehppdohaagreat", sum := "9646fff6d7f69b42d531aafd7df65fd0bce89b20cb63974a430c0d58fc5934ca", func := "arras/arraslaw17.ShapeMays", spec := "shapeMays", inPlace := ["slices.overlaps[arras/api.Node]", "internal/bytealg.abigen_runtime_cmpstring", "slices.overlaps[arras/api.Look]", "slices.overlaps[arras/api.Reg]"], unfollowed := true, recurses := true, apart := false }
def ShapeMaysSaid : Prop := shapeMaysRow.holds Tryz.pinned (OpenSpec.ofChange shapeMaysSpec)

/-- ITS FALSE NEIGHBOUR: 'it returns false'. Refute it at one input. -/
def shapeMaysWrong : ChangeSpec := { name := "shapeMays", fn := fun _ => fun
  | [d] => { results := [.lit (.bool false)], args := [d] }
  | _ => none }
def ShapeMaysWrongFalsely : Prop := shapeMaysRow.holds Tryz.pinned (OpenSpec.ofChange shapeMaysWrong)

/-- 'arraslaw17.ShapeStays': WHATEVER THE INPUT: true; the input reads as it did. -/
def shapeStaysSpec : ChangeSpec := { name := "shapeStays", fn := fun _ => fun
  | [d] => { results := [.lit (.bool true)], args := [d] }
  | _ => none }
def shapeStaysRow : OpenClaim := { program := "ytlfkabehppdohaagreat", sum := "9646fff6d7f69b42d531aafd7df65fd0bce89b20cb63974a430c0d58fc5934ca", func := "arras/arraslaw17.ShapeStays", spec := "shapeStays", inPlace := ["slices.overlaps[arras/api.Node]", "internal/bytealg.abigen_runtime_cmpstring", "slices.overlaps[arras/api.Look]", "slices.overlaps[arras/api.Reg]"], unfollowed := true, recurses := true, apart := false }
def ShapeStaysSaid : Prop := shapeStaysRow.holds Tryz.pinned (OpenSpec.ofChange shapeStaysSpec)

/-- ITS FALSE NEIGHBOUR: 'it returns false'. Refute it at one input. -/
def shapeStaysWrong : ChangeSpec := { name := "shapeStays", fn := fun _ => fun
  | [d] => { results := [.lit (.bool false)], args := [d] }
  | _ => none }
def ShapeStaysWrongFalsely : Prop := shapeStaysRow.holds Tryz.pinned (OpenSpec.ofChange shapeStaysWrong)

/-- 'arraslaw17.ShapeDeep': WHATEVER THE INPUT: true; the input reads as it did. -/
def shapeDeepSpec : ChangeSpec := { name := "shapeDeep", fn := fun _ => fun
  | [d] => { results := [.lit (.bool true)], args := [d] }
  | _ => none }
def shapeDeepRow : OpenClaim := { program := "ytlfkabehppdohaagreat", sum := "9646fff6d7f69b42d531aafd7df65fd0bce89b20cb63974a430c0d58fc5934ca", func := "arras/arraslaw17.ShapeDeep", spec := "shapeDeep", inPlace := ["slices.overlaps[arras/api.Node]", "internal/bytealg.abigen_runtime_cmpstring", "slices.overlaps[arras/api.Look]", "slices.overlaps[arras/api.Reg]"], unfollowed := true, recurses := true, apart := false }
def ShapeDeepSaid : Prop := shapeDeepRow.holds Tryz.pinned (OpenSpec.ofChange shapeDeepSpec)

/-- ITS FALSE NEIGHBOUR: 'it returns false'. Refute it at one input. -/
def shapeDeepWrong : ChangeSpec := { name := "shapeDeep", fn := fun _ => fun
  | [d] => { results := [.lit (.bool false)], args := [d] }
  | _ => none }
def ShapeDeepWrongFalsely : Prop := shapeDeepRow.holds Tryz.pinned (OpenSpec.ofChange shapeDeepWrong)

/-- 'arraslaw17.ShapeTrash': WHATEVER THE INPUT: true; the input reads as it did. -/
def shapeTrashSpec : ChangeSpec := { name := "shapeTrash", fn := fun _ => fun
  | [d] => { results := [.lit (.bool true)], args := [d] }
  | _ => none }
def shapeTrashRow : OpenClaim := { program := "ytlfkabehppdohaagreat", sum := "9646fff6d7f69b42d531aafd7df65fd0bce89b20cb63974a430c0d58fc5934ca", func := "arras/arraslaw17.ShapeTrash", spec := "shapeTrash", inPlace := ["slices.overlaps[arras/api.Node]", "slices.overlaps[arras/api.Look]", "slices.overlaps[arras/api.Reg]", "internal/bytealg.abigen_runtime_cmpstring"], unfollowed := true, recurses := true, apart := false }
def ShapeTrashSaid : Prop := shapeTrashRow.holds Tryz.pinned (OpenSpec.ofChange shapeTrashSpec)

/-- ITS FALSE NEIGHBOUR: 'it returns false'. Refute it at one input. -/
def shapeTrashWrong : ChangeSpec := { name := "shapeTrash", fn := fun _ => fun
  | [d] => { results := [.lit (.bool false)], args := [d] }
  | _ => none }
def ShapeTrashWrongFalsely : Prop := shapeTrashRow.holds Tryz.pinned (OpenSpec.ofChange shapeTrashWrong)

/- THE SECOND FORM. 'bulk': how many values and letters a reading holds, each counted each time it is reached (what is shared counts as often as it is met; a slice's spare places count too). A statement '..UptoSaid' is the law's where the arguments, and the package variables that the reading takes, are together of bulk at most 1048576: NARROWER than '..Said'. Prove '..Said' where nothing that the law and all that it calls make is longer than what came in: it says more and counts as full. Else prove '..UptoSaid'. A law counts once. -/
mutual
def uptoBulk {H : Type} : DataW H → Nat
  | .lit (.string bytes) => bytes.length + 1
  | .lit _ => 1
  | .nil => 1
  | .ptr d => uptoBulk d + 1
  | .slice elems spare => uptoBulkAll elems + uptoBulkAll spare + 1
  | .agg parts => uptoBulkAll parts + 1
  | .iface _ d => uptoBulk d + 1
  | .map entries => uptoBulkEntries entries + 1
  | .held _ => 1
def uptoBulkAll {H : Type} : List (DataW H) → Nat
  | [] => 0
  | d :: r => uptoBulk d + uptoBulkAll r
def uptoBulkEntries {H : Type} : List (Lit × DataW H) → Nat
  | [] => 0
  | x :: r => uptoBulkEntry x + uptoBulkEntries r
def uptoBulkEntry {H : Type} : Lit × DataW H → Nat
  | (.string bytes, d) => bytes.length + uptoBulk d + 1
  | (_, d) => uptoBulk d + 1
 end
def uptoSmall : (H : Type) → List (DataW H) → Bool := fun _ ds => decide (uptoBulkAll ds ≤ 1048576)
def OpenSpec.upto (s : _root_.Go.ChangeSpec) : _root_.Go.OpenSpec := { _root_.Go.OpenSpec.ofChange s with cond := some uptoSmall }

/-- 'arraslaw18.LookOrders', WHERE WHAT IT READS IS OF BULK AT MOST 1048576: true; the input reads as it did. -/
def lookOrdersUptoRow : OpenClaim := { program := "ytlfkabehppdohaagreat", sum := "9646fff6d7f69b42d531aafd7df65fd0bce89b20cb63974a430c0d58fc5934ca", func := "arras/arraslaw18.LookOrders", spec := "lookOrders", inPlace := ["slices.overlaps[arras/api.Node]", "internal/bytealg.abigen_runtime_cmpstring"], unfollowed := true, recurses := true, apart := false, narrowed := true }
def LookOrdersUptoSaid : Prop := lookOrdersUptoRow.holds Tryz.pinned (OpenSpec.upto lookOrdersSpec)

/-- 'arraslaw18.LookBoxes', WHERE WHAT IT READS IS OF BULK AT MOST 1048576: true; the input reads as it did. -/
def lookBoxesUptoRow : OpenClaim := { program := "ytlfkabehppdohaagreat", sum := "9646fff6d7f69b42d531aafd7df65fd0bce89b20cb63974a430c0d58fc5934ca", func := "arras/arraslaw18.LookBoxes", spec := "lookBoxes", inPlace := ["slices.overlaps[arras/api.Node]", "internal/bytealg.abigen_runtime_cmpstring"], unfollowed := true, recurses := true, apart := false, narrowed := true }
def LookBoxesUptoSaid : Prop := lookBoxesUptoRow.holds Tryz.pinned (OpenSpec.upto lookBoxesSpec)

/-- 'arraslaw18.LookChecks', WHERE WHAT IT READS IS OF BULK AT MOST 1048576: true; the input reads as it did. -/
def lookChecksUptoRow : OpenClaim := { program := "ytlfkabehppdohaagreat", sum := "9646fff6d7f69b42d531aafd7df65fd0bce89b20cb63974a430c0d58fc5934ca", func := "arras/arraslaw18.LookChecks", spec := "lookChecks", inPlace := ["slices.overlaps[arras/api.Node]", "internal/bytealg.abigen_runtime_cmpstring"], unfollowed := true, recurses := true, loops := true, apart := false, narrowed := true }
def LookChecksUptoSaid : Prop := lookChecksUptoRow.holds Tryz.pinned (OpenSpec.upto lookChecksSpec)

/-- 'arraslaw18.LookStyles', WHERE WHAT IT READS IS OF BULK AT MOST 1048576: true; the input reads as it did. -/
def lookStylesUptoRow : OpenClaim := { program := "ytlfkabehppdohaagreat", sum := "9646fff6d7f69b42d531aafd7df65fd0bce89b20cb63974a430c0d58fc5934ca", func := "arras/arraslaw18.LookStyles", spec := "lookStyles", inPlace := ["slices.overlaps[arras/api.Node]", "internal/bytealg.abigen_runtime_cmpstring"], unfollowed := true, recurses := true, apart := false, narrowed := true }
def LookStylesUptoSaid : Prop := lookStylesUptoRow.holds Tryz.pinned (OpenSpec.upto lookStylesSpec)

/-- 'arraslaw18.LookGoes', WHERE WHAT IT READS IS OF BULK AT MOST 1048576: true; the input reads as it did. -/
def lookGoesUptoRow : OpenClaim := { program := "ytlfkabehppdohaagreat", sum := "9646fff6d7f69b42d531aafd7df65fd0bce89b20cb63974a430c0d58fc5934ca", func := "arras/arraslaw18.LookGoes", spec := "lookGoes", inPlace := ["slices.overlaps[arras/api.Node]", "internal/bytealg.abigen_runtime_cmpstring"], unfollowed := true, recurses := true, apart := false, narrowed := true }
def LookGoesUptoSaid : Prop := lookGoesUptoRow.holds Tryz.pinned (OpenSpec.upto lookGoesSpec)

/-- 'arraslaw17.ShapeSlots', WHERE WHAT IT READS IS OF BULK AT MOST 1048576: true; the input reads as it did. -/
def shapeSlotsUptoRow : OpenClaim := { program := "ytlfkabehppdohaagreat", sum := "9646fff6d7f69b42d531aafd7df65fd0bce89b20cb63974a430c0d58fc5934ca", func := "arras/arraslaw17.ShapeSlots", spec := "shapeSlots", inPlace := ["slices.overlaps[arras/api.Node]", "internal/bytealg.abigen_runtime_cmpstring", "slices.overlaps[arras/api.Look]", "slices.overlaps[arras/api.Reg]"], unfollowed := true, recurses := true, apart := false, narrowed := true }
def ShapeSlotsUptoSaid : Prop := shapeSlotsUptoRow.holds Tryz.pinned (OpenSpec.upto shapeSlotsSpec)

/-- 'arraslaw17.ShapeOrders', WHERE WHAT IT READS IS OF BULK AT MOST 1048576: true; the input reads as it did. -/
def shapeOrdersUptoRow : OpenClaim := { program := "ytlfkabehppdohaagreat", sum := "9646fff6d7f69b42d531aafd7df65fd0bce89b20cb63974a430c0d58fc5934ca", func := "arras/arraslaw17.ShapeOrders", spec := "shapeOrders", inPlace := ["slices.overlaps[arras/api.Node]", "slices.overlaps[arras/api.Look]", "slices.overlaps[arras/api.Reg]", "internal/bytealg.abigen_runtime_cmpstring"], unfollowed := true, recurses := true, apart := false, narrowed := true }
def ShapeOrdersUptoSaid : Prop := shapeOrdersUptoRow.holds Tryz.pinned (OpenSpec.upto shapeOrdersSpec)

/-- 'arraslaw17.ShapeLooks', WHERE WHAT IT READS IS OF BULK AT MOST 1048576: true; the input reads as it did. -/
def shapeLooksUptoRow : OpenClaim := { program := "ytlfkabehppdohaagreat", sum := "9646fff6d7f69b42d531aafd7df65fd0bce89b20cb63974a430c0d58fc5934ca", func := "arras/arraslaw17.ShapeLooks", spec := "shapeLooks", inPlace := ["slices.overlaps[arras/api.Node]", "slices.overlaps[arras/api.Look]", "slices.overlaps[arras/api.Reg]", "internal/bytealg.abigen_runtime_cmpstring"], unfollowed := true, recurses := true, apart := false, narrowed := true }
def ShapeLooksUptoSaid : Prop := shapeLooksUptoRow.holds Tryz.pinned (OpenSpec.upto shapeLooksSpec)

/-- 'arraslaw17.ShapeMays', WHERE WHAT IT READS IS OF BULK AT MOST 1048576: true; the input reads as it did. -/
def shapeMaysUptoRow : OpenClaim := { program := "ytlfkabehppdohaagreat", sum := "9646fff6d7f69b42d531aafd7df65fd0bce89b20cb63974a430c0d58fc5934ca", func := "arras/arraslaw17.ShapeMays", spec := "shapeMays", inPlace := ["slices.overlaps[arras/api.Node]", "internal/bytealg.abigen_runtime_cmpstring", "slices.overlaps[arras/api.Look]", "slices.overlaps[arras/api.Reg]"], unfollowed := true, recurses := true, apart := false, narrowed := true }
def ShapeMaysUptoSaid : Prop := shapeMaysUptoRow.holds Tryz.pinned (OpenSpec.upto shapeMaysSpec)

/-- 'arraslaw17.ShapeStays', WHERE WHAT IT READS IS OF BULK AT MOST 1048576: true; the input reads as it did. -/
def shapeStaysUptoRow : OpenClaim := { program := "ytlfkabehppdohaagreat", sum := "9646fff6d7f69b42d531aafd7df65fd0bce89b20cb63974a430c0d58fc5934ca", func := "arras/arraslaw17.ShapeStays", spec := "shapeStays", inPlace := ["slices.overlaps[arras/api.Node]", "internal/bytealg.abigen_runtime_cmpstring", "slices.overlaps[arras/api.Look]", "slices.overlaps[arras/api.Reg]"], unfollowed := true, recurses := true, apart := false, narrowed := true }
def ShapeStaysUptoSaid : Prop := shapeStaysUptoRow.holds Tryz.pinned (OpenSpec.upto shapeStaysSpec)

/-- 'arraslaw17.ShapeDeep', WHERE WHAT IT READS IS OF BULK AT MOST 1048576: true; the input reads as it did. -/
def shapeDeepUptoRow : OpenClaim := { program := "ytlfkabehppdohaagreat", sum := "9646fff6d7f69b42d531aafd7df65fd0bce89b20cb63974a430c0d58fc5934ca", func := "arras/arraslaw17.ShapeDeep", spec := "shapeDeep", inPlace := ["slices.overlaps[arras/api.Node]", "internal/bytealg.abigen_runtime_cmpstring", "slices.overlaps[arras/api.Look]", "slices.overlaps[arras/api.Reg]"], unfollowed := true, recurses := true, apart := false, narrowed := true }
def ShapeDeepUptoSaid : Prop := shapeDeepUptoRow.holds Tryz.pinned (OpenSpec.upto shapeDeepSpec)

/-- 'arraslaw17.ShapeTrash', WHERE WHAT IT READS IS OF BULK AT MOST 1048576: true; the input reads as it did. -/
def shapeTrashUptoRow : OpenClaim := { program := "ytlfkabehppdohaagreat", sum := "9646fff6d7f69b42d531aafd7df65fd0bce89b20cb63974a430c0d58fc5934ca", func := "arras/arraslaw17.ShapeTrash", spec := "shapeTrash", inPlace := ["slices.overlaps[arras/api.Node]", "slices.overlaps[arras/api.Look]", "slices.overlaps[arras/api.Reg]", "internal/bytealg.abigen_runtime_cmpstring"], unfollowed := true, recurses := true, apart := false, narrowed := true }
def ShapeTrashUptoSaid : Prop := shapeTrashUptoRow.holds Tryz.pinned (OpenSpec.upto shapeTrashSpec)

end Rows
end Go.Proofs.YtlfkabehppdohaaGreat
