/-
  NARROWER THAN 'FOR EVERY INPUT', by the rows' own cells (each row's printed sentence says how): FlowGoes: laid · FlowReaches: laid · FlowSteps: laid · FlowRows: laid · FlowEnds: laid.
  DERIVED. THE GIVEN ROWS OF THIS SEAT. 5 by the template 'for every input the law returns true; each argument reads behind the call as it read before'; 0 by the template 'total and deterministic' (their statements: YtciilgcinicdiaaDoorTotals.lean).
  GIVEN WITH THE SEED: the statements are not yours to turn. If you find one false, say at which input.
  Laid BY PROGRAM, IN A SANDBOX (cutbox-rows.mjs): the forced cells as the released guide's own fill.sh prints them over the translation cfa445aa1193ae6d… (all of the seat's roots in one cut). By AI agents, Wed Nov 11 2026. No macro, syntax, notation, axiom, sorry.
-/
import Derived.Test.YtciilgcinicdiaaDoorChecked
import GoSem.Claim
import GoSem.ClaimJoined
import GoSem.ClaimMapViews
import Derived.JoinedTies
import Derived.KernelRfl
namespace Go.Proofs.YtciilgcinicdiaaDoor
/- THE CELL 'sum', in the pinned program and in every row, IS THE sha256 OF THE DUMP (.gsa) THAT YtciilgcinicdiaaDoorProg.lean LOADS. Nothing in Lean hashes anything: it is a label: what it is worth is what the hold of that sum in a sandbox is worth. -/
noncomputable def Tryd.pinned : Pinned := { name := "ytciilgcinicdiaadoor", sum := "cfa445aa1193ae6dbeb0ee6fe78146c6763a65bded02b8590c9c20d708eb3f22", checked := Tryd.checked }
namespace Rows
def none {H : Type} : Left H := { results := [], args := [] }

/- WHAT THE LISTED PACKAGE-LEVEL VARIABLES READ AS WHEN THE CALL BEGINS. Each datum BY PROGRAM (the guide's laid-datum.mjs) off the statement by which the dump's own 'gosem.cut.vars' lays the variable. In a bare row this is a premise. The card (YtciilgcinicdiaaDoorCards.lean) ties it to the program's text. -/
def laid_secateur_op_shapes {H : Type} : DataW H := .agg [.lit (.string []), .lit (.string []), .lit (.string [97, 107]), .lit (.string [97]), .lit (.string [97, 98]), .lit (.string [97, 98, 99, 114]), .lit (.string [116]), .lit (.string [98, 116]), .lit (.string [98, 116]), .lit (.string [97, 67]), .lit (.string [97, 98]), .lit (.string [97, 98, 67]), .lit (.string [97, 98]), .lit (.string [97, 98, 99]), .lit (.string [97, 98, 99]), .lit (.string [97, 98, 70]), .lit (.string [98, 99, 70]), .lit (.string [97, 70]), .lit (.string [99, 70]), .lit (.string [97, 77, 118]), .lit (.string [97, 77, 118]), .lit (.string [97, 77, 118]), .lit (.string [98]), .lit (.string []), .lit (.string [97, 98, 67]), .lit (.string [97, 98, 67]), .lit (.string [97]), .lit (.string [98]), .lit (.string [97, 98]), .lit (.string [97, 98]), .lit (.string [107]), .lit (.string [98]), .lit (.string [67])]

/-- 'secateurlaw14.FlowGoes': WHATEVER THE INPUT: true; the input reads as it did. -/
def flowGoesSpec : ChangeSpec := { name := "flowGoes", fn := fun _ => fun
  | [d1, d2] => { results := [.lit (.bool true)], args := [d1, d2] }
  | _ => none }
def flowGoesRow : OpenClaim := { program := "ytciilgcinicdiaadoor", sum := "cfa445aa1193ae6dbeb0ee6fe78146c6763a65bded02b8590c9c20d708eb3f22", func := "secateur/secateurlaw14.FlowGoes", spec := "flowGoes", inPlace := ["internal/bytealg.IndexByteString", "internal/bytealg.IndexString"], unfollowed := true, recurses := true, named := ["secateur/op.shapes", "internal/bytealg.MaxLen"], apart := false, laid := [("secateur/op.shapes", laid_secateur_op_shapes)] }
def FlowGoesSaid : Prop := flowGoesRow.holds Tryd.pinned (OpenSpec.ofChange flowGoesSpec)

/-- ITS FALSE NEIGHBOUR: 'it returns false'. Refute it at one input. -/
def flowGoesWrong : ChangeSpec := { name := "flowGoes", fn := fun _ => fun
  | [d1, d2] => { results := [.lit (.bool false)], args := [d1, d2] }
  | _ => none }
def FlowGoesWrongFalsely : Prop := flowGoesRow.holds Tryd.pinned (OpenSpec.ofChange flowGoesWrong)

/-- 'secateurlaw14.FlowReaches': WHATEVER THE INPUT: true; the input reads as it did. -/
def flowReachesSpec : ChangeSpec := { name := "flowReaches", fn := fun _ => fun
  | [d] => { results := [.lit (.bool true)], args := [d] }
  | _ => none }
def flowReachesRow : OpenClaim := { program := "ytciilgcinicdiaadoor", sum := "cfa445aa1193ae6dbeb0ee6fe78146c6763a65bded02b8590c9c20d708eb3f22", func := "secateur/secateurlaw14.FlowReaches", spec := "flowReaches", inPlace := ["internal/bytealg.IndexByteString", "internal/bytealg.IndexString"], unfollowed := true, recurses := true, named := ["secateur/op.shapes", "internal/bytealg.MaxLen"], apart := false, laid := [("secateur/op.shapes", laid_secateur_op_shapes)] }
def FlowReachesSaid : Prop := flowReachesRow.holds Tryd.pinned (OpenSpec.ofChange flowReachesSpec)

/-- ITS FALSE NEIGHBOUR: 'it returns false'. Refute it at one input. -/
def flowReachesWrong : ChangeSpec := { name := "flowReaches", fn := fun _ => fun
  | [d] => { results := [.lit (.bool false)], args := [d] }
  | _ => none }
def FlowReachesWrongFalsely : Prop := flowReachesRow.holds Tryd.pinned (OpenSpec.ofChange flowReachesWrong)

/-- 'secateurlaw14.FlowSteps': WHATEVER THE INPUT: true; the input reads as it did. -/
def flowStepsSpec : ChangeSpec := { name := "flowSteps", fn := fun _ => fun
  | [d] => { results := [.lit (.bool true)], args := [d] }
  | _ => none }
def flowStepsRow : OpenClaim := { program := "ytciilgcinicdiaadoor", sum := "cfa445aa1193ae6dbeb0ee6fe78146c6763a65bded02b8590c9c20d708eb3f22", func := "secateur/secateurlaw14.FlowSteps", spec := "flowSteps", inPlace := ["internal/bytealg.IndexByteString", "internal/bytealg.IndexString"], unfollowed := true, recurses := true, named := ["secateur/op.shapes", "internal/bytealg.MaxLen"], apart := false, laid := [("secateur/op.shapes", laid_secateur_op_shapes)] }
def FlowStepsSaid : Prop := flowStepsRow.holds Tryd.pinned (OpenSpec.ofChange flowStepsSpec)

/-- ITS FALSE NEIGHBOUR: 'it returns false'. Refute it at one input. -/
def flowStepsWrong : ChangeSpec := { name := "flowSteps", fn := fun _ => fun
  | [d] => { results := [.lit (.bool false)], args := [d] }
  | _ => none }
def FlowStepsWrongFalsely : Prop := flowStepsRow.holds Tryd.pinned (OpenSpec.ofChange flowStepsWrong)

/-- 'secateurlaw14.FlowRows': WHATEVER THE INPUT: true; the input reads as it did. -/
def flowRowsSpec : ChangeSpec := { name := "flowRows", fn := fun _ => fun
  | [d] => { results := [.lit (.bool true)], args := [d] }
  | _ => none }
def flowRowsRow : OpenClaim := { program := "ytciilgcinicdiaadoor", sum := "cfa445aa1193ae6dbeb0ee6fe78146c6763a65bded02b8590c9c20d708eb3f22", func := "secateur/secateurlaw14.FlowRows", spec := "flowRows", inPlace := ["internal/bytealg.IndexByteString", "internal/bytealg.IndexString"], unfollowed := true, recurses := true, named := ["secateur/op.shapes", "internal/bytealg.MaxLen"], apart := false, laid := [("secateur/op.shapes", laid_secateur_op_shapes)] }
def FlowRowsSaid : Prop := flowRowsRow.holds Tryd.pinned (OpenSpec.ofChange flowRowsSpec)

/-- ITS FALSE NEIGHBOUR: 'it returns false'. Refute it at one input. -/
def flowRowsWrong : ChangeSpec := { name := "flowRows", fn := fun _ => fun
  | [d] => { results := [.lit (.bool false)], args := [d] }
  | _ => none }
def FlowRowsWrongFalsely : Prop := flowRowsRow.holds Tryd.pinned (OpenSpec.ofChange flowRowsWrong)

/-- 'secateurlaw14.FlowEnds': WHATEVER THE INPUT: true; the input reads as it did. -/
def flowEndsSpec : ChangeSpec := { name := "flowEnds", fn := fun _ => fun
  | [d] => { results := [.lit (.bool true)], args := [d] }
  | _ => none }
def flowEndsRow : OpenClaim := { program := "ytciilgcinicdiaadoor", sum := "cfa445aa1193ae6dbeb0ee6fe78146c6763a65bded02b8590c9c20d708eb3f22", func := "secateur/secateurlaw14.FlowEnds", spec := "flowEnds", inPlace := ["internal/bytealg.IndexByteString", "internal/bytealg.IndexString"], unfollowed := true, recurses := true, named := ["secateur/op.shapes", "internal/bytealg.MaxLen"], apart := false, laid := [("secateur/op.shapes", laid_secateur_op_shapes)] }
def FlowEndsSaid : Prop := flowEndsRow.holds Tryd.pinned (OpenSpec.ofChange flowEndsSpec)

/-- ITS FALSE NEIGHBOUR: 'it returns false'. Refute it at one input. -/
def flowEndsWrong : ChangeSpec := { name := "flowEnds", fn := fun _ => fun
  | [d] => { results := [.lit (.bool false)], args := [d] }
  | _ => none }
def FlowEndsWrongFalsely : Prop := flowEndsRow.holds Tryd.pinned (OpenSpec.ofChange flowEndsWrong)

/- THE SECOND FORM. 'bulk': how many values and letters a reading holds, each counted each time it is reached (what is shared counts as often as it is met; a slice's spare places count too). A statement '..UptoSaid' is the law's where the arguments, and the package variables that the reading takes, are together of bulk at most 1048576: NARROWER than '..Said'. Prove '..Said' where nothing that the law and all that it calls make is longer than what came in: it says more and counts as full. Else prove '..UptoSaid'. A law counts once. -/
mutual
def uptoBulk {H : Type} : DataW H → Nat
  | .lit (.string bytes) => bytes.length + 1
  | .lit _ => 1
  | .nil => 1
  | .ptr d => uptoBulk d + 1
  | .slice elems spare => uptoBulkAll elems + uptoBulkAll spare + 1
  | .agg parts => uptoBulkAll parts + 1
  | .iface _ d => uptoBulk d + 1
  | .map entries => uptoBulkEntries entries + 1
  | .held _ => 1
def uptoBulkAll {H : Type} : List (DataW H) → Nat
  | [] => 0
  | d :: r => uptoBulk d + uptoBulkAll r
def uptoBulkEntries {H : Type} : List (Lit × DataW H) → Nat
  | [] => 0
  | x :: r => uptoBulkEntry x + uptoBulkEntries r
def uptoBulkEntry {H : Type} : Lit × DataW H → Nat
  | (.string bytes, d) => bytes.length + uptoBulk d + 1
  | (_, d) => uptoBulk d + 1
 end
def uptoSmall : (H : Type) → List (DataW H) → Bool := fun _ ds => decide (uptoBulkAll ds ≤ 1048576)
def OpenSpec.upto (s : _root_.Go.ChangeSpec) : _root_.Go.OpenSpec := { _root_.Go.OpenSpec.ofChange s with cond := some uptoSmall }

/-- 'secateurlaw14.FlowGoes', WHERE WHAT IT READS IS OF BULK AT MOST 1048576: true; the input reads as it did. -/
def flowGoesUptoRow : OpenClaim := { program := "ytciilgcinicdiaadoor", sum := "cfa445aa1193ae6dbeb0ee6fe78146c6763a65bded02b8590c9c20d708eb3f22", func := "secateur/secateurlaw14.FlowGoes", spec := "flowGoes", inPlace := ["internal/bytealg.IndexByteString", "internal/bytealg.IndexString"], unfollowed := true, recurses := true, named := ["secateur/op.shapes", "internal/bytealg.MaxLen"], apart := false, laid := [("secateur/op.shapes", laid_secateur_op_shapes)], narrowed := true }
def FlowGoesUptoSaid : Prop := flowGoesUptoRow.holds Tryd.pinned (OpenSpec.upto flowGoesSpec)

/-- 'secateurlaw14.FlowReaches', WHERE WHAT IT READS IS OF BULK AT MOST 1048576: true; the input reads as it did. -/
def flowReachesUptoRow : OpenClaim := { program := "ytciilgcinicdiaadoor", sum := "cfa445aa1193ae6dbeb0ee6fe78146c6763a65bded02b8590c9c20d708eb3f22", func := "secateur/secateurlaw14.FlowReaches", spec := "flowReaches", inPlace := ["internal/bytealg.IndexByteString", "internal/bytealg.IndexString"], unfollowed := true, recurses := true, named := ["secateur/op.shapes", "internal/bytealg.MaxLen"], apart := false, laid := [("secateur/op.shapes", laid_secateur_op_shapes)], narrowed := true }
def FlowReachesUptoSaid : Prop := flowReachesUptoRow.holds Tryd.pinned (OpenSpec.upto flowReachesSpec)

/-- 'secateurlaw14.FlowSteps', WHERE WHAT IT READS IS OF BULK AT MOST 1048576: true; the input reads as it did. -/
def flowStepsUptoRow : OpenClaim := { program := "ytciilgcinicdiaadoor", sum := "cfa445aa1193ae6dbeb0ee6fe78146c6763a65bded02b8590c9c20d708eb3f22", func := "secateur/secateurlaw14.FlowSteps", spec := "flowSteps", inPlace := ["internal/bytealg.IndexByteString", "internal/bytealg.IndexString"], unfollowed := true, recurses := true, named := ["secateur/op.shapes", "internal/bytealg.MaxLen"], apart := false, laid := [("secateur/op.shapes", laid_secateur_op_shapes)], narrowed := true }
def FlowStepsUptoSaid : Prop := flowStepsUptoRow.holds Tryd.pinned (OpenSpec.upto flowStepsSpec)

/-- 'secateurlaw14.FlowRows', WHERE WHAT IT READS IS OF BULK AT MOST 1048576: true; the input reads as it did. -/
def flowRowsUptoRow : OpenClaim := { program := "ytciilgcinicdiaadoor", sum := "cfa445aa1193ae6dbeb0ee6fe78146c6763a65bded02b8590c9c20d708eb3f22", func := "secateur/secateurlaw14.FlowRows", spec := "flowRows", inPlace := ["internal/bytealg.IndexByteString", "internal/bytealg.IndexString"], unfollowed := true, recurses := true, named := ["secateur/op.shapes", "internal/bytealg.MaxLen"], apart := false, laid := [("secateur/op.shapes", laid_secateur_op_shapes)], narrowed := true }
def FlowRowsUptoSaid : Prop := flowRowsUptoRow.holds Tryd.pinned (OpenSpec.upto flowRowsSpec)

/-- 'secateurlaw14.FlowEnds', WHERE WHAT IT READS IS OF BULK AT MOST 1048576: true; the input reads as it did. -/
def flowEndsUptoRow : OpenClaim := { program := "ytciilgcinicdiaadoor", sum := "cfa445aa1193ae6dbeb0ee6fe78146c6763a65bded02b8590c9c20d708eb3f22", func := "secateur/secateurlaw14.FlowEnds", spec := "flowEnds", inPlace := ["internal/bytealg.IndexByteString", "internal/bytealg.IndexString"], unfollowed := true, recurses := true, named := ["secateur/op.shapes", "internal/bytealg.MaxLen"], apart := false, laid := [("secateur/op.shapes", laid_secateur_op_shapes)], narrowed := true }
def FlowEndsUptoSaid : Prop := flowEndsUptoRow.holds Tryd.pinned (OpenSpec.upto flowEndsSpec)

end Rows
end Go.Proofs.YtciilgcinicdiaaDoor
