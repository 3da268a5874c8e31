/-
  DERIVED. GIVEN WITH THE SEED: THE CARDS: each row of YtciilgcinicdiaaDoorRows.lean that lists a variable, with what it lists TIED to the program's text (the seventh form; the later family's looks); each row that meets fmt, with fmt's text TOLD by the authors' own Lean function (tested against real Go, not proved from fmt's source: count such statements apart). THE CARD IS WHAT COUNTS. Prove the row's statement (the work); the ties are given (YtciilgcinicdiaaDoorTie.lean); close each card by the builder's one call (the guide's Derived/Test/ToyasCard.lean, 'card_holds'). Laid BY PROGRAM, IN A SANDBOX (cutbox-door.mjs). By AI agents, Wed Nov 11 2026. No macro, syntax, notation, axiom, sorry.
-/
import Derived.Test.YtciilgcinicdiaaDoorRows
import GoSem.ClaimSeven
namespace Go.Proofs.YtciilgcinicdiaaDoor
namespace Rows

/-- THE TIED CARD OF 'secateurlaw14.FlowGoes'. -/
def flowGoesCard : Claim7 := { stood := { row := flowGoesRow, standIns := [], harness := (true, "6009a403cf702028a9a3d5ff06eca466abf7ef27b87bc51596d08a3a13a69868"), looks := false }, kinds := [], alts := [], laidByText := true, laidKinds := [.data], laidTests := true, laidLooks := .later }
def FlowGoesCardSaid : Prop := Claim7.holds Tryd.pinned (.plain (OpenSpec.ofChange flowGoesSpec)) flowGoesCard

/-- THE TIED CARD OF 'secateurlaw14.FlowReaches'. -/
def flowReachesCard : Claim7 := { stood := { row := flowReachesRow, standIns := [], harness := (true, "6009a403cf702028a9a3d5ff06eca466abf7ef27b87bc51596d08a3a13a69868"), looks := false }, kinds := [], alts := [], laidByText := true, laidKinds := [.data], laidTests := true, laidLooks := .later }
def FlowReachesCardSaid : Prop := Claim7.holds Tryd.pinned (.plain (OpenSpec.ofChange flowReachesSpec)) flowReachesCard

/-- THE TIED CARD OF 'secateurlaw14.FlowSteps'. -/
def flowStepsCard : Claim7 := { stood := { row := flowStepsRow, standIns := [], harness := (true, "6009a403cf702028a9a3d5ff06eca466abf7ef27b87bc51596d08a3a13a69868"), looks := false }, kinds := [], alts := [], laidByText := true, laidKinds := [.data], laidTests := true, laidLooks := .later }
def FlowStepsCardSaid : Prop := Claim7.holds Tryd.pinned (.plain (OpenSpec.ofChange flowStepsSpec)) flowStepsCard

/-- THE TIED CARD OF 'secateurlaw14.FlowRows'. -/
def flowRowsCard : Claim7 := { stood := { row := flowRowsRow, standIns := [], harness := (true, "6009a403cf702028a9a3d5ff06eca466abf7ef27b87bc51596d08a3a13a69868"), looks := false }, kinds := [], alts := [], laidByText := true, laidKinds := [.data], laidTests := true, laidLooks := .later }
def FlowRowsCardSaid : Prop := Claim7.holds Tryd.pinned (.plain (OpenSpec.ofChange flowRowsSpec)) flowRowsCard

/-- THE TIED CARD OF 'secateurlaw14.FlowEnds'. -/
def flowEndsCard : Claim7 := { stood := { row := flowEndsRow, standIns := [], harness := (true, "6009a403cf702028a9a3d5ff06eca466abf7ef27b87bc51596d08a3a13a69868"), looks := false }, kinds := [], alts := [], laidByText := true, laidKinds := [.data], laidTests := true, laidLooks := .later }
def FlowEndsCardSaid : Prop := Claim7.holds Tryd.pinned (.plain (OpenSpec.ofChange flowEndsSpec)) flowEndsCard

/-- THE SECOND FORM's CARD OF 'secateurlaw14.FlowGoes'. -/
def flowGoesUptoCard : Claim7 := { stood := { row := flowGoesUptoRow, standIns := [], harness := (true, "6009a403cf702028a9a3d5ff06eca466abf7ef27b87bc51596d08a3a13a69868"), looks := false }, kinds := [], alts := [], laidByText := true, laidKinds := [.data], laidTests := true, laidLooks := .later }
def FlowGoesUptoCardSaid : Prop := Claim7.holds Tryd.pinned (.plain (OpenSpec.upto flowGoesSpec)) flowGoesUptoCard

/-- THE SECOND FORM's CARD OF 'secateurlaw14.FlowReaches'. -/
def flowReachesUptoCard : Claim7 := { stood := { row := flowReachesUptoRow, standIns := [], harness := (true, "6009a403cf702028a9a3d5ff06eca466abf7ef27b87bc51596d08a3a13a69868"), looks := false }, kinds := [], alts := [], laidByText := true, laidKinds := [.data], laidTests := true, laidLooks := .later }
def FlowReachesUptoCardSaid : Prop := Claim7.holds Tryd.pinned (.plain (OpenSpec.upto flowReachesSpec)) flowReachesUptoCard

/-- THE SECOND FORM's CARD OF 'secateurlaw14.FlowSteps'. -/
def flowStepsUptoCard : Claim7 := { stood := { row := flowStepsUptoRow, standIns := [], harness := (true, "6009a403cf702028a9a3d5ff06eca466abf7ef27b87bc51596d08a3a13a69868"), looks := false }, kinds := [], alts := [], laidByText := true, laidKinds := [.data], laidTests := true, laidLooks := .later }
def FlowStepsUptoCardSaid : Prop := Claim7.holds Tryd.pinned (.plain (OpenSpec.upto flowStepsSpec)) flowStepsUptoCard

/-- THE SECOND FORM's CARD OF 'secateurlaw14.FlowRows'. -/
def flowRowsUptoCard : Claim7 := { stood := { row := flowRowsUptoRow, standIns := [], harness := (true, "6009a403cf702028a9a3d5ff06eca466abf7ef27b87bc51596d08a3a13a69868"), looks := false }, kinds := [], alts := [], laidByText := true, laidKinds := [.data], laidTests := true, laidLooks := .later }
def FlowRowsUptoCardSaid : Prop := Claim7.holds Tryd.pinned (.plain (OpenSpec.upto flowRowsSpec)) flowRowsUptoCard

/-- THE SECOND FORM's CARD OF 'secateurlaw14.FlowEnds'. -/
def flowEndsUptoCard : Claim7 := { stood := { row := flowEndsUptoRow, standIns := [], harness := (true, "6009a403cf702028a9a3d5ff06eca466abf7ef27b87bc51596d08a3a13a69868"), looks := false }, kinds := [], alts := [], laidByText := true, laidKinds := [.data], laidTests := true, laidLooks := .later }
def FlowEndsUptoCardSaid : Prop := Claim7.holds Tryd.pinned (.plain (OpenSpec.upto flowEndsSpec)) flowEndsUptoCard
end Rows
end Go.Proofs.YtciilgcinicdiaaDoor
