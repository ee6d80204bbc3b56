/-
  DERIVED. GIVEN WITH THE SEED: THE CARDS: each row of YtegelpeegbngiaaDoorRows.lean that lists a variable, with what it lists TIED to the program's text (the seventh form; the later family's looks); each row that meets fmt, with fmt's text TOLD by the authors' own Lean function (tested against real Go, not proved from fmt's source: count such statements apart). THE CARD IS WHAT COUNTS. Prove the row's statement (the work); the ties are given (YtegelpeegbngiaaDoorTie.lean); close each card by the builder's one call (the guide's Derived/Test/ToyasCard.lean, 'card_holds'). Laid BY PROGRAM, IN A SANDBOX (cutbox-door.mjs). By AI agents, Wed Nov 11 2026. No macro, syntax, notation, axiom, sorry.
-/
import Derived.Test.YtegelpeegbngiaaDoorRows
import GoSem.ClaimSeven
namespace Go.Proofs.YtegelpeegbngiaaDoor
namespace Rows

/-- THE TIED CARD OF 'laws.FnExactOrderPut'. -/
def fnExactOrderPutCard : Claim7 := { stood := { row := fnExactOrderPutRow, standIns := [], harness := (true, "147a11f1b4adf3a959bee325ee3b85cd7ebaa9bb6cebde50cc795fb795ff0904"), looks := true }, kinds := [], alts := [], laidByText := true, laidKinds := [.data, .data, .data], laidTests := true, laidLooks := .later }
def FnExactOrderPutCardSaid : Prop := Claim7.holds Tryd.pinned (.plain (OpenSpec.ofChange fnExactOrderPutSpec)) fnExactOrderPutCard

/-- THE TIED CARD OF 'laws.FnReplyPut'. -/
def fnReplyPutCard : Claim7 := { stood := { row := fnReplyPutRow, standIns := [], harness := (true, "147a11f1b4adf3a959bee325ee3b85cd7ebaa9bb6cebde50cc795fb795ff0904"), looks := true }, kinds := [], alts := [], laidByText := true, laidKinds := [.data, .data, .data], laidTests := true, laidLooks := .later }
def FnReplyPutCardSaid : Prop := Claim7.holds Tryd.pinned (.plain (OpenSpec.ofChange fnReplyPutSpec)) fnReplyPutCard

/-- THE TIED CARD OF 'laws.FnExactReplyPut'. -/
def fnExactReplyPutCard : Claim7 := { stood := { row := fnExactReplyPutRow, standIns := [], harness := (true, "147a11f1b4adf3a959bee325ee3b85cd7ebaa9bb6cebde50cc795fb795ff0904"), looks := true }, kinds := [], alts := [], laidByText := true, laidKinds := [.data, .data, .data], laidTests := true, laidLooks := .later }
def FnExactReplyPutCardSaid : Prop := Claim7.holds Tryd.pinned (.plain (OpenSpec.ofChange fnExactReplyPutSpec)) fnExactReplyPutCard

/-- THE TIED CARD OF 'laws.FnExactIntGet'. -/
def fnExactIntGetCard : Claim7 := { stood := { row := fnExactIntGetRow, standIns := [], harness := (true, "147a11f1b4adf3a959bee325ee3b85cd7ebaa9bb6cebde50cc795fb795ff0904"), looks := true }, kinds := [], alts := [], laidByText := true, laidKinds := [.data, .data, .data, .sentinel, .sentinel], laidTests := true, laidLooks := .later }
def FnExactIntGetCardSaid : Prop := Claim7.holds Tryd.pinned (.plain (OpenSpec.ofChange fnExactIntGetSpec)) fnExactIntGetCard

/-- THE TIED CARD OF 'laws.FnIntGet'. -/
def fnIntGetCard : Claim7 := { stood := { row := fnIntGetRow, standIns := [], harness := (true, "147a11f1b4adf3a959bee325ee3b85cd7ebaa9bb6cebde50cc795fb795ff0904"), looks := true }, kinds := [], alts := [], laidByText := true, laidKinds := [.data, .data, .data, .sentinel, .sentinel], laidTests := true, laidLooks := .later }
def FnIntGetCardSaid : Prop := Claim7.holds Tryd.pinned (.plain (OpenSpec.ofChange fnIntGetSpec)) fnIntGetCard

/-- THE SECOND FORM's CARD OF 'laws.FnExactOrderPut'. -/
def fnExactOrderPutUptoCard : Claim7 := { stood := { row := fnExactOrderPutUptoRow, standIns := [], harness := (true, "147a11f1b4adf3a959bee325ee3b85cd7ebaa9bb6cebde50cc795fb795ff0904"), looks := true }, kinds := [], alts := [], laidByText := true, laidKinds := [.data, .data, .data], laidTests := true, laidLooks := .later }
def FnExactOrderPutUptoCardSaid : Prop := Claim7.holds Tryd.pinned (.plain (OpenSpec.upto fnExactOrderPutSpec)) fnExactOrderPutUptoCard

/-- THE SECOND FORM's CARD OF 'laws.FnReplyPut'. -/
def fnReplyPutUptoCard : Claim7 := { stood := { row := fnReplyPutUptoRow, standIns := [], harness := (true, "147a11f1b4adf3a959bee325ee3b85cd7ebaa9bb6cebde50cc795fb795ff0904"), looks := true }, kinds := [], alts := [], laidByText := true, laidKinds := [.data, .data, .data], laidTests := true, laidLooks := .later }
def FnReplyPutUptoCardSaid : Prop := Claim7.holds Tryd.pinned (.plain (OpenSpec.upto fnReplyPutSpec)) fnReplyPutUptoCard

/-- THE SECOND FORM's CARD OF 'laws.FnExactReplyPut'. -/
def fnExactReplyPutUptoCard : Claim7 := { stood := { row := fnExactReplyPutUptoRow, standIns := [], harness := (true, "147a11f1b4adf3a959bee325ee3b85cd7ebaa9bb6cebde50cc795fb795ff0904"), looks := true }, kinds := [], alts := [], laidByText := true, laidKinds := [.data, .data, .data], laidTests := true, laidLooks := .later }
def FnExactReplyPutUptoCardSaid : Prop := Claim7.holds Tryd.pinned (.plain (OpenSpec.upto fnExactReplyPutSpec)) fnExactReplyPutUptoCard

/-- THE SECOND FORM's CARD OF 'laws.FnExactIntGet'. -/
def fnExactIntGetUptoCard : Claim7 := { stood := { row := fnExactIntGetUptoRow, standIns := [], harness := (true, "147a11f1b4adf3a959bee325ee3b85cd7ebaa9bb6cebde50cc795fb795ff0904"), looks := true }, kinds := [], alts := [], laidByText := true, laidKinds := [.data, .data, .data, .sentinel, .sentinel], laidTests := true, laidLooks := .later }
def FnExactIntGetUptoCardSaid : Prop := Claim7.holds Tryd.pinned (.plain (OpenSpec.upto fnExactIntGetSpec)) fnExactIntGetUptoCard

/-- THE SECOND FORM's CARD OF 'laws.FnIntGet'. -/
def fnIntGetUptoCard : Claim7 := { stood := { row := fnIntGetUptoRow, standIns := [], harness := (true, "147a11f1b4adf3a959bee325ee3b85cd7ebaa9bb6cebde50cc795fb795ff0904"), looks := true }, kinds := [], alts := [], laidByText := true, laidKinds := [.data, .data, .data, .sentinel, .sentinel], laidTests := true, laidLooks := .later }
def FnIntGetUptoCardSaid : Prop := Claim7.holds Tryd.pinned (.plain (OpenSpec.upto fnIntGetSpec)) fnIntGetUptoCard
end Rows
end Go.Proofs.YtegelpeegbngiaaDoor
