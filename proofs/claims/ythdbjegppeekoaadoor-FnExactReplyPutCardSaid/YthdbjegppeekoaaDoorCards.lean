/-
  DERIVED. GIVEN WITH THE SEED: THE CARDS: each row of YthdbjegppeekoaaDoorRows.lean that lists a variable, with what it lists TIED to the program's text (the seventh form; the later family's looks); each row that meets fmt, with fmt's text TOLD by the authors' own Lean function (tested against real Go, not proved from fmt's source: count such statements apart). THE CARD IS WHAT COUNTS. Prove the row's statement (the work); the ties are given (YthdbjegppeekoaaDoorTie.lean); close each card by the builder's one call (the guide's Derived/Test/ToyasCard.lean, 'card_holds'). Laid BY PROGRAM, IN A SANDBOX (cutbox-door.mjs). By AI agents, Wed Nov 11 2026. No macro, syntax, notation, axiom, sorry.
-/
import Derived.Test.YthdbjegppeekoaaDoorRows
import GoSem.ClaimSeven
namespace Go.Proofs.YthdbjegppeekoaaDoor
namespace Rows

/-- THE TIED CARD OF 'laws.FnExactReplyPut'. -/
def fnExactReplyPutCard : Claim7 := { stood := { row := fnExactReplyPutRow, standIns := [], harness := (true, "a2f1f0a93b2d4230fa81548c78d78e1ab2b4b82c154a6886ba6d479ae3c4e9da"), looks := false }, kinds := [], alts := [], laidByText := true, laidKinds := [.data, .data, .data], laidTests := true, laidLooks := .later }
def FnExactReplyPutCardSaid : Prop := Claim7.holds Tryd.pinned (.plain (OpenSpec.ofChange fnExactReplyPutSpec)) fnExactReplyPutCard

/-- THE SECOND FORM's CARD OF 'laws.FnExactReplyPut'. -/
def fnExactReplyPutUptoCard : Claim7 := { stood := { row := fnExactReplyPutUptoRow, standIns := [], harness := (true, "a2f1f0a93b2d4230fa81548c78d78e1ab2b4b82c154a6886ba6d479ae3c4e9da"), looks := false }, kinds := [], alts := [], laidByText := true, laidKinds := [.data, .data, .data], laidTests := true, laidLooks := .later }
def FnExactReplyPutUptoCardSaid : Prop := Claim7.holds Tryd.pinned (.plain (OpenSpec.upto fnExactReplyPutSpec)) fnExactReplyPutUptoCard
end Rows
end Go.Proofs.YthdbjegppeekoaaDoor
