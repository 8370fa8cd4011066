/-
  DERIVED. GIVEN WITH THE SEED: THE CARDS: each row of YtafgknkcjohjeaaGreatDoorRows.lean that lists a variable, with what it lists TIED to the program's text (the seventh form; the later family's looks); each row that meets fmt, with fmt's text TOLD by the authors' own Lean function (tested against real Go, not proved from fmt's source: count such statements apart). THE CARD IS WHAT COUNTS. Prove the row's statement (the work); the ties are given (YtafgknkcjohjeaaGreatDoorTie.lean); close each card by the builder's one call (the guide's Derived/Test/ToyasCard.lean, 'card_holds'). Laid BY PROGRAM, IN A SANDBOX (cutbox-door.mjs). By AI agents, Wed Nov 11 2026. No macro, syntax, notation, axiom, sorry.
-/
import Derived.Test.YtafgknkcjohjeaaGreatDoorRows
import GoSem.ClaimSeven
namespace Go.Proofs.YtafgknkcjohjeaaGreatDoor
namespace Rows

/-- THE TIED CARD OF 'laws.FnEventTexts'. -/
def fnEventTextsCard : Claim7 := { stood := { row := fnEventTextsRow, standIns := [], harness := (true, "0e0f2692b7d882b6c09a43b5f86dcf4e7bc7450b0d060bd749e440c84424cc24"), looks := true }, kinds := [], alts := [], laidByText := true, laidKinds := [.data, .data, .data, .data, .sentinel, .sentinel, .pinned], laidTests := true, laidLooks := .later }
def FnEventTextsCardSaid : Prop := Claim7.holds Tryz.pinned (.plain (OpenSpec.ofChange fnEventTextsSpec)) fnEventTextsCard

/-- THE SECOND FORM's CARD OF 'laws.FnEventTexts'. -/
def fnEventTextsUptoCard : Claim7 := { stood := { row := fnEventTextsUptoRow, standIns := [], harness := (true, "0e0f2692b7d882b6c09a43b5f86dcf4e7bc7450b0d060bd749e440c84424cc24"), looks := true }, kinds := [], alts := [], laidByText := true, laidKinds := [.data, .data, .data, .data, .sentinel, .sentinel, .pinned], laidTests := true, laidLooks := .later }
def FnEventTextsUptoCardSaid : Prop := Claim7.holds Tryz.pinned (.plain (OpenSpec.upto fnEventTextsSpec)) fnEventTextsUptoCard
end Rows
end Go.Proofs.YtafgknkcjohjeaaGreatDoor
