/-
  DERIVED. GIVEN WITH THE SEED: THE CARDS: each row of YtahoopmiipmgpaaDoorRows.lean that lists a variable, with what it lists TIED to the program's text (the seventh form; the later family's looks); each row that meets fmt, with fmt's text TOLD by the authors' own Lean function (tested against real Go, not proved from fmt's source: count such statements apart). THE CARD IS WHAT COUNTS. Prove the row's statement (the work); the ties are given (YtahoopmiipmgpaaDoorTie.lean); close each card by the builder's one call (the guide's Derived/Test/ToyasCard.lean, 'card_holds'). Laid BY PROGRAM, IN A SANDBOX (cutbox-door.mjs). By AI agents, Wed Nov 11 2026. No macro, syntax, notation, axiom, sorry.
-/
import Derived.Test.YtahoopmiipmgpaaDoorRows
import GoSem.ClaimSeven
namespace Go.Proofs.YtahoopmiipmgpaaDoor
namespace Rows

/-- THE TIED CARD OF 'laws.FnExactReadPage'. -/
def fnExactReadPageCard : Claim7 := { stood := { row := fnExactReadPageRow, standIns := [], harness := (true, "43522f4bd518ba2090856dd45eb2abe2d2f1d6bcf0a8e40e202c828cba83a813"), looks := true }, kinds := [], alts := [], laidByText := true, laidKinds := [.data, .pinned], laidTests := true, laidLooks := .later }
def FnExactReadPageCardSaid : Prop := Claim7.holds Tryd.pinned (.plain (OpenSpec.ofChange fnExactReadPageSpec)) fnExactReadPageCard

/-- THE TIED CARD OF 'laws.FnExactReadEvent'. -/
def fnExactReadEventCard : Claim7 := { stood := { row := fnExactReadEventRow, standIns := [], harness := (true, "43522f4bd518ba2090856dd45eb2abe2d2f1d6bcf0a8e40e202c828cba83a813"), looks := true }, kinds := [], alts := [], laidByText := true, laidKinds := [.data, .data, .data, .data, .sentinel, .sentinel, .pinned], laidTests := true, laidLooks := .later }
def FnExactReadEventCardSaid : Prop := Claim7.holds Tryd.pinned (.plain (OpenSpec.ofChange fnExactReadEventSpec)) fnExactReadEventCard

/-- THE SECOND FORM's CARD OF 'laws.FnExactReadPage'. -/
def fnExactReadPageUptoCard : Claim7 := { stood := { row := fnExactReadPageUptoRow, standIns := [], harness := (true, "43522f4bd518ba2090856dd45eb2abe2d2f1d6bcf0a8e40e202c828cba83a813"), looks := true }, kinds := [], alts := [], laidByText := true, laidKinds := [.data, .pinned], laidTests := true, laidLooks := .later }
def FnExactReadPageUptoCardSaid : Prop := Claim7.holds Tryd.pinned (.plain (OpenSpec.upto fnExactReadPageSpec)) fnExactReadPageUptoCard

/-- THE SECOND FORM's CARD OF 'laws.FnExactReadEvent'. -/
def fnExactReadEventUptoCard : Claim7 := { stood := { row := fnExactReadEventUptoRow, standIns := [], harness := (true, "43522f4bd518ba2090856dd45eb2abe2d2f1d6bcf0a8e40e202c828cba83a813"), looks := true }, kinds := [], alts := [], laidByText := true, laidKinds := [.data, .data, .data, .data, .sentinel, .sentinel, .pinned], laidTests := true, laidLooks := .later }
def FnExactReadEventUptoCardSaid : Prop := Claim7.holds Tryd.pinned (.plain (OpenSpec.upto fnExactReadEventSpec)) fnExactReadEventUptoCard
end Rows
end Go.Proofs.YtahoopmiipmgpaaDoor
