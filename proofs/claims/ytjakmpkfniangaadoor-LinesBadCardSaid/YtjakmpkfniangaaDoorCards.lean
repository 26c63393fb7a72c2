/-
  DERIVED. GIVEN WITH THE SEED: THE CARDS: each row of YtjakmpkfniangaaDoorRows.lean that lists a variable, with what it lists TIED to the program's text (the seventh form; the later family's looks); each row that meets fmt, with fmt's text TOLD by the authors' own Lean function (tested against real Go, not proved from fmt's source: count such statements apart). THE CARD IS WHAT COUNTS. Prove the row's statement (the work); the ties are given (YtjakmpkfniangaaDoorTie.lean); close each card by the builder's one call (the guide's Derived/Test/ToyasCard.lean, 'card_holds'). Laid BY PROGRAM, IN A SANDBOX (cutbox-door.mjs). By AI agents, Wed Nov 11 2026. No macro, syntax, notation, axiom, sorry.
-/
import Derived.Test.YtjakmpkfniangaaDoorRows
import GoSem.ClaimSeven
namespace Go.Proofs.YtjakmpkfniangaaDoor
namespace Rows

/-- THE TIED CARD OF 'berthshiftkeep.LinesFixed'. -/
def linesFixedCard : Claim7 := { stood := { row := linesFixedRow, standIns := [], harness := (true, "8ae6be66be9900046435c4a3c000b98ab6a25fe3b28531184b982841375b89af"), looks := true }, kinds := [], alts := [], laidByText := true, laidKinds := [.data, .data, .data, .data, .sentinel, .sentinel, .pinned], laidTests := true, laidLooks := .later }
def LinesFixedCardSaid : Prop := Claim7.holds Tryd.pinned (.plain (OpenSpec.ofChange linesFixedSpec)) linesFixedCard

/-- THE TIED CARD OF 'berthshiftkeep.LinesBad'. -/
def linesBadCard : Claim7 := { stood := { row := linesBadRow, standIns := [], harness := (true, "8ae6be66be9900046435c4a3c000b98ab6a25fe3b28531184b982841375b89af"), looks := true }, kinds := [], alts := [], laidByText := true, laidKinds := [.data, .data, .data, .data, .sentinel, .sentinel, .pinned], laidTests := true, laidLooks := .later }
def LinesBadCardSaid : Prop := Claim7.holds Tryd.pinned (.plain (OpenSpec.ofChange linesBadSpec)) linesBadCard

/-- THE TIED CARD OF 'berthshiftkeep.LinesBack'. -/
def linesBackCard : Claim7 := { stood := { row := linesBackRow, standIns := [], harness := (true, "8ae6be66be9900046435c4a3c000b98ab6a25fe3b28531184b982841375b89af"), looks := true }, kinds := [], alts := [], laidByText := true, laidKinds := [.data, .data, .data, .data, .sentinel, .sentinel, .pinned], laidTests := true, laidLooks := .later }
def LinesBackCardSaid : Prop := Claim7.holds Tryd.pinned (.plain (OpenSpec.ofChange linesBackSpec)) linesBackCard

/-- THE SECOND FORM's CARD OF 'berthshiftkeep.LinesFixed'. -/
def linesFixedUptoCard : Claim7 := { stood := { row := linesFixedUptoRow, standIns := [], harness := (true, "8ae6be66be9900046435c4a3c000b98ab6a25fe3b28531184b982841375b89af"), looks := true }, kinds := [], alts := [], laidByText := true, laidKinds := [.data, .data, .data, .data, .sentinel, .sentinel, .pinned], laidTests := true, laidLooks := .later }
def LinesFixedUptoCardSaid : Prop := Claim7.holds Tryd.pinned (.plain (OpenSpec.upto linesFixedSpec)) linesFixedUptoCard

/-- THE SECOND FORM's CARD OF 'berthshiftkeep.LinesBad'. -/
def linesBadUptoCard : Claim7 := { stood := { row := linesBadUptoRow, standIns := [], harness := (true, "8ae6be66be9900046435c4a3c000b98ab6a25fe3b28531184b982841375b89af"), looks := true }, kinds := [], alts := [], laidByText := true, laidKinds := [.data, .data, .data, .data, .sentinel, .sentinel, .pinned], laidTests := true, laidLooks := .later }
def LinesBadUptoCardSaid : Prop := Claim7.holds Tryd.pinned (.plain (OpenSpec.upto linesBadSpec)) linesBadUptoCard

/-- THE SECOND FORM's CARD OF 'berthshiftkeep.LinesBack'. -/
def linesBackUptoCard : Claim7 := { stood := { row := linesBackUptoRow, standIns := [], harness := (true, "8ae6be66be9900046435c4a3c000b98ab6a25fe3b28531184b982841375b89af"), looks := true }, kinds := [], alts := [], laidByText := true, laidKinds := [.data, .data, .data, .data, .sentinel, .sentinel, .pinned], laidTests := true, laidLooks := .later }
def LinesBackUptoCardSaid : Prop := Claim7.holds Tryd.pinned (.plain (OpenSpec.upto linesBackSpec)) linesBackUptoCard
end Rows
end Go.Proofs.YtjakmpkfniangaaDoor
