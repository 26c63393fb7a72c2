/-
  DERIVED. GIVEN WITH THE SEED: THE CARDS: each row of YtogeeaplepiijaaDoorRows.lean that lists a variable, with what it lists TIED to the program's text (the seventh form; the later family's looks); each row that meets fmt, with fmt's text TOLD by the authors' own Lean function (tested against real Go, not proved from fmt's source: count such statements apart). THE CARD IS WHAT COUNTS. Prove the row's statement (the work); the ties are given (YtogeeaplepiijaaDoorTie.lean); close each card by the builder's one call (the guide's Derived/Test/ToyasCard.lean, 'card_holds'). Laid BY PROGRAM, IN A SANDBOX (cutbox-door.mjs). By AI agents, Wed Nov 11 2026. No macro, syntax, notation, axiom, sorry.
-/
import Derived.Test.YtogeeaplepiijaaDoorRows
import GoSem.ClaimSeven
namespace Go.Proofs.YtogeeaplepiijaaDoor
namespace Rows

/-- THE TIED CARD OF 'berthshiftkeep.FlipOnce'. -/
def flipOnceCard : Claim7 := { stood := { row := flipOnceRow, standIns := [], harness := (true, "7444990e5f93bafd94b2f0950f3db65e05618dfcfbd8737c5c3544ede19ace44"), looks := false }, kinds := [], alts := [], laidByText := true, laidKinds := [.data], laidTests := true, laidLooks := .later }
def FlipOnceCardSaid : Prop := Claim7.holds Tryd.pinned (.plain (OpenSpec.ofChange flipOnceSpec)) flipOnceCard

/-- THE TIED CARD OF 'berthshiftkeep.FlipRises'. -/
def flipRisesCard : Claim7 := { stood := { row := flipRisesRow, standIns := [], harness := (true, "7444990e5f93bafd94b2f0950f3db65e05618dfcfbd8737c5c3544ede19ace44"), looks := false }, kinds := [], alts := [], laidByText := true, laidKinds := [.data], laidTests := true, laidLooks := .later }
def FlipRisesCardSaid : Prop := Claim7.holds Tryd.pinned (.plain (OpenSpec.ofChange flipRisesSpec)) flipRisesCard

/-- THE TIED CARD OF 'berthshiftkeep.DirectoryApart'. -/
def directoryApartCard : Claim7 := { stood := { row := directoryApartRow, standIns := [], harness := (true, "7444990e5f93bafd94b2f0950f3db65e05618dfcfbd8737c5c3544ede19ace44"), looks := false }, kinds := [], alts := [], laidByText := true, laidKinds := [.data], laidTests := true, laidLooks := .later }
def DirectoryApartCardSaid : Prop := Claim7.holds Tryd.pinned (.plain (OpenSpec.ofChange directoryApartSpec)) directoryApartCard

/-- THE SECOND FORM's CARD OF 'berthshiftkeep.FlipOnce'. -/
def flipOnceUptoCard : Claim7 := { stood := { row := flipOnceUptoRow, standIns := [], harness := (true, "7444990e5f93bafd94b2f0950f3db65e05618dfcfbd8737c5c3544ede19ace44"), looks := false }, kinds := [], alts := [], laidByText := true, laidKinds := [.data], laidTests := true, laidLooks := .later }
def FlipOnceUptoCardSaid : Prop := Claim7.holds Tryd.pinned (.plain (OpenSpec.upto flipOnceSpec)) flipOnceUptoCard

/-- THE SECOND FORM's CARD OF 'berthshiftkeep.FlipRises'. -/
def flipRisesUptoCard : Claim7 := { stood := { row := flipRisesUptoRow, standIns := [], harness := (true, "7444990e5f93bafd94b2f0950f3db65e05618dfcfbd8737c5c3544ede19ace44"), looks := false }, kinds := [], alts := [], laidByText := true, laidKinds := [.data], laidTests := true, laidLooks := .later }
def FlipRisesUptoCardSaid : Prop := Claim7.holds Tryd.pinned (.plain (OpenSpec.upto flipRisesSpec)) flipRisesUptoCard

/-- THE SECOND FORM's CARD OF 'berthshiftkeep.DirectoryApart'. -/
def directoryApartUptoCard : Claim7 := { stood := { row := directoryApartUptoRow, standIns := [], harness := (true, "7444990e5f93bafd94b2f0950f3db65e05618dfcfbd8737c5c3544ede19ace44"), looks := false }, kinds := [], alts := [], laidByText := true, laidKinds := [.data], laidTests := true, laidLooks := .later }
def DirectoryApartUptoCardSaid : Prop := Claim7.holds Tryd.pinned (.plain (OpenSpec.upto directoryApartSpec)) directoryApartUptoCard
end Rows
end Go.Proofs.YtogeeaplepiijaaDoor
