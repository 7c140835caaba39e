/-
  DERIVED. GIVEN WITH THE SEED: THE CARDS: each row of YtmkjeonjhedgkaaDoorRows.lean that lists a variable, with what it lists TIED to the program's text (the seventh form; the later family's looks); each row that meets fmt, with fmt's text TOLD by the authors' own Lean function (tested against real Go, not proved from fmt's source: count such statements apart). THE CARD IS WHAT COUNTS. Prove the row's statement (the work); the ties are given (YtmkjeonjhedgkaaDoorTie.lean); close each card by the builder's one call (the guide's Derived/Test/ToyasCard.lean, 'card_holds'). Laid BY PROGRAM, IN A SANDBOX (cutbox-door.mjs). By AI agents, Wed Nov 11 2026. No macro, syntax, notation, axiom, sorry.
-/
import Derived.Test.YtmkjeonjhedgkaaDoorRows
import GoSem.ClaimSeven
namespace Go.Proofs.YtmkjeonjhedgkaaDoor
namespace Rows

/-- THE TIED CARD OF 'mestalaw02.RoadKnown'. -/
def roadKnownCard : Claim7 := { stood := { row := roadKnownRow, standIns := [], harness := (true, "0cc6767b1c1a1bf0169361f610dff29abd73090ed8c82533406ceb00698e0e16"), looks := false }, kinds := [], alts := [], laidByText := true, laidKinds := [.data, .data, .data], laidTests := true, laidLooks := .later }
def RoadKnownCardSaid : Prop := Claim7.holds Tryd.pinned (.plain (OpenSpec.ofChange roadKnownSpec)) roadKnownCard

/-- THE SECOND FORM's CARD OF 'mestalaw02.RoadKnown'. -/
def roadKnownUptoCard : Claim7 := { stood := { row := roadKnownUptoRow, standIns := [], harness := (true, "0cc6767b1c1a1bf0169361f610dff29abd73090ed8c82533406ceb00698e0e16"), looks := false }, kinds := [], alts := [], laidByText := true, laidKinds := [.data, .data, .data], laidTests := true, laidLooks := .later }
def RoadKnownUptoCardSaid : Prop := Claim7.holds Tryd.pinned (.plain (OpenSpec.upto roadKnownSpec)) roadKnownUptoCard
end Rows
end Go.Proofs.YtmkjeonjhedgkaaDoor
