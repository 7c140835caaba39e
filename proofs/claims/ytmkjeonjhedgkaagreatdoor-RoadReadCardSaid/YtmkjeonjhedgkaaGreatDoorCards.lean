/-
  DERIVED. GIVEN WITH THE SEED: THE CARDS: each row of YtmkjeonjhedgkaaGreatDoorRows.lean that lists a variable, with what it lists TIED to the program's text (the seventh form; the later family's looks); each row that meets fmt, with fmt's text TOLD by the authors' own Lean function (tested against real Go, not proved from fmt's source: count such statements apart). THE CARD IS WHAT COUNTS. Prove the row's statement (the work); the ties are given (YtmkjeonjhedgkaaGreatDoorTie.lean); close each card by the builder's one call (the guide's Derived/Test/ToyasCard.lean, 'card_holds'). Laid BY PROGRAM, IN A SANDBOX (cutbox-door.mjs). By AI agents, Wed Nov 11 2026. No macro, syntax, notation, axiom, sorry.
-/
import Derived.Test.YtmkjeonjhedgkaaGreatDoorRows
import GoSem.ClaimSeven
namespace Go.Proofs.YtmkjeonjhedgkaaGreatDoor
namespace Rows

/-- THE TIED CARD OF 'mestalaw02.RoadTexts'. -/
def roadTextsCard : Claim7 := { stood := { row := roadTextsRow, standIns := [], harness := (true, "60ace671586199ead8808afc888d505ca519f29d0e0799919f4accf45d2b9376"), looks := true }, kinds := [], alts := [], laidByText := true, laidKinds := [.data, .data, .data, .data, .pinned], laidTests := true, laidLooks := .later }
def RoadTextsCardSaid : Prop := Claim7.holds Tryz.pinned (.plain (OpenSpec.ofChange roadTextsSpec)) roadTextsCard

/-- THE TIED CARD OF 'mestalaw02.RoadRead'. -/
def roadReadCard : Claim7 := { stood := { row := roadReadRow, standIns := [], harness := (true, "60ace671586199ead8808afc888d505ca519f29d0e0799919f4accf45d2b9376"), looks := true }, kinds := [], alts := [], laidByText := true, laidKinds := [.data, .data, .data, .data, .pinned], laidTests := true, laidLooks := .later }
def RoadReadCardSaid : Prop := Claim7.holds Tryz.pinned (.plain (OpenSpec.ofChange roadReadSpec)) roadReadCard

/-- THE SECOND FORM's CARD OF 'mestalaw02.RoadTexts'. -/
def roadTextsUptoCard : Claim7 := { stood := { row := roadTextsUptoRow, standIns := [], harness := (true, "60ace671586199ead8808afc888d505ca519f29d0e0799919f4accf45d2b9376"), looks := true }, kinds := [], alts := [], laidByText := true, laidKinds := [.data, .data, .data, .data, .pinned], laidTests := true, laidLooks := .later }
def RoadTextsUptoCardSaid : Prop := Claim7.holds Tryz.pinned (.plain (OpenSpec.upto roadTextsSpec)) roadTextsUptoCard

/-- THE SECOND FORM's CARD OF 'mestalaw02.RoadRead'. -/
def roadReadUptoCard : Claim7 := { stood := { row := roadReadUptoRow, standIns := [], harness := (true, "60ace671586199ead8808afc888d505ca519f29d0e0799919f4accf45d2b9376"), looks := true }, kinds := [], alts := [], laidByText := true, laidKinds := [.data, .data, .data, .data, .pinned], laidTests := true, laidLooks := .later }
def RoadReadUptoCardSaid : Prop := Claim7.holds Tryz.pinned (.plain (OpenSpec.upto roadReadSpec)) roadReadUptoCard
end Rows
end Go.Proofs.YtmkjeonjhedgkaaGreatDoor
