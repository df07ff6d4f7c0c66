/-
  DERIVED. GIVEN WITH THE SEED: THE CARDS: each row of YtjglanjfgbipmaaGreatDoorRows.lean that lists a variable, with what it lists TIED to the program's text (the seventh form; the later family's looks); each row that meets fmt, with fmt's text TOLD by the authors' own Lean function (tested against real Go, not proved from fmt's source: count such statements apart). THE CARD IS WHAT COUNTS. Prove the row's statement (the work); the ties are given (YtjglanjfgbipmaaGreatDoorTie.lean); close each card by the builder's one call (the guide's Derived/Test/ToyasCard.lean, 'card_holds'). Laid BY PROGRAM, IN A SANDBOX (cutbox-door.mjs). By AI agents, Wed Nov 11 2026. No macro, syntax, notation, axiom, sorry.
-/
import Derived.Test.YtjglanjfgbipmaaGreatDoorRows
import GoSem.ClaimSeven
namespace Go.Proofs.YtjglanjfgbipmaaGreatDoor
namespace Rows

/-- THE TIED CARD OF 'unicodetextlaw22.ComposePairs'. -/
def composePairsCard : Claim7 := { stood := { row := composePairsRow, standIns := [], harness := (true, "8100b37b76ace5c6e04289385b987635758d5fa6ba6d7991452f39c1ec884242"), looks := false }, kinds := [], alts := [], laidByText := true, laidKinds := [.data], laidTests := true, laidLooks := .later }
def ComposePairsCardSaid : Prop := Claim7.holds Tryz.pinned (.plain (OpenSpec.ofChange composePairsSpec)) composePairsCard

/-- THE TIED CARD OF 'unicodetextlaw22.ComposeTexts'. -/
def composeTextsCard : Claim7 := { stood := { row := composeTextsRow, standIns := [], harness := (true, "8100b37b76ace5c6e04289385b987635758d5fa6ba6d7991452f39c1ec884242"), looks := false }, kinds := [], alts := [], laidByText := true, laidKinds := [.data], laidTests := true, laidLooks := .later }
def ComposeTextsCardSaid : Prop := Claim7.holds Tryz.pinned (.plain (OpenSpec.ofChange composeTextsSpec)) composeTextsCard

/-- THE TIED CARD OF 'unicodetextlaw22.ComposeUndone'. -/
def composeUndoneCard : Claim7 := { stood := { row := composeUndoneRow, standIns := [], harness := (true, "8100b37b76ace5c6e04289385b987635758d5fa6ba6d7991452f39c1ec884242"), looks := false }, kinds := [], alts := [], laidByText := true, laidKinds := [.data], laidTests := true, laidLooks := .later }
def ComposeUndoneCardSaid : Prop := Claim7.holds Tryz.pinned (.plain (OpenSpec.ofChange composeUndoneSpec)) composeUndoneCard

/-- THE TIED CARD OF 'unicodetextlaw22.ComposeSpreads'. -/
def composeSpreadsCard : Claim7 := { stood := { row := composeSpreadsRow, standIns := [], harness := (true, "8100b37b76ace5c6e04289385b987635758d5fa6ba6d7991452f39c1ec884242"), looks := false }, kinds := [], alts := [], laidByText := true, laidKinds := [.data], laidTests := true, laidLooks := .later }
def ComposeSpreadsCardSaid : Prop := Claim7.holds Tryz.pinned (.plain (OpenSpec.ofChange composeSpreadsSpec)) composeSpreadsCard

/-- THE TIED CARD OF 'unicodetextlaw22.ComposeMakes'. -/
def composeMakesCard : Claim7 := { stood := { row := composeMakesRow, standIns := [], harness := (true, "8100b37b76ace5c6e04289385b987635758d5fa6ba6d7991452f39c1ec884242"), looks := false }, kinds := [], alts := [], laidByText := true, laidKinds := [.data], laidTests := true, laidLooks := .later }
def ComposeMakesCardSaid : Prop := Claim7.holds Tryz.pinned (.plain (OpenSpec.ofChange composeMakesSpec)) composeMakesCard

/-- THE TIED CARD OF 'unicodetextlaw22.ComposeSecond'. -/
def composeSecondCard : Claim7 := { stood := { row := composeSecondRow, standIns := [], harness := (true, "8100b37b76ace5c6e04289385b987635758d5fa6ba6d7991452f39c1ec884242"), looks := false }, kinds := [], alts := [], laidByText := true, laidKinds := [.data], laidTests := true, laidLooks := .later }
def ComposeSecondCardSaid : Prop := Claim7.holds Tryz.pinned (.plain (OpenSpec.ofChange composeSecondSpec)) composeSecondCard

/-- THE SECOND FORM's CARD OF 'unicodetextlaw22.ComposePairs'. -/
def composePairsUptoCard : Claim7 := { stood := { row := composePairsUptoRow, standIns := [], harness := (true, "8100b37b76ace5c6e04289385b987635758d5fa6ba6d7991452f39c1ec884242"), looks := false }, kinds := [], alts := [], laidByText := true, laidKinds := [.data], laidTests := true, laidLooks := .later }
def ComposePairsUptoCardSaid : Prop := Claim7.holds Tryz.pinned (.plain (OpenSpec.upto composePairsSpec)) composePairsUptoCard

/-- THE SECOND FORM's CARD OF 'unicodetextlaw22.ComposeTexts'. -/
def composeTextsUptoCard : Claim7 := { stood := { row := composeTextsUptoRow, standIns := [], harness := (true, "8100b37b76ace5c6e04289385b987635758d5fa6ba6d7991452f39c1ec884242"), looks := false }, kinds := [], alts := [], laidByText := true, laidKinds := [.data], laidTests := true, laidLooks := .later }
def ComposeTextsUptoCardSaid : Prop := Claim7.holds Tryz.pinned (.plain (OpenSpec.upto composeTextsSpec)) composeTextsUptoCard

/-- THE SECOND FORM's CARD OF 'unicodetextlaw22.ComposeUndone'. -/
def composeUndoneUptoCard : Claim7 := { stood := { row := composeUndoneUptoRow, standIns := [], harness := (true, "8100b37b76ace5c6e04289385b987635758d5fa6ba6d7991452f39c1ec884242"), looks := false }, kinds := [], alts := [], laidByText := true, laidKinds := [.data], laidTests := true, laidLooks := .later }
def ComposeUndoneUptoCardSaid : Prop := Claim7.holds Tryz.pinned (.plain (OpenSpec.upto composeUndoneSpec)) composeUndoneUptoCard

/-- THE SECOND FORM's CARD OF 'unicodetextlaw22.ComposeSpreads'. -/
def composeSpreadsUptoCard : Claim7 := { stood := { row := composeSpreadsUptoRow, standIns := [], harness := (true, "8100b37b76ace5c6e04289385b987635758d5fa6ba6d7991452f39c1ec884242"), looks := false }, kinds := [], alts := [], laidByText := true, laidKinds := [.data], laidTests := true, laidLooks := .later }
def ComposeSpreadsUptoCardSaid : Prop := Claim7.holds Tryz.pinned (.plain (OpenSpec.upto composeSpreadsSpec)) composeSpreadsUptoCard

/-- THE SECOND FORM's CARD OF 'unicodetextlaw22.ComposeMakes'. -/
def composeMakesUptoCard : Claim7 := { stood := { row := composeMakesUptoRow, standIns := [], harness := (true, "8100b37b76ace5c6e04289385b987635758d5fa6ba6d7991452f39c1ec884242"), looks := false }, kinds := [], alts := [], laidByText := true, laidKinds := [.data], laidTests := true, laidLooks := .later }
def ComposeMakesUptoCardSaid : Prop := Claim7.holds Tryz.pinned (.plain (OpenSpec.upto composeMakesSpec)) composeMakesUptoCard

/-- THE SECOND FORM's CARD OF 'unicodetextlaw22.ComposeSecond'. -/
def composeSecondUptoCard : Claim7 := { stood := { row := composeSecondUptoRow, standIns := [], harness := (true, "8100b37b76ace5c6e04289385b987635758d5fa6ba6d7991452f39c1ec884242"), looks := false }, kinds := [], alts := [], laidByText := true, laidKinds := [.data], laidTests := true, laidLooks := .later }
def ComposeSecondUptoCardSaid : Prop := Claim7.holds Tryz.pinned (.plain (OpenSpec.upto composeSecondSpec)) composeSecondUptoCard
end Rows
end Go.Proofs.YtjglanjfgbipmaaGreatDoor
