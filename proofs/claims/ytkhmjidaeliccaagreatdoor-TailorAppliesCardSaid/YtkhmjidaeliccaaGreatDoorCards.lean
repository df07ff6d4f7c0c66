/-
  DERIVED. GIVEN WITH THE SEED: THE CARDS: each row of YtkhmjidaeliccaaGreatDoorRows.lean that lists a variable, with what it lists TIED to the program's text (the seventh form; the later family's looks); each row that meets fmt, with fmt's text TOLD by the authors' own Lean function (tested against real Go, not proved from fmt's source: count such statements apart). THE CARD IS WHAT COUNTS. Prove the row's statement (the work); the ties are given (YtkhmjidaeliccaaGreatDoorTie.lean); close each card by the builder's one call (the guide's Derived/Test/ToyasCard.lean, 'card_holds'). Laid BY PROGRAM, IN A SANDBOX (cutbox-door.mjs). By AI agents, Wed Nov 11 2026. No macro, syntax, notation, axiom, sorry.
-/
import Derived.Test.YtkhmjidaeliccaaGreatDoorRows
import GoSem.ClaimSeven
namespace Go.Proofs.YtkhmjidaeliccaaGreatDoor
namespace Rows

/-- THE TIED CARD OF 'unicodetextlaw46.TailorSteps'. -/
def tailorStepsCard : Claim7 := { stood := { row := tailorStepsRow, standIns := [], harness := (true, "211c716abf6a39dbda8ae6f829d42b178fec97b2a9b9acced5b565e853a4b52b"), looks := false }, kinds := [], alts := [], laidByText := true, laidKinds := [.data], laidTests := true, laidLooks := .later }
def TailorStepsCardSaid : Prop := Claim7.holds Tryz.pinned (.plain (OpenSpec.ofChange tailorStepsSpec)) tailorStepsCard

/-- THE TIED CARD OF 'unicodetextlaw46.TailorApplies'. -/
def tailorAppliesCard : Claim7 := { stood := { row := tailorAppliesRow, standIns := [], harness := (true, "211c716abf6a39dbda8ae6f829d42b178fec97b2a9b9acced5b565e853a4b52b"), looks := false }, kinds := [], alts := [], laidByText := true, laidKinds := [.data], laidTests := true, laidLooks := .later }
def TailorAppliesCardSaid : Prop := Claim7.holds Tryz.pinned (.plain (OpenSpec.ofChange tailorAppliesSpec)) tailorAppliesCard

/-- THE TIED CARD OF 'unicodetextlaw46.TailorPlaces'. -/
def tailorPlacesCard : Claim7 := { stood := { row := tailorPlacesRow, standIns := [], harness := (true, "211c716abf6a39dbda8ae6f829d42b178fec97b2a9b9acced5b565e853a4b52b"), looks := false }, kinds := [], alts := [], laidByText := true, laidKinds := [.data], laidTests := true, laidLooks := .later }
def TailorPlacesCardSaid : Prop := Claim7.holds Tryz.pinned (.plain (OpenSpec.ofChange tailorPlacesSpec)) tailorPlacesCard

/-- THE TIED CARD OF 'unicodetextlaw46.TailorValid'. -/
def tailorValidCard : Claim7 := { stood := { row := tailorValidRow, standIns := [], harness := (true, "211c716abf6a39dbda8ae6f829d42b178fec97b2a9b9acced5b565e853a4b52b"), looks := false }, kinds := [], alts := [], laidByText := true, laidKinds := [.data], laidTests := true, laidLooks := .later }
def TailorValidCardSaid : Prop := Claim7.holds Tryz.pinned (.plain (OpenSpec.ofChange tailorValidSpec)) tailorValidCard

/-- THE TIED CARD OF 'unicodetextlaw46.TailorKeeps'. -/
def tailorKeepsCard : Claim7 := { stood := { row := tailorKeepsRow, standIns := [], harness := (true, "211c716abf6a39dbda8ae6f829d42b178fec97b2a9b9acced5b565e853a4b52b"), looks := false }, kinds := [], alts := [], laidByText := true, laidKinds := [.data], laidTests := true, laidLooks := .later }
def TailorKeepsCardSaid : Prop := Claim7.holds Tryz.pinned (.plain (OpenSpec.ofChange tailorKeepsSpec)) tailorKeepsCard

/-- THE TIED CARD OF 'unicodetextlaw46.TailorGreater'. -/
def tailorGreaterCard : Claim7 := { stood := { row := tailorGreaterRow, standIns := [], harness := (true, "211c716abf6a39dbda8ae6f829d42b178fec97b2a9b9acced5b565e853a4b52b"), looks := false }, kinds := [], alts := [], laidByText := true, laidKinds := [.data], laidTests := true, laidLooks := .later }
def TailorGreaterCardSaid : Prop := Claim7.holds Tryz.pinned (.plain (OpenSpec.ofChange tailorGreaterSpec)) tailorGreaterCard

/-- THE TIED CARD OF 'unicodetextlaw46.TailorTexts'. -/
def tailorTextsCard : Claim7 := { stood := { row := tailorTextsRow, standIns := [], harness := (true, "211c716abf6a39dbda8ae6f829d42b178fec97b2a9b9acced5b565e853a4b52b"), looks := false }, kinds := [], alts := [], laidByText := true, laidKinds := [.data, .data], laidTests := true, laidLooks := .later }
def TailorTextsCardSaid : Prop := Claim7.holds Tryz.pinned (.plain (OpenSpec.ofChange tailorTextsSpec)) tailorTextsCard

/-- THE TIED CARD OF 'unicodetextlaw46.TailorBack'. -/
def tailorBackCard : Claim7 := { stood := { row := tailorBackRow, standIns := [], harness := (true, "211c716abf6a39dbda8ae6f829d42b178fec97b2a9b9acced5b565e853a4b52b"), looks := false }, kinds := [], alts := [], laidByText := true, laidKinds := [.data, .data], laidTests := true, laidLooks := .later }
def TailorBackCardSaid : Prop := Claim7.holds Tryz.pinned (.plain (OpenSpec.ofChange tailorBackSpec)) tailorBackCard

/-- THE SECOND FORM's CARD OF 'unicodetextlaw46.TailorSteps'. -/
def tailorStepsUptoCard : Claim7 := { stood := { row := tailorStepsUptoRow, standIns := [], harness := (true, "211c716abf6a39dbda8ae6f829d42b178fec97b2a9b9acced5b565e853a4b52b"), looks := false }, kinds := [], alts := [], laidByText := true, laidKinds := [.data], laidTests := true, laidLooks := .later }
def TailorStepsUptoCardSaid : Prop := Claim7.holds Tryz.pinned (.plain (OpenSpec.upto tailorStepsSpec)) tailorStepsUptoCard

/-- THE SECOND FORM's CARD OF 'unicodetextlaw46.TailorApplies'. -/
def tailorAppliesUptoCard : Claim7 := { stood := { row := tailorAppliesUptoRow, standIns := [], harness := (true, "211c716abf6a39dbda8ae6f829d42b178fec97b2a9b9acced5b565e853a4b52b"), looks := false }, kinds := [], alts := [], laidByText := true, laidKinds := [.data], laidTests := true, laidLooks := .later }
def TailorAppliesUptoCardSaid : Prop := Claim7.holds Tryz.pinned (.plain (OpenSpec.upto tailorAppliesSpec)) tailorAppliesUptoCard

/-- THE SECOND FORM's CARD OF 'unicodetextlaw46.TailorPlaces'. -/
def tailorPlacesUptoCard : Claim7 := { stood := { row := tailorPlacesUptoRow, standIns := [], harness := (true, "211c716abf6a39dbda8ae6f829d42b178fec97b2a9b9acced5b565e853a4b52b"), looks := false }, kinds := [], alts := [], laidByText := true, laidKinds := [.data], laidTests := true, laidLooks := .later }
def TailorPlacesUptoCardSaid : Prop := Claim7.holds Tryz.pinned (.plain (OpenSpec.upto tailorPlacesSpec)) tailorPlacesUptoCard

/-- THE SECOND FORM's CARD OF 'unicodetextlaw46.TailorValid'. -/
def tailorValidUptoCard : Claim7 := { stood := { row := tailorValidUptoRow, standIns := [], harness := (true, "211c716abf6a39dbda8ae6f829d42b178fec97b2a9b9acced5b565e853a4b52b"), looks := false }, kinds := [], alts := [], laidByText := true, laidKinds := [.data], laidTests := true, laidLooks := .later }
def TailorValidUptoCardSaid : Prop := Claim7.holds Tryz.pinned (.plain (OpenSpec.upto tailorValidSpec)) tailorValidUptoCard

/-- THE SECOND FORM's CARD OF 'unicodetextlaw46.TailorKeeps'. -/
def tailorKeepsUptoCard : Claim7 := { stood := { row := tailorKeepsUptoRow, standIns := [], harness := (true, "211c716abf6a39dbda8ae6f829d42b178fec97b2a9b9acced5b565e853a4b52b"), looks := false }, kinds := [], alts := [], laidByText := true, laidKinds := [.data], laidTests := true, laidLooks := .later }
def TailorKeepsUptoCardSaid : Prop := Claim7.holds Tryz.pinned (.plain (OpenSpec.upto tailorKeepsSpec)) tailorKeepsUptoCard

/-- THE SECOND FORM's CARD OF 'unicodetextlaw46.TailorGreater'. -/
def tailorGreaterUptoCard : Claim7 := { stood := { row := tailorGreaterUptoRow, standIns := [], harness := (true, "211c716abf6a39dbda8ae6f829d42b178fec97b2a9b9acced5b565e853a4b52b"), looks := false }, kinds := [], alts := [], laidByText := true, laidKinds := [.data], laidTests := true, laidLooks := .later }
def TailorGreaterUptoCardSaid : Prop := Claim7.holds Tryz.pinned (.plain (OpenSpec.upto tailorGreaterSpec)) tailorGreaterUptoCard

/-- THE SECOND FORM's CARD OF 'unicodetextlaw46.TailorTexts'. -/
def tailorTextsUptoCard : Claim7 := { stood := { row := tailorTextsUptoRow, standIns := [], harness := (true, "211c716abf6a39dbda8ae6f829d42b178fec97b2a9b9acced5b565e853a4b52b"), looks := false }, kinds := [], alts := [], laidByText := true, laidKinds := [.data, .data], laidTests := true, laidLooks := .later }
def TailorTextsUptoCardSaid : Prop := Claim7.holds Tryz.pinned (.plain (OpenSpec.upto tailorTextsSpec)) tailorTextsUptoCard

/-- THE SECOND FORM's CARD OF 'unicodetextlaw46.TailorBack'. -/
def tailorBackUptoCard : Claim7 := { stood := { row := tailorBackUptoRow, standIns := [], harness := (true, "211c716abf6a39dbda8ae6f829d42b178fec97b2a9b9acced5b565e853a4b52b"), looks := false }, kinds := [], alts := [], laidByText := true, laidKinds := [.data, .data], laidTests := true, laidLooks := .later }
def TailorBackUptoCardSaid : Prop := Claim7.holds Tryz.pinned (.plain (OpenSpec.upto tailorBackSpec)) tailorBackUptoCard
end Rows
end Go.Proofs.YtkhmjidaeliccaaGreatDoor
