/-
  DERIVED. GIVEN WITH THE SEED: THE CARDS: each row of YtijgbonhjcblcaaGreatDoorRows.lean that lists a variable, with what it lists TIED to the program's text (the seventh form; the later family's looks); each row that meets fmt, with fmt's text TOLD by the authors' own Lean function (tested against real Go, not proved from fmt's source: count such statements apart). THE CARD IS WHAT COUNTS. Prove the row's statement (the work); the ties are given (YtijgbonhjcblcaaGreatDoorTie.lean); close each card by the builder's one call (the guide's Derived/Test/ToyasCard.lean, 'card_holds'). Laid BY PROGRAM, IN A SANDBOX (cutbox-door.mjs). By AI agents, Wed Nov 11 2026. No macro, syntax, notation, axiom, sorry.
-/
import Derived.Test.YtijgbonhjcblcaaGreatDoorRows
import GoSem.ClaimSeven
namespace Go.Proofs.YtijgbonhjcblcaaGreatDoor
namespace Rows

/-- THE TIED CARD OF 'unicodetexttop.TopKeys'. -/
def topKeysCard : Claim7 := { stood := { row := topKeysRow, standIns := [], harness := (true, "36e361afbb8fc59cad6c317bdb8e3d2f3ddc5436a346db5083e0ca32e2a967d2"), looks := false }, kinds := [], alts := [], laidByText := true, laidKinds := [.data], laidTests := true, laidLooks := .later }
def TopKeysCardSaid : Prop := Claim7.holds Tryz.pinned (.plain (OpenSpec.ofChange topKeysSpec)) topKeysCard

/-- THE TIED CARD OF 'unicodetexttop.TopList'. -/
def topListCard : Claim7 := { stood := { row := topListRow, standIns := [], harness := (true, "36e361afbb8fc59cad6c317bdb8e3d2f3ddc5436a346db5083e0ca32e2a967d2"), looks := false }, kinds := [], alts := [], laidByText := true, laidKinds := [.data], laidTests := true, laidLooks := .later }
def TopListCardSaid : Prop := Claim7.holds Tryz.pinned (.plain (OpenSpec.ofChange topListSpec)) topListCard

/-- THE SECOND FORM's CARD OF 'unicodetexttop.TopKeys'. -/
def topKeysUptoCard : Claim7 := { stood := { row := topKeysUptoRow, standIns := [], harness := (true, "36e361afbb8fc59cad6c317bdb8e3d2f3ddc5436a346db5083e0ca32e2a967d2"), looks := false }, kinds := [], alts := [], laidByText := true, laidKinds := [.data], laidTests := true, laidLooks := .later }
def TopKeysUptoCardSaid : Prop := Claim7.holds Tryz.pinned (.plain (OpenSpec.upto topKeysSpec)) topKeysUptoCard

/-- THE SECOND FORM's CARD OF 'unicodetexttop.TopList'. -/
def topListUptoCard : Claim7 := { stood := { row := topListUptoRow, standIns := [], harness := (true, "36e361afbb8fc59cad6c317bdb8e3d2f3ddc5436a346db5083e0ca32e2a967d2"), looks := false }, kinds := [], alts := [], laidByText := true, laidKinds := [.data], laidTests := true, laidLooks := .later }
def TopListUptoCardSaid : Prop := Claim7.holds Tryz.pinned (.plain (OpenSpec.upto topListSpec)) topListUptoCard
end Rows
end Go.Proofs.YtijgbonhjcblcaaGreatDoor
