/-
  DERIVED. GIVEN WITH THE SEED: THE CARDS: each row of YtjglanjfgbipmaaDoorRows.lean that lists a variable, with what it lists TIED to the program's text (the seventh form; the later family's looks); each row that meets fmt, with fmt's text TOLD by the authors' own Lean function (tested against real Go, not proved from fmt's source: count such statements apart). THE CARD IS WHAT COUNTS. Prove the row's statement (the work); the ties are given (YtjglanjfgbipmaaDoorTie.lean); close each card by the builder's one call (the guide's Derived/Test/ToyasCard.lean, 'card_holds'). Laid BY PROGRAM, IN A SANDBOX (cutbox-door.mjs). By AI agents, Wed Nov 11 2026. No macro, syntax, notation, axiom, sorry.
-/
import Derived.Test.YtjglanjfgbipmaaDoorRows
import GoSem.ClaimSeven
namespace Go.Proofs.YtjglanjfgbipmaaDoor
namespace Rows

/-- THE TIED CARD OF 'unicodetextlaw22.ComposeHangul'. -/
def composeHangulCard : Claim7 := { stood := { row := composeHangulRow, standIns := [], harness := (true, "18cef18614f228d9b718f6e9d62f3ada09a35638ebc81a4478650bb1fe911462"), looks := false }, kinds := [], alts := [], laidByText := true, laidKinds := [.data], laidTests := true, laidLooks := .later }
def ComposeHangulCardSaid : Prop := Claim7.holds Tryd.pinned (.plain (OpenSpec.ofChange composeHangulSpec)) composeHangulCard

/-- THE SECOND FORM's CARD OF 'unicodetextlaw22.ComposeHangul'. -/
def composeHangulUptoCard : Claim7 := { stood := { row := composeHangulUptoRow, standIns := [], harness := (true, "18cef18614f228d9b718f6e9d62f3ada09a35638ebc81a4478650bb1fe911462"), looks := false }, kinds := [], alts := [], laidByText := true, laidKinds := [.data], laidTests := true, laidLooks := .later }
def ComposeHangulUptoCardSaid : Prop := Claim7.holds Tryd.pinned (.plain (OpenSpec.upto composeHangulSpec)) composeHangulUptoCard
end Rows
end Go.Proofs.YtjglanjfgbipmaaDoor
