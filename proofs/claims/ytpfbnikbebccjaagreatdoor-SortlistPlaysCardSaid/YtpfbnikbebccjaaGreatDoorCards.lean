/-
  DERIVED. GIVEN WITH THE SEED: THE CARDS: each row of YtpfbnikbebccjaaGreatDoorRows.lean that lists a variable, with what it lists TIED to the program's text (the seventh form; the later family's looks); each row that meets fmt, with fmt's text TOLD by the authors' own Lean function (tested against real Go, not proved from fmt's source: count such statements apart). THE CARD IS WHAT COUNTS. Prove the row's statement (the work); the ties are given (YtpfbnikbebccjaaGreatDoorTie.lean); close each card by the builder's one call (the guide's Derived/Test/ToyasCard.lean, 'card_holds'). Laid BY PROGRAM, IN A SANDBOX (cutbox-door.mjs). By AI agents, Wed Nov 11 2026. No macro, syntax, notation, axiom, sorry.
-/
import Derived.Test.YtpfbnikbebccjaaGreatDoorRows
import GoSem.ClaimSeven
namespace Go.Proofs.YtpfbnikbebccjaaGreatDoor
namespace Rows

/-- THE TIED CARD OF 'unicodetextlaw55.SortlistPlays'. -/
def sortlistPlaysCard : Claim7 := { stood := { row := sortlistPlaysRow, standIns := [], harness := (true, "486decdcbfe4c67c8383713e06046ff62fcbf4b5cc92b778f1bbb54323cb2d9b"), looks := false }, kinds := [], alts := [], laidByText := true, laidKinds := [.data], laidTests := true, laidLooks := .later }
def SortlistPlaysCardSaid : Prop := Claim7.holds Tryz.pinned (.plain (OpenSpec.ofChange sortlistPlaysSpec)) sortlistPlaysCard

/-- THE TIED CARD OF 'unicodetextlaw55.SortlistSorted'. -/
def sortlistSortedCard : Claim7 := { stood := { row := sortlistSortedRow, standIns := [], harness := (true, "486decdcbfe4c67c8383713e06046ff62fcbf4b5cc92b778f1bbb54323cb2d9b"), looks := false }, kinds := [], alts := [], laidByText := true, laidKinds := [.data], laidTests := true, laidLooks := .later }
def SortlistSortedCardSaid : Prop := Claim7.holds Tryz.pinned (.plain (OpenSpec.ofChange sortlistSortedSpec)) sortlistSortedCard

/-- THE TIED CARD OF 'unicodetextlaw55.SortlistTurns'. -/
def sortlistTurnsCard : Claim7 := { stood := { row := sortlistTurnsRow, standIns := [], harness := (true, "486decdcbfe4c67c8383713e06046ff62fcbf4b5cc92b778f1bbb54323cb2d9b"), looks := false }, kinds := [], alts := [], laidByText := true, laidKinds := [.data], laidTests := true, laidLooks := .later }
def SortlistTurnsCardSaid : Prop := Claim7.holds Tryz.pinned (.plain (OpenSpec.ofChange sortlistTurnsSpec)) sortlistTurnsCard

/-- THE TIED CARD OF 'unicodetextlaw55.SortlistRanges'. -/
def sortlistRangesCard : Claim7 := { stood := { row := sortlistRangesRow, standIns := [], harness := (true, "486decdcbfe4c67c8383713e06046ff62fcbf4b5cc92b778f1bbb54323cb2d9b"), looks := false }, kinds := [], alts := [], laidByText := true, laidKinds := [.data], laidTests := true, laidLooks := .later }
def SortlistRangesCardSaid : Prop := Claim7.holds Tryz.pinned (.plain (OpenSpec.ofChange sortlistRangesSpec)) sortlistRangesCard

/-- THE TIED CARD OF 'unicodetextlaw55.SortlistNobody'. -/
def sortlistNobodyCard : Claim7 := { stood := { row := sortlistNobodyRow, standIns := [], harness := (true, "486decdcbfe4c67c8383713e06046ff62fcbf4b5cc92b778f1bbb54323cb2d9b"), looks := false }, kinds := [], alts := [], laidByText := true, laidKinds := [.data], laidTests := true, laidLooks := .later }
def SortlistNobodyCardSaid : Prop := Claim7.holds Tryz.pinned (.plain (OpenSpec.ofChange sortlistNobodySpec)) sortlistNobodyCard

/-- THE TIED CARD OF 'unicodetextlaw55.SortlistFull'. -/
def sortlistFullCard : Claim7 := { stood := { row := sortlistFullRow, standIns := [], harness := (true, "486decdcbfe4c67c8383713e06046ff62fcbf4b5cc92b778f1bbb54323cb2d9b"), looks := false }, kinds := [], alts := [], laidByText := true, laidKinds := [.data], laidTests := true, laidLooks := .later }
def SortlistFullCardSaid : Prop := Claim7.holds Tryz.pinned (.plain (OpenSpec.ofChange sortlistFullSpec)) sortlistFullCard

/-- THE SECOND FORM's CARD OF 'unicodetextlaw55.SortlistPlays'. -/
def sortlistPlaysUptoCard : Claim7 := { stood := { row := sortlistPlaysUptoRow, standIns := [], harness := (true, "486decdcbfe4c67c8383713e06046ff62fcbf4b5cc92b778f1bbb54323cb2d9b"), looks := false }, kinds := [], alts := [], laidByText := true, laidKinds := [.data], laidTests := true, laidLooks := .later }
def SortlistPlaysUptoCardSaid : Prop := Claim7.holds Tryz.pinned (.plain (OpenSpec.upto sortlistPlaysSpec)) sortlistPlaysUptoCard

/-- THE SECOND FORM's CARD OF 'unicodetextlaw55.SortlistSorted'. -/
def sortlistSortedUptoCard : Claim7 := { stood := { row := sortlistSortedUptoRow, standIns := [], harness := (true, "486decdcbfe4c67c8383713e06046ff62fcbf4b5cc92b778f1bbb54323cb2d9b"), looks := false }, kinds := [], alts := [], laidByText := true, laidKinds := [.data], laidTests := true, laidLooks := .later }
def SortlistSortedUptoCardSaid : Prop := Claim7.holds Tryz.pinned (.plain (OpenSpec.upto sortlistSortedSpec)) sortlistSortedUptoCard

/-- THE SECOND FORM's CARD OF 'unicodetextlaw55.SortlistTurns'. -/
def sortlistTurnsUptoCard : Claim7 := { stood := { row := sortlistTurnsUptoRow, standIns := [], harness := (true, "486decdcbfe4c67c8383713e06046ff62fcbf4b5cc92b778f1bbb54323cb2d9b"), looks := false }, kinds := [], alts := [], laidByText := true, laidKinds := [.data], laidTests := true, laidLooks := .later }
def SortlistTurnsUptoCardSaid : Prop := Claim7.holds Tryz.pinned (.plain (OpenSpec.upto sortlistTurnsSpec)) sortlistTurnsUptoCard

/-- THE SECOND FORM's CARD OF 'unicodetextlaw55.SortlistRanges'. -/
def sortlistRangesUptoCard : Claim7 := { stood := { row := sortlistRangesUptoRow, standIns := [], harness := (true, "486decdcbfe4c67c8383713e06046ff62fcbf4b5cc92b778f1bbb54323cb2d9b"), looks := false }, kinds := [], alts := [], laidByText := true, laidKinds := [.data], laidTests := true, laidLooks := .later }
def SortlistRangesUptoCardSaid : Prop := Claim7.holds Tryz.pinned (.plain (OpenSpec.upto sortlistRangesSpec)) sortlistRangesUptoCard

/-- THE SECOND FORM's CARD OF 'unicodetextlaw55.SortlistNobody'. -/
def sortlistNobodyUptoCard : Claim7 := { stood := { row := sortlistNobodyUptoRow, standIns := [], harness := (true, "486decdcbfe4c67c8383713e06046ff62fcbf4b5cc92b778f1bbb54323cb2d9b"), looks := false }, kinds := [], alts := [], laidByText := true, laidKinds := [.data], laidTests := true, laidLooks := .later }
def SortlistNobodyUptoCardSaid : Prop := Claim7.holds Tryz.pinned (.plain (OpenSpec.upto sortlistNobodySpec)) sortlistNobodyUptoCard

/-- THE SECOND FORM's CARD OF 'unicodetextlaw55.SortlistFull'. -/
def sortlistFullUptoCard : Claim7 := { stood := { row := sortlistFullUptoRow, standIns := [], harness := (true, "486decdcbfe4c67c8383713e06046ff62fcbf4b5cc92b778f1bbb54323cb2d9b"), looks := false }, kinds := [], alts := [], laidByText := true, laidKinds := [.data], laidTests := true, laidLooks := .later }
def SortlistFullUptoCardSaid : Prop := Claim7.holds Tryz.pinned (.plain (OpenSpec.upto sortlistFullSpec)) sortlistFullUptoCard
end Rows
end Go.Proofs.YtpfbnikbebccjaaGreatDoor
