/-
  NARROWER THAN 'FOR EVERY INPUT', by the rows' own cells (each row's printed sentence says how): SortlistPlays: laid · SortlistSorted: laid · SortlistTurns: laid · SortlistRanges: laid · SortlistNobody: laid · SortlistFull: laid.
  DERIVED. THE GIVEN ROWS OF THIS SEAT. 6 by the template 'for every input the law returns true; each argument reads behind the call as it read before'; 0 by the template 'total and deterministic' (their statements: YtpfbnikbebccjaaGreatDoorTotals.lean).
  GIVEN WITH THE SEED: the statements are not yours to turn. If you find one false, say at which input.
  Laid BY PROGRAM, IN A SANDBOX (cutbox-rows.mjs): the forced cells as the released guide's own fill.sh prints them over the translation 3b262d6408013e26… (all of the seat's roots in one cut). By AI agents, Wed Nov 11 2026. No macro, syntax, notation, axiom, sorry.
-/
import Derived.Test.YtpfbnikbebccjaaGreatDoorChecked
import GoSem.Claim
import GoSem.ClaimJoined
import GoSem.ClaimMapViews
import Derived.JoinedTies
import Derived.KernelRfl
namespace Go.Proofs.YtpfbnikbebccjaaGreatDoor
/- THE CELL 'sum', in the pinned program and in every row, IS THE sha256 OF THE DUMP (.gsa) THAT YtpfbnikbebccjaaGreatDoorProg.lean LOADS. Nothing in Lean hashes anything: it is a label: what it is worth is what the hold of that sum in a sandbox is worth. -/
noncomputable def Tryz.pinned : Pinned := { name := "ytpfbnikbebccjaagreatdoor", sum := "3b262d6408013e26b298ddfbf7b37efa2a68ac6bb31b6dbfc05b305a04a75b1f", checked := Tryz.checked }
namespace Rows
def none {H : Type} : Left H := { results := [], args := [] }

/- WHAT THE LISTED PACKAGE-LEVEL VARIABLES READ AS WHEN THE CALL BEGINS. Each datum BY PROGRAM (the guide's laid-datum.mjs) off the statement by which the dump's own 'gosem.cut.vars' lays the variable. In a bare row this is a premise. The card (YtpfbnikbebccjaaGreatDoorCards.lean) ties it to the program's text. -/
def laid_unicodetext_ordering_hangulRanges {H : Type} : DataW H := .agg [.agg [.lit (.int .i64 4352), .lit (.int .i64 4370)], .agg [.lit (.int .i64 4449), .lit (.int .i64 4469)], .agg [.lit (.int .i64 4520), .lit (.int .i64 4546)], .agg [.lit (.int .i64 44032), .lit (.int .i64 55203)]]

/-- 'unicodetextlaw55.SortlistPlays': WHATEVER THE INPUT: true; the input reads as it did. -/
def sortlistPlaysSpec : ChangeSpec := { name := "sortlistPlays", fn := fun _ => fun
  | [d1, d2] => { results := [.lit (.bool true)], args := [d1, d2] }
  | _ => none }
def sortlistPlaysRow : OpenClaim := { program := "ytpfbnikbebccjaagreatdoor", sum := "3b262d6408013e26b298ddfbf7b37efa2a68ac6bb31b6dbfc05b305a04a75b1f", func := "unicodetext/unicodetextlaw55.SortlistPlays", spec := "sortlistPlays", inPlace := ["slices.overlaps[int]"], unfollowed := true, recurses := true, named := ["unicodetext/ordering.hangulRanges"], plainKeys := false, apart := false, laid := [("unicodetext/ordering.hangulRanges", laid_unicodetext_ordering_hangulRanges)] }
def SortlistPlaysSaid : Prop := sortlistPlaysRow.holds Tryz.pinned (OpenSpec.ofChange sortlistPlaysSpec)

/-- ITS FALSE NEIGHBOUR: 'it returns false'. Refute it at one input. -/
def sortlistPlaysWrong : ChangeSpec := { name := "sortlistPlays", fn := fun _ => fun
  | [d1, d2] => { results := [.lit (.bool false)], args := [d1, d2] }
  | _ => none }
def SortlistPlaysWrongFalsely : Prop := sortlistPlaysRow.holds Tryz.pinned (OpenSpec.ofChange sortlistPlaysWrong)

/-- 'unicodetextlaw55.SortlistSorted': WHATEVER THE INPUT: true; the input reads as it did. -/
def sortlistSortedSpec : ChangeSpec := { name := "sortlistSorted", fn := fun _ => fun
  | [d1, d2] => { results := [.lit (.bool true)], args := [d1, d2] }
  | _ => none }
def sortlistSortedRow : OpenClaim := { program := "ytpfbnikbebccjaagreatdoor", sum := "3b262d6408013e26b298ddfbf7b37efa2a68ac6bb31b6dbfc05b305a04a75b1f", func := "unicodetext/unicodetextlaw55.SortlistSorted", spec := "sortlistSorted", inPlace := ["slices.overlaps[int]"], unfollowed := true, recurses := true, named := ["unicodetext/ordering.hangulRanges"], plainKeys := false, apart := false, laid := [("unicodetext/ordering.hangulRanges", laid_unicodetext_ordering_hangulRanges)] }
def SortlistSortedSaid : Prop := sortlistSortedRow.holds Tryz.pinned (OpenSpec.ofChange sortlistSortedSpec)

/-- ITS FALSE NEIGHBOUR: 'it returns false'. Refute it at one input. -/
def sortlistSortedWrong : ChangeSpec := { name := "sortlistSorted", fn := fun _ => fun
  | [d1, d2] => { results := [.lit (.bool false)], args := [d1, d2] }
  | _ => none }
def SortlistSortedWrongFalsely : Prop := sortlistSortedRow.holds Tryz.pinned (OpenSpec.ofChange sortlistSortedWrong)

/-- 'unicodetextlaw55.SortlistTurns': WHATEVER THE INPUT: true; the input reads as it did. -/
def sortlistTurnsSpec : ChangeSpec := { name := "sortlistTurns", fn := fun _ => fun
  | [d1, d2] => { results := [.lit (.bool true)], args := [d1, d2] }
  | _ => none }
def sortlistTurnsRow : OpenClaim := { program := "ytpfbnikbebccjaagreatdoor", sum := "3b262d6408013e26b298ddfbf7b37efa2a68ac6bb31b6dbfc05b305a04a75b1f", func := "unicodetext/unicodetextlaw55.SortlistTurns", spec := "sortlistTurns", inPlace := ["slices.overlaps[int]"], unfollowed := true, recurses := true, named := ["unicodetext/ordering.hangulRanges"], plainKeys := false, apart := false, laid := [("unicodetext/ordering.hangulRanges", laid_unicodetext_ordering_hangulRanges)] }
def SortlistTurnsSaid : Prop := sortlistTurnsRow.holds Tryz.pinned (OpenSpec.ofChange sortlistTurnsSpec)

/-- ITS FALSE NEIGHBOUR: 'it returns false'. Refute it at one input. -/
def sortlistTurnsWrong : ChangeSpec := { name := "sortlistTurns", fn := fun _ => fun
  | [d1, d2] => { results := [.lit (.bool false)], args := [d1, d2] }
  | _ => none }
def SortlistTurnsWrongFalsely : Prop := sortlistTurnsRow.holds Tryz.pinned (OpenSpec.ofChange sortlistTurnsWrong)

/-- 'unicodetextlaw55.SortlistRanges': WHATEVER THE INPUT: true; the input reads as it did. -/
def sortlistRangesSpec : ChangeSpec := { name := "sortlistRanges", fn := fun _ => fun
  | [d1, d2, d3] => { results := [.lit (.bool true)], args := [d1, d2, d3] }
  | _ => none }
def sortlistRangesRow : OpenClaim := { program := "ytpfbnikbebccjaagreatdoor", sum := "3b262d6408013e26b298ddfbf7b37efa2a68ac6bb31b6dbfc05b305a04a75b1f", func := "unicodetext/unicodetextlaw55.SortlistRanges", spec := "sortlistRanges", inPlace := ["slices.overlaps[int]"], unfollowed := true, recurses := true, named := ["unicodetext/ordering.hangulRanges"], plainKeys := false, apart := false, laid := [("unicodetext/ordering.hangulRanges", laid_unicodetext_ordering_hangulRanges)] }
def SortlistRangesSaid : Prop := sortlistRangesRow.holds Tryz.pinned (OpenSpec.ofChange sortlistRangesSpec)

/-- ITS FALSE NEIGHBOUR: 'it returns false'. Refute it at one input. -/
def sortlistRangesWrong : ChangeSpec := { name := "sortlistRanges", fn := fun _ => fun
  | [d1, d2, d3] => { results := [.lit (.bool false)], args := [d1, d2, d3] }
  | _ => none }
def SortlistRangesWrongFalsely : Prop := sortlistRangesRow.holds Tryz.pinned (OpenSpec.ofChange sortlistRangesWrong)

/-- 'unicodetextlaw55.SortlistNobody': WHATEVER THE INPUT: true; the input reads as it did. -/
def sortlistNobodySpec : ChangeSpec := { name := "sortlistNobody", fn := fun _ => fun
  | [d1, d2] => { results := [.lit (.bool true)], args := [d1, d2] }
  | _ => none }
def sortlistNobodyRow : OpenClaim := { program := "ytpfbnikbebccjaagreatdoor", sum := "3b262d6408013e26b298ddfbf7b37efa2a68ac6bb31b6dbfc05b305a04a75b1f", func := "unicodetext/unicodetextlaw55.SortlistNobody", spec := "sortlistNobody", inPlace := ["slices.overlaps[int]"], unfollowed := true, recurses := true, named := ["unicodetext/ordering.hangulRanges"], plainKeys := false, apart := false, laid := [("unicodetext/ordering.hangulRanges", laid_unicodetext_ordering_hangulRanges)] }
def SortlistNobodySaid : Prop := sortlistNobodyRow.holds Tryz.pinned (OpenSpec.ofChange sortlistNobodySpec)

/-- ITS FALSE NEIGHBOUR: 'it returns false'. Refute it at one input. -/
def sortlistNobodyWrong : ChangeSpec := { name := "sortlistNobody", fn := fun _ => fun
  | [d1, d2] => { results := [.lit (.bool false)], args := [d1, d2] }
  | _ => none }
def SortlistNobodyWrongFalsely : Prop := sortlistNobodyRow.holds Tryz.pinned (OpenSpec.ofChange sortlistNobodyWrong)

/-- 'unicodetextlaw55.SortlistFull': WHATEVER THE INPUT: true; the input reads as it did. -/
def sortlistFullSpec : ChangeSpec := { name := "sortlistFull", fn := fun _ => fun
  | [d] => { results := [.lit (.bool true)], args := [d] }
  | _ => none }
def sortlistFullRow : OpenClaim := { program := "ytpfbnikbebccjaagreatdoor", sum := "3b262d6408013e26b298ddfbf7b37efa2a68ac6bb31b6dbfc05b305a04a75b1f", func := "unicodetext/unicodetextlaw55.SortlistFull", spec := "sortlistFull", inPlace := ["slices.overlaps[int]"], unfollowed := true, recurses := true, named := ["unicodetext/ordering.hangulRanges"], plainKeys := false, apart := false, laid := [("unicodetext/ordering.hangulRanges", laid_unicodetext_ordering_hangulRanges)] }
def SortlistFullSaid : Prop := sortlistFullRow.holds Tryz.pinned (OpenSpec.ofChange sortlistFullSpec)

/-- ITS FALSE NEIGHBOUR: 'it returns false'. Refute it at one input. -/
def sortlistFullWrong : ChangeSpec := { name := "sortlistFull", fn := fun _ => fun
  | [d] => { results := [.lit (.bool false)], args := [d] }
  | _ => none }
def SortlistFullWrongFalsely : Prop := sortlistFullRow.holds Tryz.pinned (OpenSpec.ofChange sortlistFullWrong)

/- THE SECOND FORM. 'bulk': how many values and letters a reading holds, each counted each time it is reached (what is shared counts as often as it is met; a slice's spare places count too). A statement '..UptoSaid' is the law's where the arguments, and the package variables that the reading takes, are together of bulk at most 1048576: NARROWER than '..Said'. Prove '..Said' where nothing that the law and all that it calls make is longer than what came in: it says more and counts as full. Else prove '..UptoSaid'. A law counts once. -/
mutual
def uptoBulk {H : Type} : DataW H → Nat
  | .lit (.string bytes) => bytes.length + 1
  | .lit _ => 1
  | .nil => 1
  | .ptr d => uptoBulk d + 1
  | .slice elems spare => uptoBulkAll elems + uptoBulkAll spare + 1
  | .agg parts => uptoBulkAll parts + 1
  | .iface _ d => uptoBulk d + 1
  | .map entries => uptoBulkEntries entries + 1
  | .held _ => 1
def uptoBulkAll {H : Type} : List (DataW H) → Nat
  | [] => 0
  | d :: r => uptoBulk d + uptoBulkAll r
def uptoBulkEntries {H : Type} : List (Lit × DataW H) → Nat
  | [] => 0
  | x :: r => uptoBulkEntry x + uptoBulkEntries r
def uptoBulkEntry {H : Type} : Lit × DataW H → Nat
  | (.string bytes, d) => bytes.length + uptoBulk d + 1
  | (_, d) => uptoBulk d + 1
 end
def uptoSmall : (H : Type) → List (DataW H) → Bool := fun _ ds => decide (uptoBulkAll ds ≤ 1048576)
def OpenSpec.upto (s : _root_.Go.ChangeSpec) : _root_.Go.OpenSpec := { _root_.Go.OpenSpec.ofChange s with cond := some uptoSmall }

/-- 'unicodetextlaw55.SortlistPlays', WHERE WHAT IT READS IS OF BULK AT MOST 1048576: true; the input reads as it did. -/
def sortlistPlaysUptoRow : OpenClaim := { program := "ytpfbnikbebccjaagreatdoor", sum := "3b262d6408013e26b298ddfbf7b37efa2a68ac6bb31b6dbfc05b305a04a75b1f", func := "unicodetext/unicodetextlaw55.SortlistPlays", spec := "sortlistPlays", inPlace := ["slices.overlaps[int]"], unfollowed := true, recurses := true, named := ["unicodetext/ordering.hangulRanges"], plainKeys := false, apart := false, laid := [("unicodetext/ordering.hangulRanges", laid_unicodetext_ordering_hangulRanges)], narrowed := true }
def SortlistPlaysUptoSaid : Prop := sortlistPlaysUptoRow.holds Tryz.pinned (OpenSpec.upto sortlistPlaysSpec)

/-- 'unicodetextlaw55.SortlistSorted', WHERE WHAT IT READS IS OF BULK AT MOST 1048576: true; the input reads as it did. -/
def sortlistSortedUptoRow : OpenClaim := { program := "ytpfbnikbebccjaagreatdoor", sum := "3b262d6408013e26b298ddfbf7b37efa2a68ac6bb31b6dbfc05b305a04a75b1f", func := "unicodetext/unicodetextlaw55.SortlistSorted", spec := "sortlistSorted", inPlace := ["slices.overlaps[int]"], unfollowed := true, recurses := true, named := ["unicodetext/ordering.hangulRanges"], plainKeys := false, apart := false, laid := [("unicodetext/ordering.hangulRanges", laid_unicodetext_ordering_hangulRanges)], narrowed := true }
def SortlistSortedUptoSaid : Prop := sortlistSortedUptoRow.holds Tryz.pinned (OpenSpec.upto sortlistSortedSpec)

/-- 'unicodetextlaw55.SortlistTurns', WHERE WHAT IT READS IS OF BULK AT MOST 1048576: true; the input reads as it did. -/
def sortlistTurnsUptoRow : OpenClaim := { program := "ytpfbnikbebccjaagreatdoor", sum := "3b262d6408013e26b298ddfbf7b37efa2a68ac6bb31b6dbfc05b305a04a75b1f", func := "unicodetext/unicodetextlaw55.SortlistTurns", spec := "sortlistTurns", inPlace := ["slices.overlaps[int]"], unfollowed := true, recurses := true, named := ["unicodetext/ordering.hangulRanges"], plainKeys := false, apart := false, laid := [("unicodetext/ordering.hangulRanges", laid_unicodetext_ordering_hangulRanges)], narrowed := true }
def SortlistTurnsUptoSaid : Prop := sortlistTurnsUptoRow.holds Tryz.pinned (OpenSpec.upto sortlistTurnsSpec)

/-- 'unicodetextlaw55.SortlistRanges', WHERE WHAT IT READS IS OF BULK AT MOST 1048576: true; the input reads as it did. -/
def sortlistRangesUptoRow : OpenClaim := { program := "ytpfbnikbebccjaagreatdoor", sum := "3b262d6408013e26b298ddfbf7b37efa2a68ac6bb31b6dbfc05b305a04a75b1f", func := "unicodetext/unicodetextlaw55.SortlistRanges", spec := "sortlistRanges", inPlace := ["slices.overlaps[int]"], unfollowed := true, recurses := true, named := ["unicodetext/ordering.hangulRanges"], plainKeys := false, apart := false, laid := [("unicodetext/ordering.hangulRanges", laid_unicodetext_ordering_hangulRanges)], narrowed := true }
def SortlistRangesUptoSaid : Prop := sortlistRangesUptoRow.holds Tryz.pinned (OpenSpec.upto sortlistRangesSpec)

/-- 'unicodetextlaw55.SortlistNobody', WHERE WHAT IT READS IS OF BULK AT MOST 1048576: true; the input reads as it did. -/
def sortlistNobodyUptoRow : OpenClaim := { program := "ytpfbnikbebccjaagreatdoor", sum := "3b262d6408013e26b298ddfbf7b37efa2a68ac6bb31b6dbfc05b305a04a75b1f", func := "unicodetext/unicodetextlaw55.SortlistNobody", spec := "sortlistNobody", inPlace := ["slices.overlaps[int]"], unfollowed := true, recurses := true, named := ["unicodetext/ordering.hangulRanges"], plainKeys := false, apart := false, laid := [("unicodetext/ordering.hangulRanges", laid_unicodetext_ordering_hangulRanges)], narrowed := true }
def SortlistNobodyUptoSaid : Prop := sortlistNobodyUptoRow.holds Tryz.pinned (OpenSpec.upto sortlistNobodySpec)

/-- 'unicodetextlaw55.SortlistFull', WHERE WHAT IT READS IS OF BULK AT MOST 1048576: true; the input reads as it did. -/
def sortlistFullUptoRow : OpenClaim := { program := "ytpfbnikbebccjaagreatdoor", sum := "3b262d6408013e26b298ddfbf7b37efa2a68ac6bb31b6dbfc05b305a04a75b1f", func := "unicodetext/unicodetextlaw55.SortlistFull", spec := "sortlistFull", inPlace := ["slices.overlaps[int]"], unfollowed := true, recurses := true, named := ["unicodetext/ordering.hangulRanges"], plainKeys := false, apart := false, laid := [("unicodetext/ordering.hangulRanges", laid_unicodetext_ordering_hangulRanges)], narrowed := true }
def SortlistFullUptoSaid : Prop := sortlistFullUptoRow.holds Tryz.pinned (OpenSpec.upto sortlistFullSpec)

end Rows
end Go.Proofs.YtpfbnikbebccjaaGreatDoor
