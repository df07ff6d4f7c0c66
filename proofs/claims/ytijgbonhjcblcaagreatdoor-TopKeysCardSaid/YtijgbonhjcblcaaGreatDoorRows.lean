/-
  NARROWER THAN 'FOR EVERY INPUT', by the rows' own cells (each row's printed sentence says how): TopKeys: laid · TopList: laid.
  DERIVED. THE GIVEN ROWS OF THIS SEAT. 2 by the template 'for every input the law returns true; each argument reads behind the call as it read before'; 0 by the template 'total and deterministic' (their statements: YtijgbonhjcblcaaGreatDoorTotals.lean).
  GIVEN WITH THE SEED: the statements are not yours to turn. If you find one false, say at which input.
  Laid BY PROGRAM, IN A SANDBOX (cutbox-rows.mjs): the forced cells as the released guide's own fill.sh prints them over the translation 4deda9d309355ff9… (all of the seat's roots in one cut). By AI agents, Wed Nov 11 2026. No macro, syntax, notation, axiom, sorry.
-/
import Derived.Test.YtijgbonhjcblcaaGreatDoorChecked
import GoSem.Claim
import GoSem.ClaimJoined
import GoSem.ClaimMapViews
import Derived.JoinedTies
import Derived.KernelRfl
namespace Go.Proofs.YtijgbonhjcblcaaGreatDoor
/- THE CELL 'sum', in the pinned program and in every row, IS THE sha256 OF THE DUMP (.gsa) THAT YtijgbonhjcblcaaGreatDoorProg.lean LOADS. Nothing in Lean hashes anything: it is a label: what it is worth is what the hold of that sum in a sandbox is worth. -/
noncomputable def Tryz.pinned : Pinned := { name := "ytijgbonhjcblcaagreatdoor", sum := "4deda9d309355ff9a2aabf170715edd7c65f2318af44910dfb0adba37b35cd86", checked := Tryz.checked }
namespace Rows
def none {H : Type} : Left H := { results := [], args := [] }

/- WHAT THE LISTED PACKAGE-LEVEL VARIABLES READ AS WHEN THE CALL BEGINS. Each datum BY PROGRAM (the guide's laid-datum.mjs) off the statement by which the dump's own 'gosem.cut.vars' lays the variable. In a bare row this is a premise. The card (YtijgbonhjcblcaaGreatDoorCards.lean) ties it to the program's text. -/
def laid_unicodetext_ordering_hangulRanges {H : Type} : DataW H := .agg [.agg [.lit (.int .i64 4352), .lit (.int .i64 4370)], .agg [.lit (.int .i64 4449), .lit (.int .i64 4469)], .agg [.lit (.int .i64 4520), .lit (.int .i64 4546)], .agg [.lit (.int .i64 44032), .lit (.int .i64 55203)]]

/-- 'unicodetexttop.TopKeys': WHATEVER THE INPUT: true; the input reads as it did. -/
def topKeysSpec : ChangeSpec := { name := "topKeys", fn := fun _ => fun
  | [d1, d2, d3] => { results := [.lit (.bool true)], args := [d1, d2, d3] }
  | _ => none }
def topKeysRow : OpenClaim := { program := "ytijgbonhjcblcaagreatdoor", sum := "4deda9d309355ff9a2aabf170715edd7c65f2318af44910dfb0adba37b35cd86", func := "unicodetext/unicodetexttop.TopKeys", spec := "topKeys", unfollowed := true, recurses := true, named := ["unicodetext/ordering.hangulRanges"], plainKeys := false, apart := false, laid := [("unicodetext/ordering.hangulRanges", laid_unicodetext_ordering_hangulRanges)] }
def TopKeysSaid : Prop := topKeysRow.holds Tryz.pinned (OpenSpec.ofChange topKeysSpec)

/-- ITS FALSE NEIGHBOUR: 'it returns false'. Refute it at one input. -/
def topKeysWrong : ChangeSpec := { name := "topKeys", fn := fun _ => fun
  | [d1, d2, d3] => { results := [.lit (.bool false)], args := [d1, d2, d3] }
  | _ => none }
def TopKeysWrongFalsely : Prop := topKeysRow.holds Tryz.pinned (OpenSpec.ofChange topKeysWrong)

/-- 'unicodetexttop.TopList': WHATEVER THE INPUT: true; the input reads as it did. -/
def topListSpec : ChangeSpec := { name := "topList", fn := fun _ => fun
  | [d1, d2] => { results := [.lit (.bool true)], args := [d1, d2] }
  | _ => none }
def topListRow : OpenClaim := { program := "ytijgbonhjcblcaagreatdoor", sum := "4deda9d309355ff9a2aabf170715edd7c65f2318af44910dfb0adba37b35cd86", func := "unicodetext/unicodetexttop.TopList", spec := "topList", inPlace := ["slices.overlaps[int]"], unfollowed := true, recurses := true, named := ["unicodetext/ordering.hangulRanges"], plainKeys := false, apart := false, laid := [("unicodetext/ordering.hangulRanges", laid_unicodetext_ordering_hangulRanges)] }
def TopListSaid : Prop := topListRow.holds Tryz.pinned (OpenSpec.ofChange topListSpec)

/-- ITS FALSE NEIGHBOUR: 'it returns false'. Refute it at one input. -/
def topListWrong : ChangeSpec := { name := "topList", fn := fun _ => fun
  | [d1, d2] => { results := [.lit (.bool false)], args := [d1, d2] }
  | _ => none }
def TopListWrongFalsely : Prop := topListRow.holds Tryz.pinned (OpenSpec.ofChange topListWrong)

/- THE SECOND FORM. 'bulk': how many values and letters a reading holds, each counted each time it is reached (what is shared counts as often as it is met; a slice's spare places count too). A statement '..UptoSaid' is the law's where the arguments, and the package variables that the reading takes, are together of bulk at most 1048576: NARROWER than '..Said'. Prove '..Said' where nothing that the law and all that it calls make is longer than what came in: it says more and counts as full. Else prove '..UptoSaid'. A law counts once. -/
mutual
def uptoBulk {H : Type} : DataW H → Nat
  | .lit (.string bytes) => bytes.length + 1
  | .lit _ => 1
  | .nil => 1
  | .ptr d => uptoBulk d + 1
  | .slice elems spare => uptoBulkAll elems + uptoBulkAll spare + 1
  | .agg parts => uptoBulkAll parts + 1
  | .iface _ d => uptoBulk d + 1
  | .map entries => uptoBulkEntries entries + 1
  | .held _ => 1
def uptoBulkAll {H : Type} : List (DataW H) → Nat
  | [] => 0
  | d :: r => uptoBulk d + uptoBulkAll r
def uptoBulkEntries {H : Type} : List (Lit × DataW H) → Nat
  | [] => 0
  | x :: r => uptoBulkEntry x + uptoBulkEntries r
def uptoBulkEntry {H : Type} : Lit × DataW H → Nat
  | (.string bytes, d) => bytes.length + uptoBulk d + 1
  | (_, d) => uptoBulk d + 1
 end
def uptoSmall : (H : Type) → List (DataW H) → Bool := fun _ ds => decide (uptoBulkAll ds ≤ 1048576)
def OpenSpec.upto (s : _root_.Go.ChangeSpec) : _root_.Go.OpenSpec := { _root_.Go.OpenSpec.ofChange s with cond := some uptoSmall }

/-- 'unicodetexttop.TopKeys', WHERE WHAT IT READS IS OF BULK AT MOST 1048576: true; the input reads as it did. -/
def topKeysUptoRow : OpenClaim := { program := "ytijgbonhjcblcaagreatdoor", sum := "4deda9d309355ff9a2aabf170715edd7c65f2318af44910dfb0adba37b35cd86", func := "unicodetext/unicodetexttop.TopKeys", spec := "topKeys", unfollowed := true, recurses := true, named := ["unicodetext/ordering.hangulRanges"], plainKeys := false, apart := false, laid := [("unicodetext/ordering.hangulRanges", laid_unicodetext_ordering_hangulRanges)], narrowed := true }
def TopKeysUptoSaid : Prop := topKeysUptoRow.holds Tryz.pinned (OpenSpec.upto topKeysSpec)

/-- 'unicodetexttop.TopList', WHERE WHAT IT READS IS OF BULK AT MOST 1048576: true; the input reads as it did. -/
def topListUptoRow : OpenClaim := { program := "ytijgbonhjcblcaagreatdoor", sum := "4deda9d309355ff9a2aabf170715edd7c65f2318af44910dfb0adba37b35cd86", func := "unicodetext/unicodetexttop.TopList", spec := "topList", inPlace := ["slices.overlaps[int]"], unfollowed := true, recurses := true, named := ["unicodetext/ordering.hangulRanges"], plainKeys := false, apart := false, laid := [("unicodetext/ordering.hangulRanges", laid_unicodetext_ordering_hangulRanges)], narrowed := true }
def TopListUptoSaid : Prop := topListUptoRow.holds Tryz.pinned (OpenSpec.upto topListSpec)

end Rows
end Go.Proofs.YtijgbonhjcblcaaGreatDoor
