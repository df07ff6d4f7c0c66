/-
  NARROWER THAN 'FOR EVERY INPUT', by the rows' own cells (each row's printed sentence says how): ComposePairs: laid · ComposeTexts: laid · ComposeUndone: laid · ComposeSpreads: laid · ComposeMakes: laid · ComposeSecond: laid.
  DERIVED. THE GIVEN ROWS OF THIS SEAT. 6 by the template 'for every input the law returns true; each argument reads behind the call as it read before'; 0 by the template 'total and deterministic' (their statements: YtjglanjfgbipmaaGreatDoorTotals.lean).
  GIVEN WITH THE SEED: the statements are not yours to turn. If you find one false, say at which input.
  Laid BY PROGRAM, IN A SANDBOX (cutbox-rows.mjs): the forced cells as the released guide's own fill.sh prints them over the translation af476690bcea5511… (all of the seat's roots in one cut). By AI agents, Wed Nov 11 2026. No macro, syntax, notation, axiom, sorry.
-/
import Derived.Test.YtjglanjfgbipmaaGreatDoorChecked
import GoSem.Claim
import GoSem.ClaimJoined
import GoSem.ClaimMapViews
import Derived.JoinedTies
import Derived.KernelRfl
namespace Go.Proofs.YtjglanjfgbipmaaGreatDoor
/- THE CELL 'sum', in the pinned program and in every row, IS THE sha256 OF THE DUMP (.gsa) THAT YtjglanjfgbipmaaGreatDoorProg.lean LOADS. Nothing in Lean hashes anything: it is a label: what it is worth is what the hold of that sum in a sandbox is worth. -/
noncomputable def Tryz.pinned : Pinned := { name := "ytjglanjfgbipmaagreatdoor", sum := "af476690bcea55118d6a8443370a480c6d0d5ff4506baab627402a7c4d997d55", checked := Tryz.checked }
namespace Rows
def none {H : Type} : Left H := { results := [], args := [] }

/- WHAT THE LISTED PACKAGE-LEVEL VARIABLES READ AS WHEN THE CALL BEGINS. Each datum BY PROGRAM (the guide's laid-datum.mjs) off the statement by which the dump's own 'gosem.cut.vars' lays the variable. In a bare row this is a premise. The card (YtjglanjfgbipmaaGreatDoorCards.lean) ties it to the program's text. -/
def laid_unicodetext_ordering_hangulRanges {H : Type} : DataW H := .agg [.agg [.lit (.int .i64 4352), .lit (.int .i64 4370)], .agg [.lit (.int .i64 4449), .lit (.int .i64 4469)], .agg [.lit (.int .i64 4520), .lit (.int .i64 4546)], .agg [.lit (.int .i64 44032), .lit (.int .i64 55203)]]

/-- 'unicodetextlaw22.ComposePairs': WHATEVER THE INPUT: true; the input reads as it did. -/
def composePairsSpec : ChangeSpec := { name := "composePairs", fn := fun _ => fun
  | [d1, d2, d3] => { results := [.lit (.bool true)], args := [d1, d2, d3] }
  | _ => none }
def composePairsRow : OpenClaim := { program := "ytjglanjfgbipmaagreatdoor", sum := "af476690bcea55118d6a8443370a480c6d0d5ff4506baab627402a7c4d997d55", func := "unicodetext/unicodetextlaw22.ComposePairs", spec := "composePairs", unfollowed := true, recurses := true, named := ["unicodetext/ordering.hangulRanges"], plainKeys := false, apart := false, laid := [("unicodetext/ordering.hangulRanges", laid_unicodetext_ordering_hangulRanges)] }
def ComposePairsSaid : Prop := composePairsRow.holds Tryz.pinned (OpenSpec.ofChange composePairsSpec)

/-- ITS FALSE NEIGHBOUR: 'it returns false'. Refute it at one input. -/
def composePairsWrong : ChangeSpec := { name := "composePairs", fn := fun _ => fun
  | [d1, d2, d3] => { results := [.lit (.bool false)], args := [d1, d2, d3] }
  | _ => none }
def ComposePairsWrongFalsely : Prop := composePairsRow.holds Tryz.pinned (OpenSpec.ofChange composePairsWrong)

/-- 'unicodetextlaw22.ComposeTexts': WHATEVER THE INPUT: true; the input reads as it did. -/
def composeTextsSpec : ChangeSpec := { name := "composeTexts", fn := fun _ => fun
  | [d1, d2] => { results := [.lit (.bool true)], args := [d1, d2] }
  | _ => none }
def composeTextsRow : OpenClaim := { program := "ytjglanjfgbipmaagreatdoor", sum := "af476690bcea55118d6a8443370a480c6d0d5ff4506baab627402a7c4d997d55", func := "unicodetext/unicodetextlaw22.ComposeTexts", spec := "composeTexts", unfollowed := true, recurses := true, named := ["unicodetext/ordering.hangulRanges"], plainKeys := false, apart := false, laid := [("unicodetext/ordering.hangulRanges", laid_unicodetext_ordering_hangulRanges)] }
def ComposeTextsSaid : Prop := composeTextsRow.holds Tryz.pinned (OpenSpec.ofChange composeTextsSpec)

/-- ITS FALSE NEIGHBOUR: 'it returns false'. Refute it at one input. -/
def composeTextsWrong : ChangeSpec := { name := "composeTexts", fn := fun _ => fun
  | [d1, d2] => { results := [.lit (.bool false)], args := [d1, d2] }
  | _ => none }
def ComposeTextsWrongFalsely : Prop := composeTextsRow.holds Tryz.pinned (OpenSpec.ofChange composeTextsWrong)

/-- 'unicodetextlaw22.ComposeUndone': WHATEVER THE INPUT: true; the input reads as it did. -/
def composeUndoneSpec : ChangeSpec := { name := "composeUndone", fn := fun _ => fun
  | [d1, d2] => { results := [.lit (.bool true)], args := [d1, d2] }
  | _ => none }
def composeUndoneRow : OpenClaim := { program := "ytjglanjfgbipmaagreatdoor", sum := "af476690bcea55118d6a8443370a480c6d0d5ff4506baab627402a7c4d997d55", func := "unicodetext/unicodetextlaw22.ComposeUndone", spec := "composeUndone", unfollowed := true, recurses := true, named := ["unicodetext/ordering.hangulRanges"], plainKeys := false, apart := false, laid := [("unicodetext/ordering.hangulRanges", laid_unicodetext_ordering_hangulRanges)] }
def ComposeUndoneSaid : Prop := composeUndoneRow.holds Tryz.pinned (OpenSpec.ofChange composeUndoneSpec)

/-- ITS FALSE NEIGHBOUR: 'it returns false'. Refute it at one input. -/
def composeUndoneWrong : ChangeSpec := { name := "composeUndone", fn := fun _ => fun
  | [d1, d2] => { results := [.lit (.bool false)], args := [d1, d2] }
  | _ => none }
def ComposeUndoneWrongFalsely : Prop := composeUndoneRow.holds Tryz.pinned (OpenSpec.ofChange composeUndoneWrong)

/-- 'unicodetextlaw22.ComposeSpreads': WHATEVER THE INPUT: true; the input reads as it did. -/
def composeSpreadsSpec : ChangeSpec := { name := "composeSpreads", fn := fun _ => fun
  | [d1, d2, d3] => { results := [.lit (.bool true)], args := [d1, d2, d3] }
  | _ => none }
def composeSpreadsRow : OpenClaim := { program := "ytjglanjfgbipmaagreatdoor", sum := "af476690bcea55118d6a8443370a480c6d0d5ff4506baab627402a7c4d997d55", func := "unicodetext/unicodetextlaw22.ComposeSpreads", spec := "composeSpreads", unfollowed := true, recurses := true, named := ["unicodetext/ordering.hangulRanges"], plainKeys := false, apart := false, laid := [("unicodetext/ordering.hangulRanges", laid_unicodetext_ordering_hangulRanges)] }
def ComposeSpreadsSaid : Prop := composeSpreadsRow.holds Tryz.pinned (OpenSpec.ofChange composeSpreadsSpec)

/-- ITS FALSE NEIGHBOUR: 'it returns false'. Refute it at one input. -/
def composeSpreadsWrong : ChangeSpec := { name := "composeSpreads", fn := fun _ => fun
  | [d1, d2, d3] => { results := [.lit (.bool false)], args := [d1, d2, d3] }
  | _ => none }
def ComposeSpreadsWrongFalsely : Prop := composeSpreadsRow.holds Tryz.pinned (OpenSpec.ofChange composeSpreadsWrong)

/-- 'unicodetextlaw22.ComposeMakes': WHATEVER THE INPUT: true; the input reads as it did. -/
def composeMakesSpec : ChangeSpec := { name := "composeMakes", fn := fun _ => fun
  | [d1, d2] => { results := [.lit (.bool true)], args := [d1, d2] }
  | _ => none }
def composeMakesRow : OpenClaim := { program := "ytjglanjfgbipmaagreatdoor", sum := "af476690bcea55118d6a8443370a480c6d0d5ff4506baab627402a7c4d997d55", func := "unicodetext/unicodetextlaw22.ComposeMakes", spec := "composeMakes", unfollowed := true, recurses := true, named := ["unicodetext/ordering.hangulRanges"], plainKeys := false, apart := false, laid := [("unicodetext/ordering.hangulRanges", laid_unicodetext_ordering_hangulRanges)] }
def ComposeMakesSaid : Prop := composeMakesRow.holds Tryz.pinned (OpenSpec.ofChange composeMakesSpec)

/-- ITS FALSE NEIGHBOUR: 'it returns false'. Refute it at one input. -/
def composeMakesWrong : ChangeSpec := { name := "composeMakes", fn := fun _ => fun
  | [d1, d2] => { results := [.lit (.bool false)], args := [d1, d2] }
  | _ => none }
def ComposeMakesWrongFalsely : Prop := composeMakesRow.holds Tryz.pinned (OpenSpec.ofChange composeMakesWrong)

/-- 'unicodetextlaw22.ComposeSecond': WHATEVER THE INPUT: true; the input reads as it did. -/
def composeSecondSpec : ChangeSpec := { name := "composeSecond", fn := fun _ => fun
  | [d1, d2, d3] => { results := [.lit (.bool true)], args := [d1, d2, d3] }
  | _ => none }
def composeSecondRow : OpenClaim := { program := "ytjglanjfgbipmaagreatdoor", sum := "af476690bcea55118d6a8443370a480c6d0d5ff4506baab627402a7c4d997d55", func := "unicodetext/unicodetextlaw22.ComposeSecond", spec := "composeSecond", unfollowed := true, recurses := true, named := ["unicodetext/ordering.hangulRanges"], plainKeys := false, apart := false, laid := [("unicodetext/ordering.hangulRanges", laid_unicodetext_ordering_hangulRanges)] }
def ComposeSecondSaid : Prop := composeSecondRow.holds Tryz.pinned (OpenSpec.ofChange composeSecondSpec)

/-- ITS FALSE NEIGHBOUR: 'it returns false'. Refute it at one input. -/
def composeSecondWrong : ChangeSpec := { name := "composeSecond", fn := fun _ => fun
  | [d1, d2, d3] => { results := [.lit (.bool false)], args := [d1, d2, d3] }
  | _ => none }
def ComposeSecondWrongFalsely : Prop := composeSecondRow.holds Tryz.pinned (OpenSpec.ofChange composeSecondWrong)

/- THE SECOND FORM. 'bulk': how many values and letters a reading holds, each counted each time it is reached (what is shared counts as often as it is met; a slice's spare places count too). A statement '..UptoSaid' is the law's where the arguments, and the package variables that the reading takes, are together of bulk at most 1048576: NARROWER than '..Said'. Prove '..Said' where nothing that the law and all that it calls make is longer than what came in: it says more and counts as full. Else prove '..UptoSaid'. A law counts once. -/
mutual
def uptoBulk {H : Type} : DataW H → Nat
  | .lit (.string bytes) => bytes.length + 1
  | .lit _ => 1
  | .nil => 1
  | .ptr d => uptoBulk d + 1
  | .slice elems spare => uptoBulkAll elems + uptoBulkAll spare + 1
  | .agg parts => uptoBulkAll parts + 1
  | .iface _ d => uptoBulk d + 1
  | .map entries => uptoBulkEntries entries + 1
  | .held _ => 1
def uptoBulkAll {H : Type} : List (DataW H) → Nat
  | [] => 0
  | d :: r => uptoBulk d + uptoBulkAll r
def uptoBulkEntries {H : Type} : List (Lit × DataW H) → Nat
  | [] => 0
  | x :: r => uptoBulkEntry x + uptoBulkEntries r
def uptoBulkEntry {H : Type} : Lit × DataW H → Nat
  | (.string bytes, d) => bytes.length + uptoBulk d + 1
  | (_, d) => uptoBulk d + 1
 end
def uptoSmall : (H : Type) → List (DataW H) → Bool := fun _ ds => decide (uptoBulkAll ds ≤ 1048576)
def OpenSpec.upto (s : _root_.Go.ChangeSpec) : _root_.Go.OpenSpec := { _root_.Go.OpenSpec.ofChange s with cond := some uptoSmall }

/-- 'unicodetextlaw22.ComposePairs', WHERE WHAT IT READS IS OF BULK AT MOST 1048576: true; the input reads as it did. -/
def composePairsUptoRow : OpenClaim := { program := "ytjglanjfgbipmaagreatdoor", sum := "af476690bcea55118d6a8443370a480c6d0d5ff4506baab627402a7c4d997d55", func := "unicodetext/unicodetextlaw22.ComposePairs", spec := "composePairs", unfollowed := true, recurses := true, named := ["unicodetext/ordering.hangulRanges"], plainKeys := false, apart := false, laid := [("unicodetext/ordering.hangulRanges", laid_unicodetext_ordering_hangulRanges)], narrowed := true }
def ComposePairsUptoSaid : Prop := composePairsUptoRow.holds Tryz.pinned (OpenSpec.upto composePairsSpec)

/-- 'unicodetextlaw22.ComposeTexts', WHERE WHAT IT READS IS OF BULK AT MOST 1048576: true; the input reads as it did. -/
def composeTextsUptoRow : OpenClaim := { program := "ytjglanjfgbipmaagreatdoor", sum := "af476690bcea55118d6a8443370a480c6d0d5ff4506baab627402a7c4d997d55", func := "unicodetext/unicodetextlaw22.ComposeTexts", spec := "composeTexts", unfollowed := true, recurses := true, named := ["unicodetext/ordering.hangulRanges"], plainKeys := false, apart := false, laid := [("unicodetext/ordering.hangulRanges", laid_unicodetext_ordering_hangulRanges)], narrowed := true }
def ComposeTextsUptoSaid : Prop := composeTextsUptoRow.holds Tryz.pinned (OpenSpec.upto composeTextsSpec)

/-- 'unicodetextlaw22.ComposeUndone', WHERE WHAT IT READS IS OF BULK AT MOST 1048576: true; the input reads as it did. -/
def composeUndoneUptoRow : OpenClaim := { program := "ytjglanjfgbipmaagreatdoor", sum := "af476690bcea55118d6a8443370a480c6d0d5ff4506baab627402a7c4d997d55", func := "unicodetext/unicodetextlaw22.ComposeUndone", spec := "composeUndone", unfollowed := true, recurses := true, named := ["unicodetext/ordering.hangulRanges"], plainKeys := false, apart := false, laid := [("unicodetext/ordering.hangulRanges", laid_unicodetext_ordering_hangulRanges)], narrowed := true }
def ComposeUndoneUptoSaid : Prop := composeUndoneUptoRow.holds Tryz.pinned (OpenSpec.upto composeUndoneSpec)

/-- 'unicodetextlaw22.ComposeSpreads', WHERE WHAT IT READS IS OF BULK AT MOST 1048576: true; the input reads as it did. -/
def composeSpreadsUptoRow : OpenClaim := { program := "ytjglanjfgbipmaagreatdoor", sum := "af476690bcea55118d6a8443370a480c6d0d5ff4506baab627402a7c4d997d55", func := "unicodetext/unicodetextlaw22.ComposeSpreads", spec := "composeSpreads", unfollowed := true, recurses := true, named := ["unicodetext/ordering.hangulRanges"], plainKeys := false, apart := false, laid := [("unicodetext/ordering.hangulRanges", laid_unicodetext_ordering_hangulRanges)], narrowed := true }
def ComposeSpreadsUptoSaid : Prop := composeSpreadsUptoRow.holds Tryz.pinned (OpenSpec.upto composeSpreadsSpec)

/-- 'unicodetextlaw22.ComposeMakes', WHERE WHAT IT READS IS OF BULK AT MOST 1048576: true; the input reads as it did. -/
def composeMakesUptoRow : OpenClaim := { program := "ytjglanjfgbipmaagreatdoor", sum := "af476690bcea55118d6a8443370a480c6d0d5ff4506baab627402a7c4d997d55", func := "unicodetext/unicodetextlaw22.ComposeMakes", spec := "composeMakes", unfollowed := true, recurses := true, named := ["unicodetext/ordering.hangulRanges"], plainKeys := false, apart := false, laid := [("unicodetext/ordering.hangulRanges", laid_unicodetext_ordering_hangulRanges)], narrowed := true }
def ComposeMakesUptoSaid : Prop := composeMakesUptoRow.holds Tryz.pinned (OpenSpec.upto composeMakesSpec)

/-- 'unicodetextlaw22.ComposeSecond', WHERE WHAT IT READS IS OF BULK AT MOST 1048576: true; the input reads as it did. -/
def composeSecondUptoRow : OpenClaim := { program := "ytjglanjfgbipmaagreatdoor", sum := "af476690bcea55118d6a8443370a480c6d0d5ff4506baab627402a7c4d997d55", func := "unicodetext/unicodetextlaw22.ComposeSecond", spec := "composeSecond", unfollowed := true, recurses := true, named := ["unicodetext/ordering.hangulRanges"], plainKeys := false, apart := false, laid := [("unicodetext/ordering.hangulRanges", laid_unicodetext_ordering_hangulRanges)], narrowed := true }
def ComposeSecondUptoSaid : Prop := composeSecondUptoRow.holds Tryz.pinned (OpenSpec.upto composeSecondSpec)

end Rows
end Go.Proofs.YtjglanjfgbipmaaGreatDoor
