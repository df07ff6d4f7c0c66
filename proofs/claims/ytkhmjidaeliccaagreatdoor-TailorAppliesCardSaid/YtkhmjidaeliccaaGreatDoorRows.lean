/-
  NARROWER THAN 'FOR EVERY INPUT', by the rows' own cells (each row's printed sentence says how): TailorSteps: laid · TailorApplies: laid · TailorPlaces: laid · TailorValid: laid · TailorKeeps: laid · TailorGreater: laid · TailorTexts: laid · TailorBack: laid.
  DERIVED. THE GIVEN ROWS OF THIS SEAT. 8 by the template 'for every input the law returns true; each argument reads behind the call as it read before'; 0 by the template 'total and deterministic' (their statements: YtkhmjidaeliccaaGreatDoorTotals.lean).
  GIVEN WITH THE SEED: the statements are not yours to turn. If you find one false, say at which input.
  Laid BY PROGRAM, IN A SANDBOX (cutbox-rows.mjs): the forced cells as the released guide's own fill.sh prints them over the translation 7ec67d85a847f395… (all of the seat's roots in one cut). By AI agents, Wed Nov 11 2026. No macro, syntax, notation, axiom, sorry.
-/
import Derived.Test.YtkhmjidaeliccaaGreatDoorChecked
import GoSem.Claim
import GoSem.ClaimJoined
import GoSem.ClaimMapViews
import Derived.JoinedTies
import Derived.KernelRfl
namespace Go.Proofs.YtkhmjidaeliccaaGreatDoor
/- THE CELL 'sum', in the pinned program and in every row, IS THE sha256 OF THE DUMP (.gsa) THAT YtkhmjidaeliccaaGreatDoorProg.lean LOADS. Nothing in Lean hashes anything: it is a label: what it is worth is what the hold of that sum in a sandbox is worth. -/
noncomputable def Tryz.pinned : Pinned := { name := "ytkhmjidaeliccaagreatdoor", sum := "7ec67d85a847f395f3864c07106a19990e6cbc0a30aae55edfc3628387635773", checked := Tryz.checked }
namespace Rows
def none {H : Type} : Left H := { results := [], args := [] }

/- WHAT THE LISTED PACKAGE-LEVEL VARIABLES READ AS WHEN THE CALL BEGINS. Each datum BY PROGRAM (the guide's laid-datum.mjs) off the statement by which the dump's own 'gosem.cut.vars' lays the variable. In a bare row this is a premise. The card (YtkhmjidaeliccaaGreatDoorCards.lean) ties it to the program's text. -/
def laid_unicodetext_ordering_hangulRanges {H : Type} : DataW H := .agg [.agg [.lit (.int .i64 4352), .lit (.int .i64 4370)], .agg [.lit (.int .i64 4449), .lit (.int .i64 4469)], .agg [.lit (.int .i64 4520), .lit (.int .i64 4546)], .agg [.lit (.int .i64 44032), .lit (.int .i64 55203)]]
def laid_unicodetext_codepoint_digits {H : Type} : DataW H := .agg [.lit (.int .u8 48), .lit (.int .u8 49), .lit (.int .u8 50), .lit (.int .u8 51), .lit (.int .u8 52), .lit (.int .u8 53), .lit (.int .u8 54), .lit (.int .u8 55), .lit (.int .u8 56), .lit (.int .u8 57), .lit (.int .u8 65), .lit (.int .u8 66), .lit (.int .u8 67), .lit (.int .u8 68), .lit (.int .u8 69), .lit (.int .u8 70)]

/-- 'unicodetextlaw46.TailorSteps': WHATEVER THE INPUT: true; the input reads as it did. -/
def tailorStepsSpec : ChangeSpec := { name := "tailorSteps", fn := fun _ => fun
  | [d] => { results := [.lit (.bool true)], args := [d] }
  | _ => none }
def tailorStepsRow : OpenClaim := { program := "ytkhmjidaeliccaagreatdoor", sum := "7ec67d85a847f395f3864c07106a19990e6cbc0a30aae55edfc3628387635773", func := "unicodetext/unicodetextlaw46.TailorSteps", spec := "tailorSteps", inPlace := ["slices.overlaps[unicodetext/api.Entry]"], unfollowed := true, recurses := true, named := ["unicodetext/ordering.hangulRanges"], plainKeys := false, apart := false, laid := [("unicodetext/ordering.hangulRanges", laid_unicodetext_ordering_hangulRanges)] }
def TailorStepsSaid : Prop := tailorStepsRow.holds Tryz.pinned (OpenSpec.ofChange tailorStepsSpec)

/-- ITS FALSE NEIGHBOUR: 'it returns false'. Refute it at one input. -/
def tailorStepsWrong : ChangeSpec := { name := "tailorSteps", fn := fun _ => fun
  | [d] => { results := [.lit (.bool false)], args := [d] }
  | _ => none }
def TailorStepsWrongFalsely : Prop := tailorStepsRow.holds Tryz.pinned (OpenSpec.ofChange tailorStepsWrong)

/-- 'unicodetextlaw46.TailorApplies': WHATEVER THE INPUT: true; the input reads as it did. -/
def tailorAppliesSpec : ChangeSpec := { name := "tailorApplies", fn := fun _ => fun
  | [d1, d2, d3] => { results := [.lit (.bool true)], args := [d1, d2, d3] }
  | _ => none }
def tailorAppliesRow : OpenClaim := { program := "ytkhmjidaeliccaagreatdoor", sum := "7ec67d85a847f395f3864c07106a19990e6cbc0a30aae55edfc3628387635773", func := "unicodetext/unicodetextlaw46.TailorApplies", spec := "tailorApplies", inPlace := ["slices.overlaps[unicodetext/api.Entry]"], unfollowed := true, recurses := true, named := ["unicodetext/ordering.hangulRanges"], plainKeys := false, apart := false, laid := [("unicodetext/ordering.hangulRanges", laid_unicodetext_ordering_hangulRanges)] }
def TailorAppliesSaid : Prop := tailorAppliesRow.holds Tryz.pinned (OpenSpec.ofChange tailorAppliesSpec)

/-- ITS FALSE NEIGHBOUR: 'it returns false'. Refute it at one input. -/
def tailorAppliesWrong : ChangeSpec := { name := "tailorApplies", fn := fun _ => fun
  | [d1, d2, d3] => { results := [.lit (.bool false)], args := [d1, d2, d3] }
  | _ => none }
def TailorAppliesWrongFalsely : Prop := tailorAppliesRow.holds Tryz.pinned (OpenSpec.ofChange tailorAppliesWrong)

/-- 'unicodetextlaw46.TailorPlaces': WHATEVER THE INPUT: true; the input reads as it did. -/
def tailorPlacesSpec : ChangeSpec := { name := "tailorPlaces", fn := fun _ => fun
  | [d] => { results := [.lit (.bool true)], args := [d] }
  | _ => none }
def tailorPlacesRow : OpenClaim := { program := "ytkhmjidaeliccaagreatdoor", sum := "7ec67d85a847f395f3864c07106a19990e6cbc0a30aae55edfc3628387635773", func := "unicodetext/unicodetextlaw46.TailorPlaces", spec := "tailorPlaces", inPlace := ["slices.overlaps[unicodetext/api.Entry]"], unfollowed := true, recurses := true, named := ["unicodetext/ordering.hangulRanges"], plainKeys := false, apart := false, laid := [("unicodetext/ordering.hangulRanges", laid_unicodetext_ordering_hangulRanges)] }
def TailorPlacesSaid : Prop := tailorPlacesRow.holds Tryz.pinned (OpenSpec.ofChange tailorPlacesSpec)

/-- ITS FALSE NEIGHBOUR: 'it returns false'. Refute it at one input. -/
def tailorPlacesWrong : ChangeSpec := { name := "tailorPlaces", fn := fun _ => fun
  | [d] => { results := [.lit (.bool false)], args := [d] }
  | _ => none }
def TailorPlacesWrongFalsely : Prop := tailorPlacesRow.holds Tryz.pinned (OpenSpec.ofChange tailorPlacesWrong)

/-- 'unicodetextlaw46.TailorValid': WHATEVER THE INPUT: true; the input reads as it did. -/
def tailorValidSpec : ChangeSpec := { name := "tailorValid", fn := fun _ => fun
  | [d] => { results := [.lit (.bool true)], args := [d] }
  | _ => none }
def tailorValidRow : OpenClaim := { program := "ytkhmjidaeliccaagreatdoor", sum := "7ec67d85a847f395f3864c07106a19990e6cbc0a30aae55edfc3628387635773", func := "unicodetext/unicodetextlaw46.TailorValid", spec := "tailorValid", inPlace := ["slices.overlaps[unicodetext/api.Entry]"], unfollowed := true, recurses := true, named := ["unicodetext/ordering.hangulRanges"], plainKeys := false, apart := false, laid := [("unicodetext/ordering.hangulRanges", laid_unicodetext_ordering_hangulRanges)] }
def TailorValidSaid : Prop := tailorValidRow.holds Tryz.pinned (OpenSpec.ofChange tailorValidSpec)

/-- ITS FALSE NEIGHBOUR: 'it returns false'. Refute it at one input. -/
def tailorValidWrong : ChangeSpec := { name := "tailorValid", fn := fun _ => fun
  | [d] => { results := [.lit (.bool false)], args := [d] }
  | _ => none }
def TailorValidWrongFalsely : Prop := tailorValidRow.holds Tryz.pinned (OpenSpec.ofChange tailorValidWrong)

/-- 'unicodetextlaw46.TailorKeeps': WHATEVER THE INPUT: true; the input reads as it did. -/
def tailorKeepsSpec : ChangeSpec := { name := "tailorKeeps", fn := fun _ => fun
  | [d1, d2, d3] => { results := [.lit (.bool true)], args := [d1, d2, d3] }
  | _ => none }
def tailorKeepsRow : OpenClaim := { program := "ytkhmjidaeliccaagreatdoor", sum := "7ec67d85a847f395f3864c07106a19990e6cbc0a30aae55edfc3628387635773", func := "unicodetext/unicodetextlaw46.TailorKeeps", spec := "tailorKeeps", inPlace := ["slices.overlaps[unicodetext/api.Entry]"], unfollowed := true, recurses := true, named := ["unicodetext/ordering.hangulRanges"], plainKeys := false, apart := false, laid := [("unicodetext/ordering.hangulRanges", laid_unicodetext_ordering_hangulRanges)] }
def TailorKeepsSaid : Prop := tailorKeepsRow.holds Tryz.pinned (OpenSpec.ofChange tailorKeepsSpec)

/-- ITS FALSE NEIGHBOUR: 'it returns false'. Refute it at one input. -/
def tailorKeepsWrong : ChangeSpec := { name := "tailorKeeps", fn := fun _ => fun
  | [d1, d2, d3] => { results := [.lit (.bool false)], args := [d1, d2, d3] }
  | _ => none }
def TailorKeepsWrongFalsely : Prop := tailorKeepsRow.holds Tryz.pinned (OpenSpec.ofChange tailorKeepsWrong)

/-- 'unicodetextlaw46.TailorGreater': WHATEVER THE INPUT: true; the input reads as it did. -/
def tailorGreaterSpec : ChangeSpec := { name := "tailorGreater", fn := fun _ => fun
  | [d] => { results := [.lit (.bool true)], args := [d] }
  | _ => none }
def tailorGreaterRow : OpenClaim := { program := "ytkhmjidaeliccaagreatdoor", sum := "7ec67d85a847f395f3864c07106a19990e6cbc0a30aae55edfc3628387635773", func := "unicodetext/unicodetextlaw46.TailorGreater", spec := "tailorGreater", inPlace := ["slices.overlaps[unicodetext/api.Entry]"], unfollowed := true, recurses := true, named := ["unicodetext/ordering.hangulRanges"], plainKeys := false, apart := false, laid := [("unicodetext/ordering.hangulRanges", laid_unicodetext_ordering_hangulRanges)] }
def TailorGreaterSaid : Prop := tailorGreaterRow.holds Tryz.pinned (OpenSpec.ofChange tailorGreaterSpec)

/-- ITS FALSE NEIGHBOUR: 'it returns false'. Refute it at one input. -/
def tailorGreaterWrong : ChangeSpec := { name := "tailorGreater", fn := fun _ => fun
  | [d] => { results := [.lit (.bool false)], args := [d] }
  | _ => none }
def TailorGreaterWrongFalsely : Prop := tailorGreaterRow.holds Tryz.pinned (OpenSpec.ofChange tailorGreaterWrong)

/-- 'unicodetextlaw46.TailorTexts': WHATEVER THE INPUT: true; the input reads as it did. -/
def tailorTextsSpec : ChangeSpec := { name := "tailorTexts", fn := fun _ => fun
  | [d] => { results := [.lit (.bool true)], args := [d] }
  | _ => none }
def tailorTextsRow : OpenClaim := { program := "ytkhmjidaeliccaagreatdoor", sum := "7ec67d85a847f395f3864c07106a19990e6cbc0a30aae55edfc3628387635773", func := "unicodetext/unicodetextlaw46.TailorTexts", spec := "tailorTexts", inPlace := ["slices.overlaps[unicodetext/api.Entry]", "internal/abi.NoEscape", "internal/bytealg.MakeNoZero"], unfollowed := true, recurses := true, named := ["unicodetext/ordering.hangulRanges", "unicodetext/codepoint.digits"], plainKeys := false, apart := false, laid := [("unicodetext/codepoint.digits", laid_unicodetext_codepoint_digits), ("unicodetext/ordering.hangulRanges", laid_unicodetext_ordering_hangulRanges)] }
def TailorTextsSaid : Prop := tailorTextsRow.holds Tryz.pinned (OpenSpec.ofChange tailorTextsSpec)

/-- ITS FALSE NEIGHBOUR: 'it returns false'. Refute it at one input. -/
def tailorTextsWrong : ChangeSpec := { name := "tailorTexts", fn := fun _ => fun
  | [d] => { results := [.lit (.bool false)], args := [d] }
  | _ => none }
def TailorTextsWrongFalsely : Prop := tailorTextsRow.holds Tryz.pinned (OpenSpec.ofChange tailorTextsWrong)

/-- 'unicodetextlaw46.TailorBack': WHATEVER THE INPUT: true; the input reads as it did. -/
def tailorBackSpec : ChangeSpec := { name := "tailorBack", fn := fun _ => fun
  | [d1, d2] => { results := [.lit (.bool true)], args := [d1, d2] }
  | _ => none }
def tailorBackRow : OpenClaim := { program := "ytkhmjidaeliccaagreatdoor", sum := "7ec67d85a847f395f3864c07106a19990e6cbc0a30aae55edfc3628387635773", func := "unicodetext/unicodetextlaw46.TailorBack", spec := "tailorBack", inPlace := ["slices.overlaps[unicodetext/api.Entry]", "internal/abi.NoEscape", "internal/bytealg.MakeNoZero"], unfollowed := true, recurses := true, named := ["unicodetext/ordering.hangulRanges", "unicodetext/codepoint.digits"], plainKeys := false, apart := false, laid := [("unicodetext/codepoint.digits", laid_unicodetext_codepoint_digits), ("unicodetext/ordering.hangulRanges", laid_unicodetext_ordering_hangulRanges)] }
def TailorBackSaid : Prop := tailorBackRow.holds Tryz.pinned (OpenSpec.ofChange tailorBackSpec)

/-- ITS FALSE NEIGHBOUR: 'it returns false'. Refute it at one input. -/
def tailorBackWrong : ChangeSpec := { name := "tailorBack", fn := fun _ => fun
  | [d1, d2] => { results := [.lit (.bool false)], args := [d1, d2] }
  | _ => none }
def TailorBackWrongFalsely : Prop := tailorBackRow.holds Tryz.pinned (OpenSpec.ofChange tailorBackWrong)

/- THE SECOND FORM. 'bulk': how many values and letters a reading holds, each counted each time it is reached (what is shared counts as often as it is met; a slice's spare places count too). A statement '..UptoSaid' is the law's where the arguments, and the package variables that the reading takes, are together of bulk at most 1048576: NARROWER than '..Said'. Prove '..Said' where nothing that the law and all that it calls make is longer than what came in: it says more and counts as full. Else prove '..UptoSaid'. A law counts once. -/
mutual
def uptoBulk {H : Type} : DataW H → Nat
  | .lit (.string bytes) => bytes.length + 1
  | .lit _ => 1
  | .nil => 1
  | .ptr d => uptoBulk d + 1
  | .slice elems spare => uptoBulkAll elems + uptoBulkAll spare + 1
  | .agg parts => uptoBulkAll parts + 1
  | .iface _ d => uptoBulk d + 1
  | .map entries => uptoBulkEntries entries + 1
  | .held _ => 1
def uptoBulkAll {H : Type} : List (DataW H) → Nat
  | [] => 0
  | d :: r => uptoBulk d + uptoBulkAll r
def uptoBulkEntries {H : Type} : List (Lit × DataW H) → Nat
  | [] => 0
  | x :: r => uptoBulkEntry x + uptoBulkEntries r
def uptoBulkEntry {H : Type} : Lit × DataW H → Nat
  | (.string bytes, d) => bytes.length + uptoBulk d + 1
  | (_, d) => uptoBulk d + 1
 end
def uptoSmall : (H : Type) → List (DataW H) → Bool := fun _ ds => decide (uptoBulkAll ds ≤ 1048576)
def OpenSpec.upto (s : _root_.Go.ChangeSpec) : _root_.Go.OpenSpec := { _root_.Go.OpenSpec.ofChange s with cond := some uptoSmall }

/-- 'unicodetextlaw46.TailorSteps', WHERE WHAT IT READS IS OF BULK AT MOST 1048576: true; the input reads as it did. -/
def tailorStepsUptoRow : OpenClaim := { program := "ytkhmjidaeliccaagreatdoor", sum := "7ec67d85a847f395f3864c07106a19990e6cbc0a30aae55edfc3628387635773", func := "unicodetext/unicodetextlaw46.TailorSteps", spec := "tailorSteps", inPlace := ["slices.overlaps[unicodetext/api.Entry]"], unfollowed := true, recurses := true, named := ["unicodetext/ordering.hangulRanges"], plainKeys := false, apart := false, laid := [("unicodetext/ordering.hangulRanges", laid_unicodetext_ordering_hangulRanges)], narrowed := true }
def TailorStepsUptoSaid : Prop := tailorStepsUptoRow.holds Tryz.pinned (OpenSpec.upto tailorStepsSpec)

/-- 'unicodetextlaw46.TailorApplies', WHERE WHAT IT READS IS OF BULK AT MOST 1048576: true; the input reads as it did. -/
def tailorAppliesUptoRow : OpenClaim := { program := "ytkhmjidaeliccaagreatdoor", sum := "7ec67d85a847f395f3864c07106a19990e6cbc0a30aae55edfc3628387635773", func := "unicodetext/unicodetextlaw46.TailorApplies", spec := "tailorApplies", inPlace := ["slices.overlaps[unicodetext/api.Entry]"], unfollowed := true, recurses := true, named := ["unicodetext/ordering.hangulRanges"], plainKeys := false, apart := false, laid := [("unicodetext/ordering.hangulRanges", laid_unicodetext_ordering_hangulRanges)], narrowed := true }
def TailorAppliesUptoSaid : Prop := tailorAppliesUptoRow.holds Tryz.pinned (OpenSpec.upto tailorAppliesSpec)

/-- 'unicodetextlaw46.TailorPlaces', WHERE WHAT IT READS IS OF BULK AT MOST 1048576: true; the input reads as it did. -/
def tailorPlacesUptoRow : OpenClaim := { program := "ytkhmjidaeliccaagreatdoor", sum := "7ec67d85a847f395f3864c07106a19990e6cbc0a30aae55edfc3628387635773", func := "unicodetext/unicodetextlaw46.TailorPlaces", spec := "tailorPlaces", inPlace := ["slices.overlaps[unicodetext/api.Entry]"], unfollowed := true, recurses := true, named := ["unicodetext/ordering.hangulRanges"], plainKeys := false, apart := false, laid := [("unicodetext/ordering.hangulRanges", laid_unicodetext_ordering_hangulRanges)], narrowed := true }
def TailorPlacesUptoSaid : Prop := tailorPlacesUptoRow.holds Tryz.pinned (OpenSpec.upto tailorPlacesSpec)

/-- 'unicodetextlaw46.TailorValid', WHERE WHAT IT READS IS OF BULK AT MOST 1048576: true; the input reads as it did. -/
def tailorValidUptoRow : OpenClaim := { program := "ytkhmjidaeliccaagreatdoor", sum := "7ec67d85a847f395f3864c07106a19990e6cbc0a30aae55edfc3628387635773", func := "unicodetext/unicodetextlaw46.TailorValid", spec := "tailorValid", inPlace := ["slices.overlaps[unicodetext/api.Entry]"], unfollowed := true, recurses := true, named := ["unicodetext/ordering.hangulRanges"], plainKeys := false, apart := false, laid := [("unicodetext/ordering.hangulRanges", laid_unicodetext_ordering_hangulRanges)], narrowed := true }
def TailorValidUptoSaid : Prop := tailorValidUptoRow.holds Tryz.pinned (OpenSpec.upto tailorValidSpec)

/-- 'unicodetextlaw46.TailorKeeps', WHERE WHAT IT READS IS OF BULK AT MOST 1048576: true; the input reads as it did. -/
def tailorKeepsUptoRow : OpenClaim := { program := "ytkhmjidaeliccaagreatdoor", sum := "7ec67d85a847f395f3864c07106a19990e6cbc0a30aae55edfc3628387635773", func := "unicodetext/unicodetextlaw46.TailorKeeps", spec := "tailorKeeps", inPlace := ["slices.overlaps[unicodetext/api.Entry]"], unfollowed := true, recurses := true, named := ["unicodetext/ordering.hangulRanges"], plainKeys := false, apart := false, laid := [("unicodetext/ordering.hangulRanges", laid_unicodetext_ordering_hangulRanges)], narrowed := true }
def TailorKeepsUptoSaid : Prop := tailorKeepsUptoRow.holds Tryz.pinned (OpenSpec.upto tailorKeepsSpec)

/-- 'unicodetextlaw46.TailorGreater', WHERE WHAT IT READS IS OF BULK AT MOST 1048576: true; the input reads as it did. -/
def tailorGreaterUptoRow : OpenClaim := { program := "ytkhmjidaeliccaagreatdoor", sum := "7ec67d85a847f395f3864c07106a19990e6cbc0a30aae55edfc3628387635773", func := "unicodetext/unicodetextlaw46.TailorGreater", spec := "tailorGreater", inPlace := ["slices.overlaps[unicodetext/api.Entry]"], unfollowed := true, recurses := true, named := ["unicodetext/ordering.hangulRanges"], plainKeys := false, apart := false, laid := [("unicodetext/ordering.hangulRanges", laid_unicodetext_ordering_hangulRanges)], narrowed := true }
def TailorGreaterUptoSaid : Prop := tailorGreaterUptoRow.holds Tryz.pinned (OpenSpec.upto tailorGreaterSpec)

/-- 'unicodetextlaw46.TailorTexts', WHERE WHAT IT READS IS OF BULK AT MOST 1048576: true; the input reads as it did. -/
def tailorTextsUptoRow : OpenClaim := { program := "ytkhmjidaeliccaagreatdoor", sum := "7ec67d85a847f395f3864c07106a19990e6cbc0a30aae55edfc3628387635773", func := "unicodetext/unicodetextlaw46.TailorTexts", spec := "tailorTexts", inPlace := ["slices.overlaps[unicodetext/api.Entry]", "internal/abi.NoEscape", "internal/bytealg.MakeNoZero"], unfollowed := true, recurses := true, named := ["unicodetext/ordering.hangulRanges", "unicodetext/codepoint.digits"], plainKeys := false, apart := false, laid := [("unicodetext/codepoint.digits", laid_unicodetext_codepoint_digits), ("unicodetext/ordering.hangulRanges", laid_unicodetext_ordering_hangulRanges)], narrowed := true }
def TailorTextsUptoSaid : Prop := tailorTextsUptoRow.holds Tryz.pinned (OpenSpec.upto tailorTextsSpec)

/-- 'unicodetextlaw46.TailorBack', WHERE WHAT IT READS IS OF BULK AT MOST 1048576: true; the input reads as it did. -/
def tailorBackUptoRow : OpenClaim := { program := "ytkhmjidaeliccaagreatdoor", sum := "7ec67d85a847f395f3864c07106a19990e6cbc0a30aae55edfc3628387635773", func := "unicodetext/unicodetextlaw46.TailorBack", spec := "tailorBack", inPlace := ["slices.overlaps[unicodetext/api.Entry]", "internal/abi.NoEscape", "internal/bytealg.MakeNoZero"], unfollowed := true, recurses := true, named := ["unicodetext/ordering.hangulRanges", "unicodetext/codepoint.digits"], plainKeys := false, apart := false, laid := [("unicodetext/codepoint.digits", laid_unicodetext_codepoint_digits), ("unicodetext/ordering.hangulRanges", laid_unicodetext_ordering_hangulRanges)], narrowed := true }
def TailorBackUptoSaid : Prop := tailorBackUptoRow.holds Tryz.pinned (OpenSpec.upto tailorBackSpec)

end Rows
end Go.Proofs.YtkhmjidaeliccaaGreatDoor
