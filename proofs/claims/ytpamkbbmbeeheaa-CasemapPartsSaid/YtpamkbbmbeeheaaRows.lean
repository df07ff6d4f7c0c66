/-
  No cell of these rows narrows 'for every input' (looked for: loops, veiled, ifaces, maps, wideKeys, modest, calm, conditions, laid).
  DERIVED. THE GIVEN ROWS OF THIS SEAT. 9 by the template 'for every input the law returns true; each argument reads behind the call as it read before'; 0 by the template 'total and deterministic' (their statements: YtpamkbbmbeeheaaTotals.lean).
  GIVEN WITH THE SEED: the statements are not yours to turn. If you find one false, say at which input.
  Laid BY PROGRAM, IN A SANDBOX (cutbox-rows.mjs): the forced cells as the released guide's own fill.sh prints them over the translation 73309d932c4080f0… (all of the seat's roots in one cut). By AI agents, Wed Nov 11 2026. No macro, syntax, notation, axiom, sorry.
-/
import Derived.Test.YtpamkbbmbeeheaaChecked
import GoSem.Claim
import GoSem.ClaimJoined
import GoSem.ClaimMapViews
import Derived.JoinedTies
import Derived.KernelRfl
namespace Go.Proofs.Ytpamkbbmbeeheaa
/- THE CELL 'sum', in the pinned program and in every row, IS THE sha256 OF THE DUMP (.gsa) THAT YtpamkbbmbeeheaaProg.lean LOADS. Nothing in Lean hashes anything: it is a label: what it is worth is what the hold of that sum in a sandbox is worth. -/
noncomputable def Try.pinned : Pinned := { name := "ytpamkbbmbeeheaa", sum := "73309d932c4080f0b4118880034cf0db27cb22a7b4b6c3af79f88a9f790d7223", checked := Try.checked }
namespace Rows
def none {H : Type} : Left H := { results := [], args := [] }

/-- 'unicodetextlaw37.CasemapChecks': WHATEVER THE INPUT: true; the input reads as it did. -/
def casemapChecksSpec : ChangeSpec := { name := "casemapChecks", fn := fun _ => fun
  | [d] => { results := [.lit (.bool true)], args := [d] }
  | _ => none }
def casemapChecksRow : OpenClaim := { program := "ytpamkbbmbeeheaa", sum := "73309d932c4080f0b4118880034cf0db27cb22a7b4b6c3af79f88a9f790d7223", func := "unicodetext/unicodetextlaw37.CasemapChecks", spec := "casemapChecks", unfollowed := true, recurses := true, plainKeys := false, apart := false }
def CasemapChecksSaid : Prop := casemapChecksRow.holds Try.pinned (OpenSpec.ofChange casemapChecksSpec)

/-- ITS FALSE NEIGHBOUR: 'it returns false'. Refute it at one input. -/
def casemapChecksWrong : ChangeSpec := { name := "casemapChecks", fn := fun _ => fun
  | [d] => { results := [.lit (.bool false)], args := [d] }
  | _ => none }
def CasemapChecksWrongFalsely : Prop := casemapChecksRow.holds Try.pinned (OpenSpec.ofChange casemapChecksWrong)

/-- 'unicodetextlaw37.CasemapFinals': WHATEVER THE INPUT: true; the input reads as it did. -/
def casemapFinalsSpec : ChangeSpec := { name := "casemapFinals", fn := fun _ => fun
  | [d1, d2, d3] => { results := [.lit (.bool true)], args := [d1, d2, d3] }
  | _ => none }
def casemapFinalsRow : OpenClaim := { program := "ytpamkbbmbeeheaa", sum := "73309d932c4080f0b4118880034cf0db27cb22a7b4b6c3af79f88a9f790d7223", func := "unicodetext/unicodetextlaw37.CasemapFinals", spec := "casemapFinals", unfollowed := true, recurses := true, plainKeys := false, apart := false }
def CasemapFinalsSaid : Prop := casemapFinalsRow.holds Try.pinned (OpenSpec.ofChange casemapFinalsSpec)

/-- ITS FALSE NEIGHBOUR: 'it returns false'. Refute it at one input. -/
def casemapFinalsWrong : ChangeSpec := { name := "casemapFinals", fn := fun _ => fun
  | [d1, d2, d3] => { results := [.lit (.bool false)], args := [d1, d2, d3] }
  | _ => none }
def CasemapFinalsWrongFalsely : Prop := casemapFinalsRow.holds Try.pinned (OpenSpec.ofChange casemapFinalsWrong)

/-- 'unicodetextlaw37.CasemapTexts': WHATEVER THE INPUT: true; the input reads as it did. -/
def casemapTextsSpec : ChangeSpec := { name := "casemapTexts", fn := fun _ => fun
  | [d1, d2] => { results := [.lit (.bool true)], args := [d1, d2] }
  | _ => none }
def casemapTextsRow : OpenClaim := { program := "ytpamkbbmbeeheaa", sum := "73309d932c4080f0b4118880034cf0db27cb22a7b4b6c3af79f88a9f790d7223", func := "unicodetext/unicodetextlaw37.CasemapTexts", spec := "casemapTexts", unfollowed := true, recurses := true, plainKeys := false, apart := false }
def CasemapTextsSaid : Prop := casemapTextsRow.holds Try.pinned (OpenSpec.ofChange casemapTextsSpec)

/-- ITS FALSE NEIGHBOUR: 'it returns false'. Refute it at one input. -/
def casemapTextsWrong : ChangeSpec := { name := "casemapTexts", fn := fun _ => fun
  | [d1, d2] => { results := [.lit (.bool false)], args := [d1, d2] }
  | _ => none }
def CasemapTextsWrongFalsely : Prop := casemapTextsRow.holds Try.pinned (OpenSpec.ofChange casemapTextsWrong)

/-- 'unicodetextlaw37.CasemapJoins': WHATEVER THE INPUT: true; the input reads as it did. -/
def casemapJoinsSpec : ChangeSpec := { name := "casemapJoins", fn := fun _ => fun
  | [d1, d2, d3] => { results := [.lit (.bool true)], args := [d1, d2, d3] }
  | _ => none }
def casemapJoinsRow : OpenClaim := { program := "ytpamkbbmbeeheaa", sum := "73309d932c4080f0b4118880034cf0db27cb22a7b4b6c3af79f88a9f790d7223", func := "unicodetext/unicodetextlaw37.CasemapJoins", spec := "casemapJoins", unfollowed := true, recurses := true, plainKeys := false, apart := false }
def CasemapJoinsSaid : Prop := casemapJoinsRow.holds Try.pinned (OpenSpec.ofChange casemapJoinsSpec)

/-- ITS FALSE NEIGHBOUR: 'it returns false'. Refute it at one input. -/
def casemapJoinsWrong : ChangeSpec := { name := "casemapJoins", fn := fun _ => fun
  | [d1, d2, d3] => { results := [.lit (.bool false)], args := [d1, d2, d3] }
  | _ => none }
def CasemapJoinsWrongFalsely : Prop := casemapJoinsRow.holds Try.pinned (OpenSpec.ofChange casemapJoinsWrong)

/-- 'unicodetextlaw37.CasemapSimples': WHATEVER THE INPUT: true; the input reads as it did. -/
def casemapSimplesSpec : ChangeSpec := { name := "casemapSimples", fn := fun _ => fun
  | [d1, d2] => { results := [.lit (.bool true)], args := [d1, d2] }
  | _ => none }
def casemapSimplesRow : OpenClaim := { program := "ytpamkbbmbeeheaa", sum := "73309d932c4080f0b4118880034cf0db27cb22a7b4b6c3af79f88a9f790d7223", func := "unicodetext/unicodetextlaw37.CasemapSimples", spec := "casemapSimples", unfollowed := true, recurses := true, plainKeys := false, apart := false }
def CasemapSimplesSaid : Prop := casemapSimplesRow.holds Try.pinned (OpenSpec.ofChange casemapSimplesSpec)

/-- ITS FALSE NEIGHBOUR: 'it returns false'. Refute it at one input. -/
def casemapSimplesWrong : ChangeSpec := { name := "casemapSimples", fn := fun _ => fun
  | [d1, d2] => { results := [.lit (.bool false)], args := [d1, d2] }
  | _ => none }
def CasemapSimplesWrongFalsely : Prop := casemapSimplesRow.holds Try.pinned (OpenSpec.ofChange casemapSimplesWrong)

/-- 'unicodetextlaw37.CasemapTitles': WHATEVER THE INPUT: true; the input reads as it did. -/
def casemapTitlesSpec : ChangeSpec := { name := "casemapTitles", fn := fun _ => fun
  | [d1, d2, d3] => { results := [.lit (.bool true)], args := [d1, d2, d3] }
  | _ => none }
def casemapTitlesRow : OpenClaim := { program := "ytpamkbbmbeeheaa", sum := "73309d932c4080f0b4118880034cf0db27cb22a7b4b6c3af79f88a9f790d7223", func := "unicodetext/unicodetextlaw37.CasemapTitles", spec := "casemapTitles", unfollowed := true, recurses := true, plainKeys := false, apart := false }
def CasemapTitlesSaid : Prop := casemapTitlesRow.holds Try.pinned (OpenSpec.ofChange casemapTitlesSpec)

/-- ITS FALSE NEIGHBOUR: 'it returns false'. Refute it at one input. -/
def casemapTitlesWrong : ChangeSpec := { name := "casemapTitles", fn := fun _ => fun
  | [d1, d2, d3] => { results := [.lit (.bool false)], args := [d1, d2, d3] }
  | _ => none }
def CasemapTitlesWrongFalsely : Prop := casemapTitlesRow.holds Try.pinned (OpenSpec.ofChange casemapTitlesWrong)

/-- 'unicodetextlaw37.CasemapUncased': WHATEVER THE INPUT: true; the input reads as it did. -/
def casemapUncasedSpec : ChangeSpec := { name := "casemapUncased", fn := fun _ => fun
  | [d1, d2, d3] => { results := [.lit (.bool true)], args := [d1, d2, d3] }
  | _ => none }
def casemapUncasedRow : OpenClaim := { program := "ytpamkbbmbeeheaa", sum := "73309d932c4080f0b4118880034cf0db27cb22a7b4b6c3af79f88a9f790d7223", func := "unicodetext/unicodetextlaw37.CasemapUncased", spec := "casemapUncased", unfollowed := true, recurses := true, plainKeys := false, apart := false }
def CasemapUncasedSaid : Prop := casemapUncasedRow.holds Try.pinned (OpenSpec.ofChange casemapUncasedSpec)

/-- ITS FALSE NEIGHBOUR: 'it returns false'. Refute it at one input. -/
def casemapUncasedWrong : ChangeSpec := { name := "casemapUncased", fn := fun _ => fun
  | [d1, d2, d3] => { results := [.lit (.bool false)], args := [d1, d2, d3] }
  | _ => none }
def CasemapUncasedWrongFalsely : Prop := casemapUncasedRow.holds Try.pinned (OpenSpec.ofChange casemapUncasedWrong)

/-- 'unicodetextlaw37.CasemapParts': WHATEVER THE INPUT: true; the input reads as it did. -/
def casemapPartsSpec : ChangeSpec := { name := "casemapParts", fn := fun _ => fun
  | [d1, d2, d3] => { results := [.lit (.bool true)], args := [d1, d2, d3] }
  | _ => none }
def casemapPartsRow : OpenClaim := { program := "ytpamkbbmbeeheaa", sum := "73309d932c4080f0b4118880034cf0db27cb22a7b4b6c3af79f88a9f790d7223", func := "unicodetext/unicodetextlaw37.CasemapParts", spec := "casemapParts", unfollowed := true, recurses := true, plainKeys := false, apart := false }
def CasemapPartsSaid : Prop := casemapPartsRow.holds Try.pinned (OpenSpec.ofChange casemapPartsSpec)

/-- ITS FALSE NEIGHBOUR: 'it returns false'. Refute it at one input. -/
def casemapPartsWrong : ChangeSpec := { name := "casemapParts", fn := fun _ => fun
  | [d1, d2, d3] => { results := [.lit (.bool false)], args := [d1, d2, d3] }
  | _ => none }
def CasemapPartsWrongFalsely : Prop := casemapPartsRow.holds Try.pinned (OpenSpec.ofChange casemapPartsWrong)

/-- 'unicodetextlaw37.CasemapRefuses': WHATEVER THE INPUT: true; the input reads as it did. -/
def casemapRefusesSpec : ChangeSpec := { name := "casemapRefuses", fn := fun _ => fun
  | [d1, d2] => { results := [.lit (.bool true)], args := [d1, d2] }
  | _ => none }
def casemapRefusesRow : OpenClaim := { program := "ytpamkbbmbeeheaa", sum := "73309d932c4080f0b4118880034cf0db27cb22a7b4b6c3af79f88a9f790d7223", func := "unicodetext/unicodetextlaw37.CasemapRefuses", spec := "casemapRefuses", unfollowed := true, recurses := true, plainKeys := false, apart := false }
def CasemapRefusesSaid : Prop := casemapRefusesRow.holds Try.pinned (OpenSpec.ofChange casemapRefusesSpec)

/-- ITS FALSE NEIGHBOUR: 'it returns false'. Refute it at one input. -/
def casemapRefusesWrong : ChangeSpec := { name := "casemapRefuses", fn := fun _ => fun
  | [d1, d2] => { results := [.lit (.bool false)], args := [d1, d2] }
  | _ => none }
def CasemapRefusesWrongFalsely : Prop := casemapRefusesRow.holds Try.pinned (OpenSpec.ofChange casemapRefusesWrong)

/- THE SECOND FORM. 'bulk': how many values and letters a reading holds, each counted each time it is reached (what is shared counts as often as it is met; a slice's spare places count too). A statement '..UptoSaid' is the law's where the arguments, and the package variables that the reading takes, are together of bulk at most 1048576: NARROWER than '..Said'. Prove '..Said' where nothing that the law and all that it calls make is longer than what came in: it says more and counts as full. Else prove '..UptoSaid'. A law counts once. -/
mutual
def uptoBulk {H : Type} : DataW H → Nat
  | .lit (.string bytes) => bytes.length + 1
  | .lit _ => 1
  | .nil => 1
  | .ptr d => uptoBulk d + 1
  | .slice elems spare => uptoBulkAll elems + uptoBulkAll spare + 1
  | .agg parts => uptoBulkAll parts + 1
  | .iface _ d => uptoBulk d + 1
  | .map entries => uptoBulkEntries entries + 1
  | .held _ => 1
def uptoBulkAll {H : Type} : List (DataW H) → Nat
  | [] => 0
  | d :: r => uptoBulk d + uptoBulkAll r
def uptoBulkEntries {H : Type} : List (Lit × DataW H) → Nat
  | [] => 0
  | x :: r => uptoBulkEntry x + uptoBulkEntries r
def uptoBulkEntry {H : Type} : Lit × DataW H → Nat
  | (.string bytes, d) => bytes.length + uptoBulk d + 1
  | (_, d) => uptoBulk d + 1
 end
def uptoSmall : (H : Type) → List (DataW H) → Bool := fun _ ds => decide (uptoBulkAll ds ≤ 1048576)
def OpenSpec.upto (s : _root_.Go.ChangeSpec) : _root_.Go.OpenSpec := { _root_.Go.OpenSpec.ofChange s with cond := some uptoSmall }

/-- 'unicodetextlaw37.CasemapChecks', WHERE WHAT IT READS IS OF BULK AT MOST 1048576: true; the input reads as it did. -/
def casemapChecksUptoRow : OpenClaim := { program := "ytpamkbbmbeeheaa", sum := "73309d932c4080f0b4118880034cf0db27cb22a7b4b6c3af79f88a9f790d7223", func := "unicodetext/unicodetextlaw37.CasemapChecks", spec := "casemapChecks", unfollowed := true, recurses := true, plainKeys := false, apart := false, narrowed := true }
def CasemapChecksUptoSaid : Prop := casemapChecksUptoRow.holds Try.pinned (OpenSpec.upto casemapChecksSpec)

/-- 'unicodetextlaw37.CasemapFinals', WHERE WHAT IT READS IS OF BULK AT MOST 1048576: true; the input reads as it did. -/
def casemapFinalsUptoRow : OpenClaim := { program := "ytpamkbbmbeeheaa", sum := "73309d932c4080f0b4118880034cf0db27cb22a7b4b6c3af79f88a9f790d7223", func := "unicodetext/unicodetextlaw37.CasemapFinals", spec := "casemapFinals", unfollowed := true, recurses := true, plainKeys := false, apart := false, narrowed := true }
def CasemapFinalsUptoSaid : Prop := casemapFinalsUptoRow.holds Try.pinned (OpenSpec.upto casemapFinalsSpec)

/-- 'unicodetextlaw37.CasemapTexts', WHERE WHAT IT READS IS OF BULK AT MOST 1048576: true; the input reads as it did. -/
def casemapTextsUptoRow : OpenClaim := { program := "ytpamkbbmbeeheaa", sum := "73309d932c4080f0b4118880034cf0db27cb22a7b4b6c3af79f88a9f790d7223", func := "unicodetext/unicodetextlaw37.CasemapTexts", spec := "casemapTexts", unfollowed := true, recurses := true, plainKeys := false, apart := false, narrowed := true }
def CasemapTextsUptoSaid : Prop := casemapTextsUptoRow.holds Try.pinned (OpenSpec.upto casemapTextsSpec)

/-- 'unicodetextlaw37.CasemapJoins', WHERE WHAT IT READS IS OF BULK AT MOST 1048576: true; the input reads as it did. -/
def casemapJoinsUptoRow : OpenClaim := { program := "ytpamkbbmbeeheaa", sum := "73309d932c4080f0b4118880034cf0db27cb22a7b4b6c3af79f88a9f790d7223", func := "unicodetext/unicodetextlaw37.CasemapJoins", spec := "casemapJoins", unfollowed := true, recurses := true, plainKeys := false, apart := false, narrowed := true }
def CasemapJoinsUptoSaid : Prop := casemapJoinsUptoRow.holds Try.pinned (OpenSpec.upto casemapJoinsSpec)

/-- 'unicodetextlaw37.CasemapSimples', WHERE WHAT IT READS IS OF BULK AT MOST 1048576: true; the input reads as it did. -/
def casemapSimplesUptoRow : OpenClaim := { program := "ytpamkbbmbeeheaa", sum := "73309d932c4080f0b4118880034cf0db27cb22a7b4b6c3af79f88a9f790d7223", func := "unicodetext/unicodetextlaw37.CasemapSimples", spec := "casemapSimples", unfollowed := true, recurses := true, plainKeys := false, apart := false, narrowed := true }
def CasemapSimplesUptoSaid : Prop := casemapSimplesUptoRow.holds Try.pinned (OpenSpec.upto casemapSimplesSpec)

/-- 'unicodetextlaw37.CasemapTitles', WHERE WHAT IT READS IS OF BULK AT MOST 1048576: true; the input reads as it did. -/
def casemapTitlesUptoRow : OpenClaim := { program := "ytpamkbbmbeeheaa", sum := "73309d932c4080f0b4118880034cf0db27cb22a7b4b6c3af79f88a9f790d7223", func := "unicodetext/unicodetextlaw37.CasemapTitles", spec := "casemapTitles", unfollowed := true, recurses := true, plainKeys := false, apart := false, narrowed := true }
def CasemapTitlesUptoSaid : Prop := casemapTitlesUptoRow.holds Try.pinned (OpenSpec.upto casemapTitlesSpec)

/-- 'unicodetextlaw37.CasemapUncased', WHERE WHAT IT READS IS OF BULK AT MOST 1048576: true; the input reads as it did. -/
def casemapUncasedUptoRow : OpenClaim := { program := "ytpamkbbmbeeheaa", sum := "73309d932c4080f0b4118880034cf0db27cb22a7b4b6c3af79f88a9f790d7223", func := "unicodetext/unicodetextlaw37.CasemapUncased", spec := "casemapUncased", unfollowed := true, recurses := true, plainKeys := false, apart := false, narrowed := true }
def CasemapUncasedUptoSaid : Prop := casemapUncasedUptoRow.holds Try.pinned (OpenSpec.upto casemapUncasedSpec)

/-- 'unicodetextlaw37.CasemapParts', WHERE WHAT IT READS IS OF BULK AT MOST 1048576: true; the input reads as it did. -/
def casemapPartsUptoRow : OpenClaim := { program := "ytpamkbbmbeeheaa", sum := "73309d932c4080f0b4118880034cf0db27cb22a7b4b6c3af79f88a9f790d7223", func := "unicodetext/unicodetextlaw37.CasemapParts", spec := "casemapParts", unfollowed := true, recurses := true, plainKeys := false, apart := false, narrowed := true }
def CasemapPartsUptoSaid : Prop := casemapPartsUptoRow.holds Try.pinned (OpenSpec.upto casemapPartsSpec)

/-- 'unicodetextlaw37.CasemapRefuses', WHERE WHAT IT READS IS OF BULK AT MOST 1048576: true; the input reads as it did. -/
def casemapRefusesUptoRow : OpenClaim := { program := "ytpamkbbmbeeheaa", sum := "73309d932c4080f0b4118880034cf0db27cb22a7b4b6c3af79f88a9f790d7223", func := "unicodetext/unicodetextlaw37.CasemapRefuses", spec := "casemapRefuses", unfollowed := true, recurses := true, plainKeys := false, apart := false, narrowed := true }
def CasemapRefusesUptoSaid : Prop := casemapRefusesUptoRow.holds Try.pinned (OpenSpec.upto casemapRefusesSpec)

end Rows
end Go.Proofs.Ytpamkbbmbeeheaa
