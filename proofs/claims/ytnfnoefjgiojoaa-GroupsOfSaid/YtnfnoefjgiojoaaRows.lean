/-
  No cell of these rows narrows 'for every input' (looked for: loops, veiled, ifaces, maps, wideKeys, modest, calm, conditions, laid).
  DERIVED. THE GIVEN ROWS OF THIS SEAT. 8 by the template 'for every input the law returns true; each argument reads behind the call as it read before'; 0 by the template 'total and deterministic' (their statements: YtnfnoefjgiojoaaTotals.lean).
  GIVEN WITH THE SEED: the statements are not yours to turn. If you find one false, say at which input.
  Laid BY PROGRAM, IN A SANDBOX (cutbox-rows.mjs): the forced cells as the released guide's own fill.sh prints them over the translation 8a67bf986acd1646… (all of the seat's roots in one cut). By AI agents, Wed Nov 11 2026. No macro, syntax, notation, axiom, sorry.
-/
import Derived.Test.YtnfnoefjgiojoaaChecked
import GoSem.Claim
import GoSem.ClaimJoined
import GoSem.ClaimMapViews
import Derived.JoinedTies
import Derived.KernelRfl
namespace Go.Proofs.Ytnfnoefjgiojoaa
/- THE CELL 'sum', in the pinned program and in every row, IS THE sha256 OF THE DUMP (.gsa) THAT YtnfnoefjgiojoaaProg.lean LOADS. Nothing in Lean hashes anything: it is a label: what it is worth is what the hold of that sum in a sandbox is worth. -/
noncomputable def Try.pinned : Pinned := { name := "ytnfnoefjgiojoaa", sum := "8a67bf986acd1646af100f9e2d5deab5852090c9f7412c896c84e374deb9c7b5", checked := Try.checked }
namespace Rows
def none {H : Type} : Left H := { results := [], args := [] }

/-- 'unicodetextlaw47.GroupsOrders': WHATEVER THE INPUT: true; the input reads as it did. -/
def groupsOrdersSpec : ChangeSpec := { name := "groupsOrders", fn := fun _ => fun
  | [d1, d2] => { results := [.lit (.bool true)], args := [d1, d2] }
  | _ => none }
def groupsOrdersRow : OpenClaim := { program := "ytnfnoefjgiojoaa", sum := "8a67bf986acd1646af100f9e2d5deab5852090c9f7412c896c84e374deb9c7b5", func := "unicodetext/unicodetextlaw47.GroupsOrders", spec := "groupsOrders", unfollowed := true, recurses := true, plainKeys := false, apart := false }
def GroupsOrdersSaid : Prop := groupsOrdersRow.holds Try.pinned (OpenSpec.ofChange groupsOrdersSpec)

/-- ITS FALSE NEIGHBOUR: 'it returns false'. Refute it at one input. -/
def groupsOrdersWrong : ChangeSpec := { name := "groupsOrders", fn := fun _ => fun
  | [d1, d2] => { results := [.lit (.bool false)], args := [d1, d2] }
  | _ => none }
def GroupsOrdersWrongFalsely : Prop := groupsOrdersRow.holds Try.pinned (OpenSpec.ofChange groupsOrdersWrong)

/-- 'unicodetextlaw47.GroupsMoves': WHATEVER THE INPUT: true; the input reads as it did. -/
def groupsMovesSpec : ChangeSpec := { name := "groupsMoves", fn := fun _ => fun
  | [d1, d2, d3] => { results := [.lit (.bool true)], args := [d1, d2, d3] }
  | _ => none }
def groupsMovesRow : OpenClaim := { program := "ytnfnoefjgiojoaa", sum := "8a67bf986acd1646af100f9e2d5deab5852090c9f7412c896c84e374deb9c7b5", func := "unicodetext/unicodetextlaw47.GroupsMoves", spec := "groupsMoves", unfollowed := true, recurses := true, plainKeys := false, apart := false }
def GroupsMovesSaid : Prop := groupsMovesRow.holds Try.pinned (OpenSpec.ofChange groupsMovesSpec)

/-- ITS FALSE NEIGHBOUR: 'it returns false'. Refute it at one input. -/
def groupsMovesWrong : ChangeSpec := { name := "groupsMoves", fn := fun _ => fun
  | [d1, d2, d3] => { results := [.lit (.bool false)], args := [d1, d2, d3] }
  | _ => none }
def GroupsMovesWrongFalsely : Prop := groupsMovesRow.holds Try.pinned (OpenSpec.ofChange groupsMovesWrong)

/-- 'unicodetextlaw47.GroupsFollow': WHATEVER THE INPUT: true; the input reads as it did. -/
def groupsFollowSpec : ChangeSpec := { name := "groupsFollow", fn := fun _ => fun
  | [d1, d2] => { results := [.lit (.bool true)], args := [d1, d2] }
  | _ => none }
def groupsFollowRow : OpenClaim := { program := "ytnfnoefjgiojoaa", sum := "8a67bf986acd1646af100f9e2d5deab5852090c9f7412c896c84e374deb9c7b5", func := "unicodetext/unicodetextlaw47.GroupsFollow", spec := "groupsFollow", unfollowed := true, recurses := true, plainKeys := false, apart := false }
def GroupsFollowSaid : Prop := groupsFollowRow.holds Try.pinned (OpenSpec.ofChange groupsFollowSpec)

/-- ITS FALSE NEIGHBOUR: 'it returns false'. Refute it at one input. -/
def groupsFollowWrong : ChangeSpec := { name := "groupsFollow", fn := fun _ => fun
  | [d1, d2] => { results := [.lit (.bool false)], args := [d1, d2] }
  | _ => none }
def GroupsFollowWrongFalsely : Prop := groupsFollowRow.holds Try.pinned (OpenSpec.ofChange groupsFollowWrong)

/-- 'unicodetextlaw47.GroupsKeeps': WHATEVER THE INPUT: true; the input reads as it did. -/
def groupsKeepsSpec : ChangeSpec := { name := "groupsKeeps", fn := fun _ => fun
  | [d] => { results := [.lit (.bool true)], args := [d] }
  | _ => none }
def groupsKeepsRow : OpenClaim := { program := "ytnfnoefjgiojoaa", sum := "8a67bf986acd1646af100f9e2d5deab5852090c9f7412c896c84e374deb9c7b5", func := "unicodetext/unicodetextlaw47.GroupsKeeps", spec := "groupsKeeps", unfollowed := true, recurses := true, plainKeys := false, apart := false }
def GroupsKeepsSaid : Prop := groupsKeepsRow.holds Try.pinned (OpenSpec.ofChange groupsKeepsSpec)

/-- ITS FALSE NEIGHBOUR: 'it returns false'. Refute it at one input. -/
def groupsKeepsWrong : ChangeSpec := { name := "groupsKeeps", fn := fun _ => fun
  | [d] => { results := [.lit (.bool false)], args := [d] }
  | _ => none }
def GroupsKeepsWrongFalsely : Prop := groupsKeepsRow.holds Try.pinned (OpenSpec.ofChange groupsKeepsWrong)

/-- 'unicodetextlaw47.GroupsApplies': WHATEVER THE INPUT: true; the input reads as it did. -/
def groupsAppliesSpec : ChangeSpec := { name := "groupsApplies", fn := fun _ => fun
  | [d1, d2] => { results := [.lit (.bool true)], args := [d1, d2] }
  | _ => none }
def groupsAppliesRow : OpenClaim := { program := "ytnfnoefjgiojoaa", sum := "8a67bf986acd1646af100f9e2d5deab5852090c9f7412c896c84e374deb9c7b5", func := "unicodetext/unicodetextlaw47.GroupsApplies", spec := "groupsApplies", unfollowed := true, recurses := true, plainKeys := false, apart := false }
def GroupsAppliesSaid : Prop := groupsAppliesRow.holds Try.pinned (OpenSpec.ofChange groupsAppliesSpec)

/-- ITS FALSE NEIGHBOUR: 'it returns false'. Refute it at one input. -/
def groupsAppliesWrong : ChangeSpec := { name := "groupsApplies", fn := fun _ => fun
  | [d1, d2] => { results := [.lit (.bool false)], args := [d1, d2] }
  | _ => none }
def GroupsAppliesWrongFalsely : Prop := groupsAppliesRow.holds Try.pinned (OpenSpec.ofChange groupsAppliesWrong)

/-- 'unicodetextlaw47.GroupsBack': WHATEVER THE INPUT: true; the input reads as it did. -/
def groupsBackSpec : ChangeSpec := { name := "groupsBack", fn := fun _ => fun
  | [d1, d2] => { results := [.lit (.bool true)], args := [d1, d2] }
  | _ => none }
def groupsBackRow : OpenClaim := { program := "ytnfnoefjgiojoaa", sum := "8a67bf986acd1646af100f9e2d5deab5852090c9f7412c896c84e374deb9c7b5", func := "unicodetext/unicodetextlaw47.GroupsBack", spec := "groupsBack", unfollowed := true, recurses := true, plainKeys := false, apart := false }
def GroupsBackSaid : Prop := groupsBackRow.holds Try.pinned (OpenSpec.ofChange groupsBackSpec)

/-- ITS FALSE NEIGHBOUR: 'it returns false'. Refute it at one input. -/
def groupsBackWrong : ChangeSpec := { name := "groupsBack", fn := fun _ => fun
  | [d1, d2] => { results := [.lit (.bool false)], args := [d1, d2] }
  | _ => none }
def GroupsBackWrongFalsely : Prop := groupsBackRow.holds Try.pinned (OpenSpec.ofChange groupsBackWrong)

/-- 'unicodetextlaw47.GroupsElements': WHATEVER THE INPUT: true; the input reads as it did. -/
def groupsElementsSpec : ChangeSpec := { name := "groupsElements", fn := fun _ => fun
  | [d1, d2] => { results := [.lit (.bool true)], args := [d1, d2] }
  | _ => none }
def groupsElementsRow : OpenClaim := { program := "ytnfnoefjgiojoaa", sum := "8a67bf986acd1646af100f9e2d5deab5852090c9f7412c896c84e374deb9c7b5", func := "unicodetext/unicodetextlaw47.GroupsElements", spec := "groupsElements", unfollowed := true, recurses := true, plainKeys := false, apart := false }
def GroupsElementsSaid : Prop := groupsElementsRow.holds Try.pinned (OpenSpec.ofChange groupsElementsSpec)

/-- ITS FALSE NEIGHBOUR: 'it returns false'. Refute it at one input. -/
def groupsElementsWrong : ChangeSpec := { name := "groupsElements", fn := fun _ => fun
  | [d1, d2] => { results := [.lit (.bool false)], args := [d1, d2] }
  | _ => none }
def GroupsElementsWrongFalsely : Prop := groupsElementsRow.holds Try.pinned (OpenSpec.ofChange groupsElementsWrong)

/-- 'unicodetextlaw47.GroupsOf': WHATEVER THE INPUT: true; the input reads as it did. -/
def groupsOfSpec : ChangeSpec := { name := "groupsOf", fn := fun _ => fun
  | [d1, d2] => { results := [.lit (.bool true)], args := [d1, d2] }
  | _ => none }
def groupsOfRow : OpenClaim := { program := "ytnfnoefjgiojoaa", sum := "8a67bf986acd1646af100f9e2d5deab5852090c9f7412c896c84e374deb9c7b5", func := "unicodetext/unicodetextlaw47.GroupsOf", spec := "groupsOf", unfollowed := true, recurses := true, plainKeys := false, apart := false }
def GroupsOfSaid : Prop := groupsOfRow.holds Try.pinned (OpenSpec.ofChange groupsOfSpec)

/-- ITS FALSE NEIGHBOUR: 'it returns false'. Refute it at one input. -/
def groupsOfWrong : ChangeSpec := { name := "groupsOf", fn := fun _ => fun
  | [d1, d2] => { results := [.lit (.bool false)], args := [d1, d2] }
  | _ => none }
def GroupsOfWrongFalsely : Prop := groupsOfRow.holds Try.pinned (OpenSpec.ofChange groupsOfWrong)

/- THE SECOND FORM. 'bulk': how many values and letters a reading holds, each counted each time it is reached (what is shared counts as often as it is met; a slice's spare places count too). A statement '..UptoSaid' is the law's where the arguments, and the package variables that the reading takes, are together of bulk at most 1048576: NARROWER than '..Said'. Prove '..Said' where nothing that the law and all that it calls make is longer than what came in: it says more and counts as full. Else prove '..UptoSaid'. A law counts once. -/
mutual
def uptoBulk {H : Type} : DataW H → Nat
  | .lit (.string bytes) => bytes.length + 1
  | .lit _ => 1
  | .nil => 1
  | .ptr d => uptoBulk d + 1
  | .slice elems spare => uptoBulkAll elems + uptoBulkAll spare + 1
  | .agg parts => uptoBulkAll parts + 1
  | .iface _ d => uptoBulk d + 1
  | .map entries => uptoBulkEntries entries + 1
  | .held _ => 1
def uptoBulkAll {H : Type} : List (DataW H) → Nat
  | [] => 0
  | d :: r => uptoBulk d + uptoBulkAll r
def uptoBulkEntries {H : Type} : List (Lit × DataW H) → Nat
  | [] => 0
  | x :: r => uptoBulkEntry x + uptoBulkEntries r
def uptoBulkEntry {H : Type} : Lit × DataW H → Nat
  | (.string bytes, d) => bytes.length + uptoBulk d + 1
  | (_, d) => uptoBulk d + 1
 end
def uptoSmall : (H : Type) → List (DataW H) → Bool := fun _ ds => decide (uptoBulkAll ds ≤ 1048576)
def OpenSpec.upto (s : _root_.Go.ChangeSpec) : _root_.Go.OpenSpec := { _root_.Go.OpenSpec.ofChange s with cond := some uptoSmall }

/-- 'unicodetextlaw47.GroupsOrders', WHERE WHAT IT READS IS OF BULK AT MOST 1048576: true; the input reads as it did. -/
def groupsOrdersUptoRow : OpenClaim := { program := "ytnfnoefjgiojoaa", sum := "8a67bf986acd1646af100f9e2d5deab5852090c9f7412c896c84e374deb9c7b5", func := "unicodetext/unicodetextlaw47.GroupsOrders", spec := "groupsOrders", unfollowed := true, recurses := true, plainKeys := false, apart := false, narrowed := true }
def GroupsOrdersUptoSaid : Prop := groupsOrdersUptoRow.holds Try.pinned (OpenSpec.upto groupsOrdersSpec)

/-- 'unicodetextlaw47.GroupsMoves', WHERE WHAT IT READS IS OF BULK AT MOST 1048576: true; the input reads as it did. -/
def groupsMovesUptoRow : OpenClaim := { program := "ytnfnoefjgiojoaa", sum := "8a67bf986acd1646af100f9e2d5deab5852090c9f7412c896c84e374deb9c7b5", func := "unicodetext/unicodetextlaw47.GroupsMoves", spec := "groupsMoves", unfollowed := true, recurses := true, plainKeys := false, apart := false, narrowed := true }
def GroupsMovesUptoSaid : Prop := groupsMovesUptoRow.holds Try.pinned (OpenSpec.upto groupsMovesSpec)

/-- 'unicodetextlaw47.GroupsFollow', WHERE WHAT IT READS IS OF BULK AT MOST 1048576: true; the input reads as it did. -/
def groupsFollowUptoRow : OpenClaim := { program := "ytnfnoefjgiojoaa", sum := "8a67bf986acd1646af100f9e2d5deab5852090c9f7412c896c84e374deb9c7b5", func := "unicodetext/unicodetextlaw47.GroupsFollow", spec := "groupsFollow", unfollowed := true, recurses := true, plainKeys := false, apart := false, narrowed := true }
def GroupsFollowUptoSaid : Prop := groupsFollowUptoRow.holds Try.pinned (OpenSpec.upto groupsFollowSpec)

/-- 'unicodetextlaw47.GroupsKeeps', WHERE WHAT IT READS IS OF BULK AT MOST 1048576: true; the input reads as it did. -/
def groupsKeepsUptoRow : OpenClaim := { program := "ytnfnoefjgiojoaa", sum := "8a67bf986acd1646af100f9e2d5deab5852090c9f7412c896c84e374deb9c7b5", func := "unicodetext/unicodetextlaw47.GroupsKeeps", spec := "groupsKeeps", unfollowed := true, recurses := true, plainKeys := false, apart := false, narrowed := true }
def GroupsKeepsUptoSaid : Prop := groupsKeepsUptoRow.holds Try.pinned (OpenSpec.upto groupsKeepsSpec)

/-- 'unicodetextlaw47.GroupsApplies', WHERE WHAT IT READS IS OF BULK AT MOST 1048576: true; the input reads as it did. -/
def groupsAppliesUptoRow : OpenClaim := { program := "ytnfnoefjgiojoaa", sum := "8a67bf986acd1646af100f9e2d5deab5852090c9f7412c896c84e374deb9c7b5", func := "unicodetext/unicodetextlaw47.GroupsApplies", spec := "groupsApplies", unfollowed := true, recurses := true, plainKeys := false, apart := false, narrowed := true }
def GroupsAppliesUptoSaid : Prop := groupsAppliesUptoRow.holds Try.pinned (OpenSpec.upto groupsAppliesSpec)

/-- 'unicodetextlaw47.GroupsBack', WHERE WHAT IT READS IS OF BULK AT MOST 1048576: true; the input reads as it did. -/
def groupsBackUptoRow : OpenClaim := { program := "ytnfnoefjgiojoaa", sum := "8a67bf986acd1646af100f9e2d5deab5852090c9f7412c896c84e374deb9c7b5", func := "unicodetext/unicodetextlaw47.GroupsBack", spec := "groupsBack", unfollowed := true, recurses := true, plainKeys := false, apart := false, narrowed := true }
def GroupsBackUptoSaid : Prop := groupsBackUptoRow.holds Try.pinned (OpenSpec.upto groupsBackSpec)

/-- 'unicodetextlaw47.GroupsElements', WHERE WHAT IT READS IS OF BULK AT MOST 1048576: true; the input reads as it did. -/
def groupsElementsUptoRow : OpenClaim := { program := "ytnfnoefjgiojoaa", sum := "8a67bf986acd1646af100f9e2d5deab5852090c9f7412c896c84e374deb9c7b5", func := "unicodetext/unicodetextlaw47.GroupsElements", spec := "groupsElements", unfollowed := true, recurses := true, plainKeys := false, apart := false, narrowed := true }
def GroupsElementsUptoSaid : Prop := groupsElementsUptoRow.holds Try.pinned (OpenSpec.upto groupsElementsSpec)

/-- 'unicodetextlaw47.GroupsOf', WHERE WHAT IT READS IS OF BULK AT MOST 1048576: true; the input reads as it did. -/
def groupsOfUptoRow : OpenClaim := { program := "ytnfnoefjgiojoaa", sum := "8a67bf986acd1646af100f9e2d5deab5852090c9f7412c896c84e374deb9c7b5", func := "unicodetext/unicodetextlaw47.GroupsOf", spec := "groupsOf", unfollowed := true, recurses := true, plainKeys := false, apart := false, narrowed := true }
def GroupsOfUptoSaid : Prop := groupsOfUptoRow.holds Try.pinned (OpenSpec.upto groupsOfSpec)

end Rows
end Go.Proofs.Ytnfnoefjgiojoaa
