/- The names of the groups of a text. Plain. -/
import Derived.Test.YtnfnoefjgiojoaaTabPlain
import Derived.Test.YtnfnoefjgiojoaaMovPlain
namespace Go.Proofs.Ytnfnoefjgiojoaa
open Go.RowKit

/-- the elements of one code -/
def elsOf (c : Col) (z : Int) : List Elt := (lastE c.ents [z]).getD []
/-- the names of the groups of elements -/
def grpN (c : Col) (es : List Elt) : List ByteArray := es.filterMap (fun e => (conG c.grps e.p).map Grp.name)
def usedN (c : Col) (text : List Int) : List ByteArray := text.flatMap (fun z => grpN c (elsOf c z))
/-- the names that are among l, in order -/
def pickN (gs : List Grp) (p : Grp → Bool) : List ByteArray := (gs.filter p).map Grp.name
def ofN (c : Col) (text : List Int) : List ByteArray := if colErr c = 0 then pickN c.grps (fun g => decide (g.name ∈ usedN c text)) else []
def wgh (c : Col) (g : Grp) (text : List Int) : Bool := text.any (fun z => ((firstE c.ents [z]).getD []).any (fun e => inR g.lo g.hi e.p))
def refN (c : Col) (text : List Int) : List ByteArray := if colErr c = 0 then pickN c.grps (fun g => wgh c g text) else []

theorem usedN_take {c : Col} {text : List Int} {i : Nat} (hi : i < text.length) : usedN c (text.take (i + 1)) = usedN c (text.take i) ++ grpN c (elsOf c text[i]) := by
  unfold usedN
  rw [List.take_succ_eq_append_getElem hi, List.flatMap_append]
  simp
theorem grpN_take {c : Col} {es : List Elt} {i : Nat} (hi : i < es.length) : grpN c (es.take (i + 1)) = grpN c (es.take i) ++ (match conG c.grps es[i].p with | some g => [g.name] | none => []) := by
  unfold grpN
  rw [List.take_succ_eq_append_getElem hi, List.filterMap_append]
  cases h : conG c.grps es[i].p <;> simp [h]
theorem pickN_take {gs : List Grp} {p : Grp → Bool} {i : Nat} (hi : i < gs.length) : pickN (gs.take (i + 1)) p = pickN (gs.take i) p ++ (if p gs[i] = true then [gs[i].name] else []) := by
  unfold pickN
  rw [List.take_succ_eq_append_getElem hi, List.filter_append]
  by_cases h : p gs[i] = true <;> simp [h]

theorem name_one : ∀ {gs : List Grp}, (gs.map Grp.name).Nodup → ∀ {g k : Grp}, g ∈ gs → k ∈ gs → g.name = k.name → g = k
  | [], _, _, _, h, _, _ => by cases h
  | y :: r, hn, g, k, hg, hk, e => by
    obtain ⟨n1, n2⟩ := List.nodup_cons.1 hn
    rcases List.mem_cons.1 hg with e1 | hg'
    · rcases List.mem_cons.1 hk with e2 | hk'
      · rw [e1, e2]
      · exact absurd (List.mem_map.2 ⟨k, hk', by rw [← e, e1]⟩) n1
    · rcases List.mem_cons.1 hk with e2 | hk'
      · exact absurd (List.mem_map.2 ⟨g, hg', by rw [e, e2]⟩) n1
      · exact name_one n2 hg' hk' e
theorem con_iff {c : Col} (h : colErr c = 0) {g : Grp} (hg : g ∈ c.grps) {x : Int} : (∃ k, conG c.grps x = some k ∧ k.name = g.name) ↔ inR g.lo g.hi x = true := by
  obtain ⟨hn, _, hl, hgap⟩ := grp_facts (col_grps h).1
  have hap := gap_apart (fun g hg => (hl g hg).2.1) hgap
  constructor
  · rintro ⟨k, h1, h2⟩
    obtain ⟨hk, h3, h4⟩ := conG_mem h1
    have : k = g := by
      exact name_one hn hk hg h2
    subst this
    exact inR_true h3 h4
  · intro h1
    cases hc : conG c.grps x with
    | none =>
      unfold conG at hc
      rw [List.find?_eq_none] at hc
      exact absurd h1 (hc g hg)
    | some k =>
      obtain ⟨hk, h3, h4⟩ := conG_mem hc
      exact ⟨k, rfl, by rw [apart_one hap hk hg (inR_true h3 h4) h1]⟩
theorem of_ref (c : Col) (text : List Int) : ofN c text = refN c text := by
  unfold ofN refN
  by_cases h : colErr c = 0
  · rw [if_pos h, if_pos h]
    unfold pickN
    congr 1
    apply List.filter_congr
    intro g hg
    rw [Bool.eq_iff_iff]
    simp only [decide_eq_true_eq, usedN, wgh, List.mem_flatMap, List.any_eq_true, grpN, List.mem_filterMap, Option.map_eq_some_iff]
    constructor
    · rintro ⟨z, hz, e, he, k, h1, h2⟩
      refine ⟨z, hz, e, ?_, (con_iff h hg).1 ⟨k, h1, h2⟩⟩
      rw [← last_first h]
      exact he
    · rintro ⟨z, hz, e, he, h1⟩
      obtain ⟨k, h2, h3⟩ := (con_iff h hg).2 h1
      refine ⟨z, hz, e, ?_, k, h2, h3⟩
      rw [← last_first h] at he
      exact he
  · rw [if_neg h, if_neg h]
end Go.Proofs.Ytnfnoefjgiojoaa
