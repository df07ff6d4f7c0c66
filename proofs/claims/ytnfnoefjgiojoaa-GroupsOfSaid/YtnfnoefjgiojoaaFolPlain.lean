/- The groups in their new order follow each other; weights keep what they were. Plain. -/
import Derived.Test.YtnfnoefjgiojoaaMove2
namespace Go.Proofs.Ytnfnoefjgiojoaa
open Go.RowKit

theorem relo_get (lo : Int) (l : List Grp) (i : Nat) (hi : i < l.length) (h : i < (relo lo l).length) : (relo lo l)[i] = ⟨l[i].name, nextLo lo (l.take i), nextLo lo (l.take i) + l[i].hi - l[i].lo⟩ := by
  induction l generalizing lo i with
  | nil => simp at hi
  | cons g r ih =>
    cases i with
    | zero => rfl
    | succ i =>
      simp only [relo, List.getElem_cons_succ, List.take_succ_cons, nextLo]
      exact ih _ i (by simpa using hi) _

section
variable {gs : List Grp} {names : List ByteArray}
theorem OrdF.nlen (h : OrdF gs names) : names.length ≤ gs.length := by
  have h1 := raw_len h.nd h.nn h.sub
  unfold ordRaw at h1
  rw [List.length_append, List.length_map] at h1
  omega
theorem OrdF.lo0' (_h : OrdF gs names) (h0 : 0 < (ordG gs names).length) (h1 : 0 < gs.length) : (ordG gs names)[0].lo = gs[0].lo := by
  unfold ordG at h0 ⊢
  have h2 : 0 < (ordRaw gs names).length := by rw [relo_len] at h0; exact h0
  rw [relo_get _ _ 0 h2, firstLo_get h1]
  rfl
theorem OrdF.next (_h : OrdF gs names) {i : Nat} (hi : i + 1 < (ordG gs names).length) : (ordG gs names)[i + 1].lo = (ordG gs names)[i].hi + 1 := by
  unfold ordG at hi ⊢
  have h2 : i + 1 < (ordRaw gs names).length := by rw [relo_len] at hi; exact hi
  rw [relo_get _ _ (i + 1) h2, relo_get _ _ i (by omega)]
  dsimp only
  rw [List.take_succ_eq_append_getElem (by omega : i < (ordRaw gs names).length), nextLo_snoc]
theorem OrdF.raw_get (h : OrdF gs names) {i : Nat} (hi : i < (ordG gs names).length) : ∃ g ∈ gs, g.name = (ordG gs names)[i].name ∧ g.hi - g.lo = (ordG gs names)[i].hi - (ordG gs names)[i].lo := by
  unfold ordG at hi ⊢
  have h2 : i < (ordRaw gs names).length := by rw [relo_len] at hi; exact hi
  refine ⟨(ordRaw gs names)[i], raw_mem h.sub (List.getElem_mem h2), ?_, ?_⟩
  · rw [relo_get _ _ i h2]
  · rw [relo_get _ _ i h2]; dsimp only; omega
theorem OrdF.named (h : OrdF gs names) {i : Nat} (hi : i < (ordG gs names).length) (hn : i < names.length) : (ordG gs names)[i].name = names[i] := by
  have h1 : (gnames (ordG gs names))[i]? = some (ordG gs names)[i].name := by unfold gnames; rw [List.getElem?_map, List.getElem?_eq_getElem hi]; rfl
  rw [ord_names h.sub, List.getElem?_append_left hn, List.getElem?_eq_getElem hn] at h1
  exact (Option.some.inj h1).symm
end

/-- a group of the same name and as wide -/
def mat (x g : Grp) : Bool := decide (g.name = x.name) && (g.hi - g.lo == x.hi - x.lo)
theorem OrdF.mats {gs : List Grp} {names : List ByteArray} (h : OrdF gs names) {i : Nat} (hi : i < (ordG gs names).length) : gs.any (mat (ordG gs names)[i]) = true := by
  obtain ⟨g, hg, h1, h2⟩ := h.raw_get hi
  exact List.any_eq_true.2 ⟨g, hg, by unfold mat; simp [h1, h2]⟩
theorem any_take {α : Type} (p : α → Bool) (l : List α) {j : Nat} (hj : j < l.length) : (l.take (j + 1)).any p = ((l.take j).any p || p l[j]) := by
  rw [List.take_succ_eq_append_getElem hj, List.any_append]; simp
/-- all that the law asks of the groups in their new order -/
structure FolF (gs og : List Grp) (names : List ByteArray) : Prop where
  len : og.length = gs.length
  nlen : names.length ≤ gs.length
  lo0 : ∀ (h0 : 0 < og.length) (h1 : 0 < gs.length), og[0].lo = gs[0].lo
  next : ∀ (i : Nat) (h1 : i < og.length) (hi : i + 1 < og.length), og[i + 1].lo = og[i].hi + 1
  mats : ∀ (i : Nat) (hi : i < og.length), gs.any (mat og[i]) = true
  named : ∀ (i : Nat) (hi : i < og.length) (hn : i < names.length), og[i].name = names[i]
  bd : ∀ g ∈ gs, 1 ≤ g.lo ∧ g.lo ≤ g.hi ∧ g.hi < 65502
  tb : ∀ g ∈ og, 0 ≤ g.lo ∧ g.lo ≤ g.hi ∧ g.hi ≤ 2000000
theorem OrdF.fol {gs : List Grp} {names : List ByteArray} (h : OrdF gs names) (hl : gs.length ≤ 19) : FolF gs (ordG gs names) names :=
  ⟨h.len, h.nlen, h.lo0', fun _ _ hi => h.next hi, fun _ hi => h.mats hi, fun _ hi hn => h.named hi hn, h.bd, h.tb hl⟩
end Go.Proofs.Ytnfnoefjgiojoaa
