/- How an argument that is a slice of records is opened: its list, where it lies, its bounds. Whatever the records are. -/
import Derived.Test.YtpamkbbmbeeheaaColl
import Derived.Deep.Slices
import Derived.ProofKit
import Derived.OpenShut
import Derived.ShutString
import Derived.ChangeOld
namespace Go.Proofs.Ytpamkbbmbeeheaa
open Go.ChangeShapes Go.WideShapes Go.ChangeAt Go.RowKit

theorem open_recs {H : Type} {enc : TypeId × Value → H} {P : Program} {w : World} {base : Nat} {spare : Nat → Bool} {held : Bool} {t e : TypeId} {α : Type} [Inhabited α] (en : α → List Value) (k : Nat) (k0 : 0 < k) (hk : ∀ x, (en x).length = k) (R : α → Prop)
    (ht : P.underlying t = some (.slice e)) (hc : P.cellsOf e = k)
    (hread : ∀ fuel cs x, cs.length = k → DataW.trod enc P w base spare held fuel e cs = some x → ∃ a : α, cs = en a ∧ R a)
    {fuel : Nat} {cs : List Value} {x : DataW H × List MemPlace} (h : DataW.trod enc P w base spare held fuel t cs = some x) :
    ∃ A len cap, ∃ l : List α, cs = [.slice A len cap] ∧ l.length = len ∧ len ≤ cap ∧ cap ≤ 9223372036854775807 ∧ Recs en w A l ∧ ∀ a ∈ l, R a := by
  rcases Deep.open_slice ht h with ⟨hcs, _⟩ | ⟨a, l, c, m, n, D, Pl, hcs, hb, hl, hm, hmm, _, hx⟩
  · exact ⟨none, 0, 0, [], hcs, rfl, Nat.le_refl _, by omega, Sl.nil _ _, fun _ h => by cases h⟩
  · unfold maxLen at hm
    have hlm : l ≤ m := by rw [hmm]; split <;> omega
    have each : ∀ i, i < l → ∃ q : α, (∀ j, j < k → w.cell? (a.add (i * k + j)) = (en q)[j]?) ∧ R q := by
      intro i hi
      obtain ⟨cs', h1, h2⟩ := hx i (by omega)
      rw [hc] at h1
      obtain ⟨_, hlen, hcell⟩ := World.cells?_some h1
      obtain ⟨q, hq, hr⟩ := hread _ _ _ hlen h2
      refine ⟨q, fun j hj => ?_, hr⟩
      have := hcell j hj
      rw [Deep.add_add, hq] at this
      exact this
    obtain ⟨V, hV⟩ := Deep.choose_lt each
    refine ⟨some a, l, c, (List.range l).map V, hcs, by simp, hl, hm, ?_, fun y hy => ?_⟩
    · intro hne
      have hlen : 0 < l := by
        rcases Nat.eq_zero_or_pos l with h0 | h0
        · subst h0; simp [flatK] at hne
        · exact h0
      obtain ⟨b, off, spot⟩ := a
      have hz := (hV 0 hlen).1 0 k0
      have hspot : spot = none := by
        have h1 : 0 < (en (V 0)).length := by rw [hk]; exact k0
        rw [List.getElem?_eq_getElem h1] at hz
        simpa [Addr.add] using World.cell?_spot hz
      subst hspot
      refine ⟨b, off, rfl, fun j u hu => ?_⟩
      have addp : ∀ i, (⟨b, off, none⟩ : Addr).add i = ⟨b, off + i, none⟩ := fun i => by
        unfold Addr.add
        split
        · next h0 => subst h0; rfl
        · rfl
      have hj : j < l * k := by
        have := (List.getElem?_eq_some_iff.1 hu).1
        rw [flatK_len en k hk] at this
        simpa using this
      have hi : j / k < l := (Nat.div_lt_iff_lt_mul k0).2 hj
      have hr : j % k < k := Nat.mod_lt _ k0
      have hjj : j / k * k + j % k = j := by rw [Nat.mul_comm]; exact Nat.div_add_mod j k
      have h1 := flatK_get en k hk ((List.range l).map V) (j / k) (j % k) (by simpa using hi) hr
      rw [hjj, hu] at h1
      have h2 := (hV (j / k) hi).1 (j % k) hr
      rw [hjj, addp] at h2
      simp only [List.getElem_map, List.getElem_range] at h1
      rw [h2, ← h1]
    · obtain ⟨i, hi, rfl⟩ := List.mem_map.1 hy
      exact (hV i (List.mem_range.1 hi)).2
end Go.Proofs.Ytpamkbbmbeeheaa
