/- What Move computes. Plain. -/
import Derived.Test.YtnfnoefjgiojoaaRefOrder2
namespace Go.Proofs.Ytnfnoefjgiojoaa
open Go.RowKit

/-- the group of a weight -/
def conG (gs : List Grp) (x : Int) : Option Grp := gs.find? (fun g => inR g.lo g.hi x)
/-- a weight moved from groups to groups -/
def movF (frm to : List Grp) (x : Int) : Int := match conG frm x with | some g => (gOf to g.name).lo + x - g.lo | none => x
def mov (c : Col) (names : List ByteArray) (x : Int) : Int := if ordErr c names = 0 then movF c.grps (ordG c.grps names) x else x

section
variable {gs : List Grp} {x : Int}
theorem conG_at {k : Nat} (hk : k < gs.length) (h : inR gs[k].lo gs[k].hi x = true) (hb : ∀ t, (ht : t < gs.length) → t < k → inR gs[t].lo gs[t].hi x = false) : conG gs x = some gs[k] := by
  unfold conG
  rw [List.find?_eq_some_iff_getElem]
  exact ⟨h, k, hk, rfl, fun j hj => by simp [hb j (by omega) hj]⟩
theorem conG_none (h : ∀ t, (ht : t < gs.length) → inR gs[t].lo gs[t].hi x = false) : conG gs x = none := by
  unfold conG
  rw [List.find?_eq_none]
  intro g hg
  obtain ⟨t, ht, rfl⟩ := List.getElem_of_mem hg
  simp [h t ht]
theorem conG_mem {g : Grp} (h : conG gs x = some g) : g ∈ gs ∧ g.lo ≤ x ∧ x ≤ g.hi := by
  unfold conG at h
  have h1 := List.find?_some h
  exact ⟨List.mem_of_find?_eq_some h, inR_iff.1 h1⟩
end

theorem relo_names (lo : Int) (gs : List Grp) : gnames (relo lo gs) = gnames gs := by
  induction gs generalizing lo with
  | nil => rfl
  | cons g r ih => simp only [relo, gnames, List.map_cons] at *; rw [ih]
section
variable {gs : List Grp} {names : List ByteArray}
theorem raw_names (hs : ∀ s ∈ names, s ∈ gnames gs) : gnames (ordRaw gs names) = names ++ (gnames gs).filter (fun s => decide (s ∉ names)) := by
  unfold ordRaw gnames
  rw [List.map_append, List.map_map, List.filter_map]
  congr 1
  have : names.map (Grp.name ∘ gOf gs) = names.map id := List.map_congr_left fun s h => (gOf_spec (hs s h)).2
  rw [this, List.map_id]
theorem ord_names (hs : ∀ s ∈ names, s ∈ gnames gs) : gnames (ordG gs names) = names ++ (gnames gs).filter (fun s => decide (s ∉ names)) := by
  unfold ordG; rw [relo_names, raw_names hs]
theorem ord_nodup (hd : (gnames gs).Nodup) (hn : names.Nodup) (hs : ∀ s ∈ names, s ∈ gnames gs) : (gnames (ordG gs names)).Nodup := by
  rw [ord_names hs, List.nodup_append]
  refine ⟨hn, hd.filter _, fun a ha b hb e => ?_⟩
  subst e
  have := (List.mem_filter.1 hb).2
  simp at this
  exact this ha
theorem ord_mem (hs : ∀ s ∈ names, s ∈ gnames gs) {s : ByteArray} : s ∈ gnames (ordG gs names) ↔ s ∈ gnames gs := by
  rw [ord_names hs, List.mem_append, List.mem_filter]
  constructor
  · rintro (h | h)
    · exact hs s h
    · exact h.1
  · intro h
    by_cases e : s ∈ names
    · exact .inl e
    · exact .inr ⟨h, by simpa using e⟩
theorem relo_bd (lo : Int) (l : List Grp) (h : ∀ g ∈ l, 1 ≤ g.lo ∧ g.lo ≤ g.hi ∧ g.hi < 65502) : ∀ g ∈ relo lo l, lo ≤ g.lo ∧ g.lo ≤ g.hi ∧ g.hi ≤ lo + 65502 * (l.length : Int) := by
  induction l generalizing lo with
  | nil => intro g hg; cases hg
  | cons x l ih =>
    have h2 := h x (List.mem_cons_self ..)
    intro g hg
    rcases List.mem_cons.1 (show g ∈ _ :: relo (lo + x.hi - x.lo + 1) l from hg) with rfl | hg
    · simp only [List.length_cons]; push_cast; omega
    · have h1 := ih (lo + x.hi - x.lo + 1) (fun y hy => h y (List.mem_cons_of_mem _ hy)) g hg
      simp only [List.length_cons]; push_cast; omega
end

/-- the map of where the groups begin -/
def begF (to : List Grp) (s : ByteArray) : Option Value := if s ∈ gnames to then some (.int .i64 (gOf to s).lo) else none
theorem gOf_snoc {l : List Grp} {g : Grp} (hn : g.name ∉ gnames l) (s : ByteArray) (hs : s ∈ gnames (l ++ [g])) : gOf (l ++ [g]) s = if s = g.name then g else gOf l s := by
  unfold gOf
  rw [List.find?_append]
  by_cases e : s = g.name
  · subst e
    have : l.find? (fun x => decide (x.name = g.name)) = none := List.find?_eq_none.2 fun x hx h => hn (by
      have : x.name = g.name := by simpa using h
      rw [← this]; exact List.mem_map.2 ⟨x, hx, rfl⟩)
    rw [this, if_pos rfl]
    simp
  · rw [if_neg e]
    have h1 : s ∈ gnames l := by
      rw [gnames, List.map_append, List.mem_append] at hs
      rcases hs with h | h
      · exact h
      · simp at h; exact absurd h e
    obtain ⟨y, hy, hy2⟩ := List.mem_map.1 h1
    cases hf : l.find? (fun x => decide (x.name = s)) with
    | none => have := List.find?_eq_none.1 hf y hy; simp [hy2] at this
    | some z => simp
theorem begF_put {l : List Grp} {g : Grp} (hn : g.name ∉ gnames l) (s : ByteArray) : begF (l ++ [g]) s = if s = g.name then some (.int .i64 g.lo) else begF l s := by
  unfold begF
  by_cases e : s = g.name
  · have h1 : s ∈ gnames (l ++ [g]) := by simp [gnames, e]
    rw [if_pos h1, gOf_snoc hn s h1, if_pos e, if_pos e]
  · rw [if_neg e]
    by_cases h : s ∈ gnames l
    · have h1 : s ∈ gnames (l ++ [g]) := by rw [gnames, List.map_append]; exact List.mem_append_left _ h
      rw [if_pos h1, if_pos h, gOf_snoc hn s h1, if_neg e]
    · have h1 : s ∉ gnames (l ++ [g]) := by
        rw [gnames, List.map_append, List.mem_append]
        rintro (h2 | h2)
        · exact h h2
        · simp at h2; exact e h2
      rw [if_neg h1, if_neg h]

end Go.Proofs.Ytnfnoefjgiojoaa
