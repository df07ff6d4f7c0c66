/- The groups in their new order: what the stable sort by places gives, and how they are laid one behind the other. Plain. -/
import Derived.Test.YtnfnoefjgiojoaaPlace
namespace Go.Proofs.Ytnfnoefjgiojoaa
open Go.RowKit

def gnames (gs : List Grp) : List ByteArray := gs.map Grp.name
/-- the group of a name -/
def gOf (gs : List Grp) (s : ByteArray) : Grp := (gs.find? (fun g => decide (g.name = s))).getD ⟨.empty, 0, 0⟩
/-- the groups that are named in the order of the names, then the others -/
def ordRaw (gs : List Grp) (names : List ByteArray) : List Grp := names.map (gOf gs) ++ gs.filter (fun g => decide (g.name ∉ names))
/-- the groups one behind the other -/
def relo : Int → List Grp → List Grp
  | _, [] => []
  | lo, g :: r => ⟨g.name, lo, lo + g.hi - g.lo⟩ :: relo (lo + g.hi - g.lo + 1) r
def firstLo (gs : List Grp) : Int := match gs with | [] => 0 | g :: _ => g.lo
def ordG (gs : List Grp) (names : List ByteArray) : List Grp := relo (firstLo gs) (ordRaw gs names)
def ordErr (c : Col) (names : List ByteArray) : Int :=
  if colErr c ≠ 0 then colErr c else if ¬ (∀ s ∈ names, s ∈ gnames c.grps) then 6 else if ¬ names.Nodup then 5 else 0

theorem firstLo_get {gs : List Grp} (h : 0 < gs.length) : gs[0].lo = firstLo gs := by
  cases gs with
  | nil => simp at h
  | cons x r => rfl

theorem relo_len (lo : Int) (gs : List Grp) : (relo lo gs).length = gs.length := by
  induction gs generalizing lo with
  | nil => rfl
  | cons g r ih => simp [relo, ih]

/-! uniqueness of the stable order -/
theorem stable_unique {α : Type} {key : α → Int} : ∀ {a b : List α}, (∀ k, a.filter (fun x => key x == k) = b.filter (fun x => key x == k)) → a.Pairwise (fun x y => key x ≤ key y) → b.Pairwise (fun x y => key x ≤ key y) → a = b
  | [], [], _, _, _ => rfl
  | [], y :: b, h, _, _ => by have := h (key y); simp at this
  | x :: a, [], h, _, _ => by have := h (key x); simp at this
  | x :: a, y :: b, h, ha, hb => by
    obtain ⟨ha1, ha2⟩ := List.pairwise_cons.1 ha
    obtain ⟨hb1, hb2⟩ := List.pairwise_cons.1 hb
    have mem : ∀ z, z ∈ x :: a ↔ z ∈ y :: b := fun z => by
      have := h (key z)
      constructor
      · intro hz
        have h1 : z ∈ (x :: a).filter (fun u => key u == key z) := List.mem_filter.2 ⟨hz, by simp⟩
        rw [this] at h1
        exact (List.mem_filter.1 h1).1
      · intro hz
        have h1 : z ∈ (y :: b).filter (fun u => key u == key z) := List.mem_filter.2 ⟨hz, by simp⟩
        rw [← this] at h1
        exact (List.mem_filter.1 h1).1
    have hxy : key x ≤ key y := by
      rcases List.mem_cons.1 ((mem y).2 (List.mem_cons_self ..)) with e | e
      · rw [e]; exact Int.le_refl _
      · exact ha1 y e
    have hyx : key y ≤ key x := by
      rcases List.mem_cons.1 ((mem x).1 (List.mem_cons_self ..)) with e | e
      · rw [e]; exact Int.le_refl _
      · exact hb1 x e
    have hk : key x = key y := by omega
    have e1 := h (key x)
    rw [List.filter_cons_of_pos (by simp), List.filter_cons_of_pos (by simp [hk])] at e1
    obtain rfl : x = y := by injection e1
    have := stable_unique (a := a) (b := b) (fun k => by
      have e := h k
      by_cases c : (key x == k) = true
      · rw [List.filter_cons_of_pos (p := fun x => key x == k) c, List.filter_cons_of_pos (p := fun x => key x == k) c] at e
        injection e
      · rw [List.filter_cons_of_neg (p := fun x => key x == k) c, List.filter_cons_of_neg (p := fun x => key x == k) c] at e
        exact e) ha2 hb2
    rw [this]

theorem pairwise_of_sorted {α : Type} {key : α → Int} {d : List α} (h : Srt.SortedOn key d 0 d.length) : d.Pairwise (fun x y => key x ≤ key y) := by
  rw [List.pairwise_iff_getElem]
  intro i j hi hj hij
  have := h i j (Nat.zero_le _) hij hj
  rw [Srt.kf_some (List.getElem?_eq_getElem hi), Srt.kf_some (List.getElem?_eq_getElem hj)] at this
  exact this

/-! places -/
section
variable {names : List ByteArray} {s : ByteArray}
theorem pos_mem (h : pos names s < names.length) : s ∈ names := by
  by_cases e : s ∈ names
  · exact e
  · rw [pos_none e] at h; omega
theorem pos_get (h : pos names s < names.length) : names[pos names s] = s := by
  induction names with
  | nil => simp [pos] at h
  | cons x r ih =>
    simp only [pos] at h ⊢
    by_cases e : x = s
    · simp [e]
    · simp only [if_neg e, List.length_cons] at h ⊢
      simp only [List.getElem_cons_succ]
      exact ih (by omega)
theorem pos_at (hn : names.Nodup) {k : Nat} (hk : k < names.length) : pos names names[k] = k := by
  induction names generalizing k with
  | nil => simp at hk
  | cons x r ih =>
    obtain ⟨h1, h2⟩ := List.nodup_cons.1 hn
    cases k with
    | zero => simp [pos]
    | succ k =>
      simp only [List.getElem_cons_succ, pos]
      have hk' : k < r.length := by simpa using hk
      rw [if_neg (fun e => h1 (by rw [e]; exact List.getElem_mem hk')), ih h2 hk']
theorem pos_iff (hn : names.Nodup) {k : Nat} (hk : k < names.length) : pos names s = k ↔ s = names[k] := by
  constructor
  · rintro rfl; exact (pos_get hk).symm
  · rintro rfl; exact pos_at hn hk
end

section
variable {gs : List Grp} {s : ByteArray}
theorem gOf_spec (hs : s ∈ gnames gs) : gOf gs s ∈ gs ∧ (gOf gs s).name = s := by
  obtain ⟨g, hg, rfl⟩ := List.mem_map.1 hs
  unfold gOf
  cases hf : gs.find? (fun x => decide (x.name = g.name)) with
  | none => have := List.find?_eq_none.1 hf g hg; simp at this
  | some x =>
    have h1 := List.find?_some hf
    exact ⟨List.mem_of_find?_eq_some hf, by simpa using h1⟩
theorem filter_name (hd : (gnames gs).Nodup) (hs : s ∈ gnames gs) : gs.filter (fun g => decide (g.name = s)) = [gOf gs s] := by
  obtain ⟨h1, h2⟩ := gOf_spec hs
  induction gs with
  | nil => cases hs
  | cons g r ih =>
    obtain ⟨d1, d2⟩ := List.nodup_cons.1 (show (g.name :: gnames r).Nodup from hd)
    by_cases e : g.name = s
    · have hr : r.filter (fun g => decide (g.name = s)) = [] := List.filter_eq_nil_iff.2 fun x hx => by
        have : x.name ≠ s := fun e' => d1 (by rw [e, ← e']; exact List.mem_map.2 ⟨x, hx, rfl⟩)
        simpa using this
      rw [List.filter_cons_of_pos (by simpa using e), hr]
      simp [gOf, e]
    · rw [List.filter_cons_of_neg (by simpa using e)]
      have hs' : s ∈ gnames r := by
        rcases List.mem_cons.1 (show s ∈ g.name :: gnames r from hs) with h | h
        · exact absurd h.symm e
        · exact h
      have hg : gOf (g :: r) s = gOf r s := by unfold gOf; rw [List.find?_cons_of_neg (by simpa using e)]
      rw [hg]
      obtain ⟨k1, k2⟩ := gOf_spec hs'
      exact ih d2 hs' k1 k2
end

theorem filter_eq_one {l : List ByteArray} (hn : l.Nodup) {s : ByteArray} (h : s ∈ l) : l.filter (fun x => decide (x = s)) = [s] := by
  induction l with
  | nil => cases h
  | cons x r ih =>
    obtain ⟨d1, d2⟩ := List.nodup_cons.1 hn
    by_cases e : x = s
    · subst e
      rw [List.filter_cons_of_pos (by simp), List.filter_eq_nil_iff.2 fun y hy => by
        have : y ≠ x := fun e' => d1 (e' ▸ hy)
        simpa using this]
    · rw [List.filter_cons_of_neg (by simpa using e)]
      exact ih d2 (by rcases List.mem_cons.1 h with h | h; exact absurd h.symm e; exact h)

section
variable {gs : List Grp} {names : List ByteArray}
theorem raw_st (hd : (gnames gs).Nodup) (hn : names.Nodup) (hs : ∀ s ∈ names, s ∈ gnames gs) (k : Int) :
    gs.filter (fun x => (pos names x.name : Int) == k) = (ordRaw gs names).filter (fun x => (pos names x.name : Int) == k) := by
  unfold ordRaw
  rw [List.filter_append, List.filter_map, List.filter_filter]
  by_cases hk : ∃ j : Nat, k = j ∧ j < names.length
  · obtain ⟨j, rfl, hj⟩ := hk
    have e0 : ∀ x : Grp, ((pos names x.name : Int) == (j : Int)) = decide (x.name = names[j]) := fun x => by
      have := pos_iff (s := x.name) hn hj
      rw [Bool.eq_iff_iff]
      simp only [beq_iff_eq, decide_eq_true_eq, ← this]
      omega
    have e1 : gs.filter (fun x => (pos names x.name : Int) == (j : Int)) = gs.filter (fun x => decide (x.name = names[j])) := List.filter_congr fun x _ => e0 x
    have e2 : names.filter ((fun x => (pos names x.name : Int) == (j : Int)) ∘ gOf gs) = names.filter (fun s => decide (s = names[j])) := List.filter_congr fun s h => by
      have h9 := e0 (gOf gs s)
      simp only [(gOf_spec (hs s h)).2] at h9
      simp only [Function.comp, (gOf_spec (hs s h)).2]
      exact h9
    have e3 : gs.filter (fun x => ((pos names x.name : Int) == (j : Int)) && decide (x.name ∉ names)) = [] := List.filter_eq_nil_iff.2 fun x _ => by
      rw [e0]
      by_cases h : x.name = names[j]
      · simp [h]
      · simp [h]
    rw [e1, e2, e3, filter_name hd (hs _ (List.getElem_mem hj)), filter_eq_one hn (List.getElem_mem hj)]
    simp
  · have e2 : names.filter ((fun x => (pos names x.name : Int) == k) ∘ gOf gs) = [] := List.filter_eq_nil_iff.2 fun s h => by
      simp only [Function.comp, (gOf_spec (hs s h)).2]
      have := pos_lt h
      intro e
      exact hk ⟨_, (beq_iff_eq.1 e).symm, this⟩
    rw [e2]
    simp only [List.map_nil, List.nil_append]
    refine List.filter_congr fun x _ => ?_
    by_cases h : x.name ∈ names
    · have h1 := pos_lt h
      have : ((pos names x.name : Int) == k) = false := by
        rw [beq_eq_false_iff_ne]
        intro e
        exact hk ⟨_, e.symm, h1⟩
      rw [this]; simp
    · simp [h]

theorem raw_sorted (hn : names.Nodup) (hs : ∀ s ∈ names, s ∈ gnames gs) : (ordRaw gs names).Pairwise (fun x y => (pos names x.name : Int) ≤ (pos names y.name : Int)) := by
  unfold ordRaw
  rw [List.pairwise_append]
  refine ⟨?_, ?_, ?_⟩
  · rw [List.pairwise_map, List.pairwise_iff_getElem]
    intro i j hi hj hij
    rw [(gOf_spec (hs _ (List.getElem_mem hi))).2, (gOf_spec (hs _ (List.getElem_mem hj))).2, pos_at hn hi, pos_at hn hj]
    omega
  · rw [List.pairwise_iff_getElem]
    intro i j hi hj _
    have h1 := (List.mem_filter.1 (List.getElem_mem hi)).2
    have h2 := (List.mem_filter.1 (List.getElem_mem hj)).2
    rw [pos_none (by simpa using h1), pos_none (by simpa using h2)]
    omega
  · intro x _ y hy
    have h2 := (List.mem_filter.1 hy).2
    rw [pos_none (s := y.name) (by simpa using h2)]
    have := pos_le names x.name
    omega

/-- what the stable sort leaves -/
theorem done_raw (hd : (gnames gs).Nodup) (hn : names.Nodup) (hs : ∀ s ∈ names, s ∈ gnames gs) {d : List Grp} (h : Srt.Done (fun x => (pos names x.name : Int)) gs d 0 gs.length) : d = ordRaw gs names := by
  obtain ⟨⟨hl, _⟩, hst, hso⟩ := h
  refine stable_unique (fun k => (hst k).trans (raw_st hd hn hs k)) (pairwise_of_sorted (by rw [hl]; exact hso)) (raw_sorted hn hs)
end

/-! laying the groups one behind the other -/
def nextLo : Int → List Grp → Int
  | lo, [] => lo
  | lo, g :: r => nextLo (lo + g.hi - g.lo + 1) r
theorem nextLo_snoc (lo : Int) (l : List Grp) (g : Grp) : nextLo lo (l ++ [g]) = nextLo lo l + g.hi - g.lo + 1 := by
  induction l generalizing lo with
  | nil => rfl
  | cons x l ih => simp only [List.cons_append, nextLo, ih]
theorem relo_snoc (lo : Int) (l : List Grp) (g : Grp) : relo lo (l ++ [g]) = relo lo l ++ [⟨g.name, nextLo lo l, nextLo lo l + g.hi - g.lo⟩] := by
  induction l generalizing lo with
  | nil => rfl
  | cons x l ih => simp only [List.cons_append, relo, nextLo, ih]
theorem nextLo_bd (lo : Int) (l : List Grp) (h : ∀ g ∈ l, 1 ≤ g.lo ∧ g.lo ≤ g.hi ∧ g.hi < 65502) : lo ≤ nextLo lo l ∧ nextLo lo l ≤ lo + 65502 * (l.length : Int) := by
  induction l generalizing lo with
  | nil => simp [nextLo]
  | cons g l ih =>
    have h1 := ih (lo + g.hi - g.lo + 1) (fun x hx => h x (List.mem_cons_of_mem _ hx))
    have h2 := h g (List.mem_cons_self ..)
    simp only [nextLo, List.length_cons]
    push_cast
    omega
/-- the groups of which the first i have been laid -/
def half (lo : Int) (raw : List Grp) (i : Nat) : List Grp := relo lo (raw.take i) ++ raw.drop i
theorem half_get (lo : Int) (raw : List Grp) (i : Nat) (hi : i < raw.length) : (half lo raw i)[i]? = some raw[i] := by
  have hl : (relo lo (raw.take i)).length = i := by rw [relo_len, List.length_take]; omega
  unfold half
  rw [List.getElem?_append_right (by omega), hl, Nat.sub_self, List.getElem?_drop, Nat.add_zero, List.getElem?_eq_getElem hi]
theorem half_len (lo : Int) (raw : List Grp) (i : Nat) (hi : i ≤ raw.length) : (half lo raw i).length = raw.length := by
  unfold half; rw [List.length_append, relo_len, List.length_take, List.length_drop]; omega
theorem half_succ (lo : Int) (raw : List Grp) (i : Nat) (hi : i < raw.length) : (half lo raw i).set i ⟨raw[i].name, nextLo lo (raw.take i), nextLo lo (raw.take i) + raw[i].hi - raw[i].lo⟩ = half lo raw (i + 1) := by
  have hl : (relo lo (raw.take i)).length = i := by rw [relo_len, List.length_take]; omega
  unfold half
  rw [List.take_succ_eq_append_getElem hi, relo_snoc, List.set_append_right _ _ (by omega), hl, Nat.sub_self, List.drop_eq_getElem_cons hi, List.set_cons_zero, List.append_assoc]
  rfl
theorem half_all (lo : Int) (raw : List Grp) (i : Nat) (hi : raw.length ≤ i) : half lo raw i = relo lo raw := by
  unfold half; rw [List.take_of_length_le hi, List.drop_eq_nil_of_le hi, List.append_nil]

/-! what a valid collation has -/
theorem grp_ok {base : Int} {gs : List Grp} (h : grpErr base gs = 0) : (gnames gs).Nodup ∧ ∀ g ∈ gs, 1 ≤ g.lo ∧ g.lo ≤ g.hi ∧ g.hi < base := by
  unfold grpErr at h
  split at h
  · omega
  · split at h
    · omega
    · rename_i h5
      split at h
      · omega
      · rename_i h1
        refine ⟨Decidable.not_not.1 h5, fun g hg => ?_⟩
        have h2 : gs.any (fun g => decide (badG base g)) = false := by simpa using h1
        have h3 := List.any_eq_false.1 h2 g hg
        simp only [decide_eq_true_eq] at h3
        unfold badG at h3
        omega
theorem col_ok {c : Col} (h : colErr c = 0) : 1 ≤ c.base ∧ c.base ≤ 65502 ∧ grpErr c.base c.grps = 0 := by
  unfold colErr at h
  split at h
  · omega
  · rename_i h1
    split at h
    · rename_i h2; exact absurd h h2
    · rename_i h2
      refine ⟨?_, ?_, Decidable.not_not.1 h2⟩
      · rcases Int.lt_or_le c.base 1 with h3 | h3
        · exact absurd (.inl h3) h1
        · exact h3
      · rcases Int.lt_or_le 65502 c.base with h3 | h3
        · exact absurd (.inr (.inl h3)) h1
        · exact h3
theorem raw_len {gs : List Grp} {names : List ByteArray} (hd : (gnames gs).Nodup) (hn : names.Nodup) (hs : ∀ s ∈ names, s ∈ gnames gs) : (ordRaw gs names).length = gs.length := by
  have key : ∀ (l : List ByteArray), l.Nodup → (∀ s ∈ l, s ∈ gnames gs) → (gs.filter (fun g => decide (g.name ∈ l))).length = l.length := by
    intro l
    induction l with
    | nil => intro _ _; simp
    | cons s r ih =>
      intro hn hs
      obtain ⟨h1, h2⟩ := List.nodup_cons.1 hn
      have e1 := ih h2 (fun x hx => hs x (List.mem_cons_of_mem _ hx))
      have e2 : (gs.filter (fun g => decide (g.name = s))).length = 1 := by rw [filter_name hd (hs s (List.mem_cons_self ..))]; rfl
      have e3 : ∀ gs : List Grp, (gs.filter (fun g => decide (g.name ∈ s :: r))).length = (gs.filter (fun g => decide (g.name = s))).length + (gs.filter (fun g => decide (g.name ∈ r))).length := by
        intro gs
        induction gs with
        | nil => rfl
        | cons g l ih =>
          by_cases a : g.name = s
          · have b : g.name ∉ r := by rw [a]; exact h1
            rw [List.filter_cons_of_pos (by simp [a]), List.filter_cons_of_pos (by simp [a]), List.filter_cons_of_neg (by simpa using b), List.length_cons, List.length_cons, ih]; omega
          · by_cases b : g.name ∈ r
            · rw [List.filter_cons_of_pos (by simp [b]), List.filter_cons_of_neg (by simp [a]), List.filter_cons_of_pos (by simp [b]), List.length_cons, List.length_cons, ih]; omega
            · rw [List.filter_cons_of_neg (by simp [a, b]), List.filter_cons_of_neg (by simp [a]), List.filter_cons_of_neg (by simp [b]), ih]
      rw [e3, e1, e2, List.length_cons]; omega
  have h1 := key names hn hs
  have h2 : ∀ gs : List Grp, (gs.filter (fun g => decide (g.name ∈ names))).length + (gs.filter (fun g => decide (g.name ∉ names))).length = gs.length := by
    intro gs
    induction gs with
    | nil => rfl
    | cons g l ih =>
      by_cases b : g.name ∈ names
      · rw [List.filter_cons_of_pos (by simp [b]), List.filter_cons_of_neg (by simp [b]), List.length_cons, List.length_cons]; omega
      · rw [List.filter_cons_of_neg (by simp [b]), List.filter_cons_of_pos (by simp [b]), List.length_cons, List.length_cons]; omega
  have h3 := h2 gs
  unfold ordRaw
  rw [List.length_append, List.length_map]
  omega
theorem raw_mem {gs : List Grp} {names : List ByteArray} (hs : ∀ s ∈ names, s ∈ gnames gs) {g : Grp} (h : g ∈ ordRaw gs names) : g ∈ gs := by
  unfold ordRaw at h
  rcases List.mem_append.1 h with h | h
  · obtain ⟨s, hs', rfl⟩ := List.mem_map.1 h
    exact (gOf_spec (hs s hs')).1
  · exact (List.mem_filter.1 h).1

end Go.Proofs.Ytnfnoefjgiojoaa
