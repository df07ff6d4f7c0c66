/- Weights keep their groups, their order and their distances. Plain. -/
import Derived.Test.YtnfnoefjgiojoaaFolPlain
import Derived.Test.YtnfnoefjgiojoaaSmall
namespace Go.Proofs.Ytnfnoefjgiojoaa
open Go.RowKit

/-- how many weights -/
def wid : List Grp → Int
  | [] => 0
  | g :: r => g.hi - g.lo + 1 + wid r
theorem wid_append (l r : List Grp) : wid (l ++ r) = wid l + wid r := by
  induction l with
  | nil => simp [wid]
  | cons g l ih => simp only [List.cons_append, wid, ih]; omega
theorem nextLo_wid (lo : Int) (l : List Grp) : nextLo lo l = lo + wid l := by
  induction l generalizing lo with
  | nil => simp [nextLo, wid]
  | cons g l ih => simp only [nextLo, wid, ih]; omega

theorem wid_named {gs : List Grp} (hd : (gnames gs).Nodup) (l : List ByteArray) (hn : l.Nodup) (hs : ∀ s ∈ l, s ∈ gnames gs) : wid (gs.filter (fun g => decide (g.name ∈ l))) = wid (l.map (gOf gs)) := by
  induction l with
  | nil =>
    have : gs.filter (fun g => decide (g.name ∈ ([] : List ByteArray))) = [] := List.filter_eq_nil_iff.2 (by simp)
    rw [this]; rfl
  | cons s r ih =>
    obtain ⟨h1, h2⟩ := List.nodup_cons.1 hn
    have e1 := ih h2 (fun x hx => hs x (List.mem_cons_of_mem _ hx))
    have e2 : wid (gs.filter (fun g => decide (g.name = s))) = wid [gOf gs s] := by rw [filter_name hd (hs s (List.mem_cons_self ..))]
    have e3 : ∀ gs : List Grp, wid (gs.filter (fun g => decide (g.name ∈ s :: r))) = wid (gs.filter (fun g => decide (g.name = s))) + wid (gs.filter (fun g => decide (g.name ∈ r))) := by
      intro gs
      induction gs with
      | nil => rfl
      | cons g l ih =>
        by_cases a : g.name = s
        · have b : g.name ∉ r := by rw [a]; exact h1
          rw [List.filter_cons_of_pos (by simp [a]), List.filter_cons_of_pos (by simp [a]), List.filter_cons_of_neg (by simpa using b), wid, wid, ih]; omega
        · by_cases b : g.name ∈ r
          · rw [List.filter_cons_of_pos (by simp [b]), List.filter_cons_of_neg (by simp [a]), List.filter_cons_of_pos (by simp [b]), wid, wid, ih]; omega
          · rw [List.filter_cons_of_neg (by simp [a, b]), List.filter_cons_of_neg (by simp [a]), List.filter_cons_of_neg (by simp [b]), ih]
    rw [e3, e1, e2, List.map_cons]
    simp only [wid]; omega
theorem wid_split (names : List ByteArray) (gs : List Grp) : wid (gs.filter (fun g => decide (g.name ∈ names))) + wid (gs.filter (fun g => decide (g.name ∉ names))) = wid gs := by
  induction gs with
  | nil => rfl
  | cons g l ih =>
    by_cases b : g.name ∈ names
    · rw [List.filter_cons_of_pos (by simp [b]), List.filter_cons_of_neg (by simp [b]), wid, wid]; omega
    · rw [List.filter_cons_of_neg (by simp [b]), List.filter_cons_of_pos (by simp [b]), wid, wid]; omega
theorem wid_raw {gs : List Grp} {names : List ByteArray} (h : OrdF gs names) : wid (ordRaw gs names) = wid gs := by
  unfold ordRaw
  rw [wid_append, ← wid_named h.nd names h.nn h.sub]
  exact wid_split names gs

/-- groups that follow each other without gaps are as they would be laid -/
theorem relo_self : ∀ (gs : List Grp), (∀ t, (ht : t + 1 < gs.length) → gs[t + 1].lo = gs[t].hi + 1) → relo (firstLo gs) gs = gs
  | [], _ => rfl
  | [g], _ => by simp [relo, firstLo]; cases g; simp; omega
  | g :: y :: r, h => by
    have h0 := h 0 (by simp)
    have ih := relo_self (y :: r) (fun t ht => h (t + 1) (by simpa using ht))
    simp only [List.getElem_cons_zero, List.getElem_cons_succ] at h0
    have h1 : relo (firstLo (g :: y :: r)) (g :: y :: r) = ⟨g.name, g.lo, g.lo + g.hi - g.lo⟩ :: relo (g.lo + g.hi - g.lo + 1) (y :: r) := rfl
    rw [h1, show g.lo + g.hi - g.lo + 1 = firstLo (y :: r) by simp only [firstLo]; omega, ih]
    congr 1
    cases g; simp; omega
theorem ordCon {c : Col} {names : List ByteArray} (h : ordErr c names = 0) : relo (firstLo c.grps) c.grps = c.grps := by
  unfold ordErr at h
  split at h
  · rename_i h0; exact absurd h h0
  · rename_i h0
    obtain ⟨_, _, b3⟩ := col_ok (by simpa using h0)
    refine relo_self _ (fun t ht => ?_)
    unfold grpErr at b3
    split at b3
    · omega
    · split at b3
      · omega
      · split at b3
        · omega
        · split at b3
          · omega
          · rename_i h4
            exact Decidable.by_contra fun e => h4 (gap_true ht e)

/-- which weights lie in groups laid one behind the other -/
theorem relo_cover (lo : Int) (l : List Grp) (hw : ∀ g ∈ l, g.lo ≤ g.hi) (x : Int) : (∃ g ∈ relo lo l, inR g.lo g.hi x = true) ↔ lo ≤ x ∧ x < nextLo lo l := by
  induction l generalizing lo with
  | nil => simp [relo, nextLo]
  | cons g r ih =>
    have h1 := ih (lo + g.hi - g.lo + 1) (fun y hy => hw y (List.mem_cons_of_mem _ hy))
    have h2 := hw g (List.mem_cons_self ..)
    have h3 : lo + g.hi - g.lo + 1 ≤ nextLo (lo + g.hi - g.lo + 1) r := by
      rw [nextLo_wid]
      have : 0 ≤ wid r := by
        have hr : ∀ y ∈ r, y.lo ≤ y.hi := fun y hy => hw y (List.mem_cons_of_mem _ hy)
        clear h1 ih hw
        induction r with
        | nil => simp [wid]
        | cons z r ih2 =>
          have := hr z (List.mem_cons_self ..)
          have := ih2 (fun y hy => hr y (List.mem_cons_of_mem _ hy))
          simp only [wid]; omega
      omega
    simp only [relo, nextLo, List.mem_cons, exists_eq_or_imp, inR_iff] at h1 ⊢
    rw [h1]
    omega
theorem relo_disj (lo : Int) (l : List Grp) (hw : ∀ g ∈ l, g.lo ≤ g.hi) {i j : Nat} (hij : i < j) (hj : j < (relo lo l).length) (hi : i < (relo lo l).length) : (relo lo l)[i].hi < (relo lo l)[j].lo := by
  induction l generalizing lo i j with
  | nil => simp [relo] at hj
  | cons g r ih =>
    cases j with
    | zero => omega
    | succ j =>
      simp only [relo, List.getElem_cons_succ]
      have hj' : j < (relo (lo + g.hi - g.lo + 1) r).length := by simpa [relo] using hj
      cases i with
      | zero =>
        simp only [List.getElem_cons_zero]
        have := (relo_cover (lo + g.hi - g.lo + 1) r (fun y hy => hw y (List.mem_cons_of_mem _ hy)) (relo (lo + g.hi - g.lo + 1) r)[j].lo).1 ⟨_, List.getElem_mem hj', by
          rw [inR_iff]
          refine ⟨Int.le_refl _, ?_⟩
          have hr : j < r.length := by rw [relo_len] at hj'; exact hj'
          rw [relo_get _ _ j hr]
          dsimp only
          have := hw r[j] (List.mem_cons_of_mem _ (List.getElem_mem hr))
          omega⟩
        omega
      | succ i =>
        simp only [List.getElem_cons_succ]
        exact ih _ (fun y hy => hw y (List.mem_cons_of_mem _ hy)) (by omega) hj' _

/-- what is known of old and new groups -/
structure KpF (gs og : List Grp) : Prop where
  nd : (gnames gs).Nodup
  len : og.length = gs.length
  nm : ∀ i, (hi : i < gs.length) → ∃ m, ∃ hm : m < og.length, og[m].name = gs[i].name ∧ gOf og gs[i].name = og[m] ∧ og[m].hi - og[m].lo = gs[i].hi - gs[i].lo
  dg : ∀ i j, (hi : i < gs.length) → (hj : j < gs.length) → i < j → gs[i].hi < gs[j].lo
  dO : ∀ i j, (hi : i < og.length) → (hj : j < og.length) → i < j → og[i].hi < og[j].lo
  cov : ∀ x, (∃ g ∈ gs, inR g.lo g.hi x = true) ↔ (∃ g ∈ og, inR g.lo g.hi x = true)
  bd : ∀ g ∈ gs, 1 ≤ g.lo ∧ g.lo ≤ g.hi ∧ g.hi < 65502

theorem kpF {c : Col} {names : List ByteArray} (h : ordErr c names = 0) : KpF c.grps (ordG c.grps names) := by
  have hf := ordF h
  have hc := ordCon h
  have hw : ∀ g ∈ c.grps, g.lo ≤ g.hi := fun g hg => (hf.bd g hg).2.1
  have hwr : ∀ g ∈ ordRaw c.grps names, g.lo ≤ g.hi := fun g hg => hw g (raw_mem hf.sub hg)
  refine ⟨hf.nd, hf.len, fun i hi => ?_, fun i j hi hj hij => ?_, fun i j hi hj hij => relo_disj _ _ hwr hij hj hi, fun x => ?_, hf.bd⟩
  · have h1 := hf.mem c.grps[i] (List.getElem_mem hi)
    obtain ⟨hk, he⟩ := gOf_pos h1
    refine ⟨_, hk, by rw [he]; exact (gOf_spec h1).2, he.symm, ?_⟩
    obtain ⟨g, hg, e1, e2⟩ := hf.raw_get hk
    rw [he, (gOf_spec h1).2] at e1
    have : g = c.grps[i] := by
      obtain ⟨t, ht, rfl⟩ := List.getElem_of_mem hg
      have hnd := hf.nd
      unfold gnames at hnd
      have h3 : (c.grps.map Grp.name)[t]'(by simpa using ht) = (c.grps.map Grp.name)[i]'(by simpa using hi) := by simpa using e1
      have h4 := (List.getElem_inj hnd).1 h3
      subst h4; rfl
    rw [this] at e2
    exact e2.symm
  · have h1 : ∀ (L : List Grp), L = relo (firstLo c.grps) c.grps → ∀ (hi : i < L.length) (hj : j < L.length), L[i].hi < L[j].lo := by
      intro L hL hi hj
      subst hL
      exact relo_disj _ _ hw hij hj hi
    exact h1 _ hc.symm hi hj
  · have h1 := relo_cover (firstLo c.grps) c.grps hw x
    rw [hc] at h1
    have h2 := relo_cover (firstLo c.grps) (ordRaw c.grps names) hwr x
    rw [h1, nextLo_wid, ← wid_raw hf, ← nextLo_wid]
    exact h2.symm

section
variable {gs og : List Grp}
theorem grpd_cases (gs : List Grp) (x : Int) : (∃ k, ∃ hk : k < gs.length, grpd gs x = k ∧ inR gs[k].lo gs[k].hi x = true ∧ ∀ t, (ht : t < gs.length) → t < k → inR gs[t].lo gs[t].hi x = false) ∨ (grpd gs x = -1 ∧ ∀ t, (ht : t < gs.length) → inR gs[t].lo gs[t].hi x = false) := by
  unfold grpd
  cases hf : gs.findIdx? (fun g => inR g.lo g.hi x) with
  | none =>
    right
    refine ⟨rfl, fun t ht => ?_⟩
    have := List.findIdx?_eq_none_iff.1 hf gs[t] (List.getElem_mem ht)
    simpa using this
  | some k =>
    left
    obtain ⟨hk, h1, h2⟩ := List.findIdx?_eq_some_iff_getElem.1 hf
    exact ⟨k, hk, rfl, h1, fun t ht htk => by simpa using h2 t htk⟩
theorem KpF.og_at (h : KpF gs og) {m : Nat} {z : Int} (hm : m < og.length) (hz : og[m].lo ≤ z ∧ z ≤ og[m].hi) : grpd og z = m :=
  grpd_at hm (inR_true hz.1 hz.2) fun t ht htm => by
    have := h.dO t m ht hm htm
    exact inR_hi (by omega)
theorem KpF.inside (h : KpF gs og) {x : Int} {i : Nat} (hi : i < gs.length) (hx : inR gs[i].lo gs[i].hi x = true) (hb : ∀ t, (ht : t < gs.length) → t < i → inR gs[t].lo gs[t].hi x = false) :
    ∃ m, ∃ hm : m < og.length, og[m].name = gs[i].name ∧ movF gs og x = og[m].lo + x - gs[i].lo ∧ grpd og (movF gs og x) = m := by
  obtain ⟨m, hm, e1, e2, e3⟩ := h.nm i hi
  have h1 : movF gs og x = og[m].lo + x - gs[i].lo := by rw [movF_some (conG_at hi hx hb), e2]
  rw [inR_iff] at hx
  exact ⟨m, hm, e1, h1, h.og_at hm (by rw [h1]; omega)⟩
theorem KpF.outside (h : KpF gs og) {x : Int} (hx : ∀ t, (ht : t < gs.length) → inR gs[t].lo gs[t].hi x = false) : movF gs og x = x ∧ grpd og x = -1 := by
  refine ⟨movF_none (conG_none hx), ?_⟩
  rcases grpd_cases og x with ⟨k, hk, _, h2, _⟩ | ⟨h1, _⟩
  · obtain ⟨g, hg, hgx⟩ := (h.cov x).2 ⟨_, List.getElem_mem hk, h2⟩
    obtain ⟨t, ht, rfl⟩ := List.getElem_of_mem hg
    rw [hx t ht] at hgx; cases hgx
  · exact h1
theorem KpF.inj (h : KpF gs og) {x y : Int} (e : movF gs og x = movF gs og y) : x = y := by
  rcases grpd_cases gs x with ⟨i, hi, _, h2, h3⟩ | ⟨_, h1⟩
  · obtain ⟨m, hm, n1, n2, n3⟩ := h.inside hi h2 h3
    rcases grpd_cases gs y with ⟨k, hk, _, k2, k3⟩ | ⟨_, k1⟩
    · obtain ⟨m', hm', p1, p2, p3⟩ := h.inside hk k2 k3
      rw [e, p3] at n3
      have : m' = m := by omega
      subst this
      have e1 : gs[i].name = gs[k].name := by rw [← n1, p1]
      have hnd := h.nd
      unfold gnames at hnd
      have h5 : (gs.map Grp.name)[i]'(by simpa using hi) = (gs.map Grp.name)[k]'(by simpa using hk) := by simpa using e1
      have h4 := (List.getElem_inj hnd).1 h5
      subst h4
      omega
    · obtain ⟨p1, p2⟩ := h.outside k1
      rw [e, p1, p2] at n3; omega
  · obtain ⟨p1, p2⟩ := h.outside h1
    rcases grpd_cases gs y with ⟨k, hk, _, k2, k3⟩ | ⟨_, k1⟩
    · obtain ⟨m', hm', _, _, q3⟩ := h.inside hk k2 k3
      rw [← e, p1, p2] at q3; omega
    · obtain ⟨q1, _⟩ := h.outside k1
      rw [p1, q1] at e; exact e
end

/-- what the law asks of two weights and of what they become -/
structure KpR (gs og : List Grp) (A B a b : Int) : Prop where
  inj : a = b ↔ A = B
  m_lt : grpd og a < og.length
  sgn : grpd gs A < 0 ↔ grpd og a < 0
  out : grpd gs A < 0 → a = A
  nm : ¬ grpd og a < 0 → ∃ i m, ∃ (hi : i < gs.length) (hm : m < og.length), grpd gs A = (i : Int) ∧ grpd og a = (m : Int) ∧ og[m].name = gs[i].name
  dist : ¬ grpd gs A < 0 → grpd gs A = grpd gs B → b - a = B - A ∧ -70000 ≤ B - A ∧ B - A ≤ 70000
theorem KpR.q {gs og : List Grp} {A B a b : Int} (h : KpR gs og A B a b) : ((a == b) == (A == B)) = true := by
  by_cases g : A = B
  · rw [h.inj.2 g, g]; simp
  · have : ¬ a = b := fun e => g (h.inj.1 e)
    rw [show (a == b) = false by simpa using this, show (A == B) = false by simpa using g]; rfl
theorem KpF.kpR {gs og : List Grp} (h : KpF gs og) (A B : Int) : KpR gs og A B (movF gs og A) (movF gs og B) := by
  rcases grpd_cases gs A with ⟨i, hi, h1, h2, h3⟩ | ⟨h0, h1⟩
  · obtain ⟨m, hm, n1, n2, n3⟩ := h.inside hi h2 h3
    refine ⟨⟨h.inj, fun e => by rw [e]⟩, by rw [n3]; omega, by rw [h1, n3]; omega, fun g => by omega, fun _ => ⟨i, m, hi, hm, h1, n3, n1⟩, fun _ e => ?_⟩
    rcases grpd_cases gs B with ⟨k, hk, k1, k2, k3⟩ | ⟨k0, _⟩
    · have : k = i := by omega
      subst this
      obtain ⟨m', hm', p1, p2, _⟩ := h.inside hk k2 k3
      obtain ⟨m2, hm2, q1, q2, _⟩ := h.inside hi h2 h3
      obtain ⟨r, hr, r1, r2, _⟩ := h.nm k hk
      have z1 : movF gs og A = (gOf og gs[k].name).lo + A - gs[k].lo := movF_some (conG_at hi h2 h3)
      have z2 : movF gs og B = (gOf og gs[k].name).lo + B - gs[k].lo := movF_some (conG_at hk k2 k3)
      rw [inR_iff] at h2 k2
      have := h.bd gs[k] (List.getElem_mem hk)
      omega
    · omega
  · obtain ⟨p1, p2⟩ := h.outside h1
    rw [p1]
    refine ⟨⟨fun e => h.inj (by rw [p1]; exact e), fun e => by rw [← e, p1]⟩, by rw [p2]; omega, by rw [h0, p2], fun _ => rfl, fun g => by omega, fun g => by omega⟩
end Go.Proofs.Ytnfnoefjgiojoaa
