/- A valid collation has at most one entry for codes; its groups are apart. Plain. -/
import Derived.Test.YtnfnoefjgiojoaaRefFind
namespace Go.Proofs.Ytnfnoefjgiojoaa
open Go.RowKit

theorem cmpL_vals : ∀ xs ys : List Int, cmpL xs ys = -1 ∨ cmpL xs ys = 0 ∨ cmpL xs ys = 1
  | [], [] => .inr (.inl rfl)
  | [], _ :: _ => .inl rfl
  | _ :: _, [] => .inr (.inr rfl)
  | a :: p, b :: q => by
    simp only [cmpL]
    split
    · exact .inl rfl
    · split
      · exact .inr (.inr rfl)
      · exact cmpL_vals p q
theorem cmpL_lt_trans : ∀ {xs ys zs : List Int}, cmpL xs ys < 0 → cmpL ys zs < 0 → cmpL xs zs < 0
  | [], [], _, h, _ => by simp [cmpL] at h
  | _ :: _, [], _, h, _ => by simp [cmpL] at h
  | _, _ :: _, [], _, h => by simp [cmpL] at h
  | [], _ :: _, _ :: _, _, _ => by simp [cmpL]
  | a :: _, b :: _, c :: _, h1, h2 => by
    simp only [cmpL] at *
    by_cases e1 : a < b
    · by_cases e2 : b < c
      · rw [if_pos (by omega)]; omega
      · rw [if_neg e2] at h2
        by_cases e3 : c < b
        · rw [if_pos e3] at h2; omega
        · rw [if_pos (by omega)]; omega
    · rw [if_neg e1] at h1
      by_cases e4 : b < a
      · rw [if_pos e4] at h1; omega
      · rw [if_neg e4] at h1
        by_cases e2 : b < c
        · rw [if_pos (by omega)]; omega
        · rw [if_neg e2] at h2
          by_cases e3 : c < b
          · rw [if_pos e3] at h2; omega
          · rw [if_neg e3] at h2
            rw [if_neg (by omega), if_neg (by omega)]
            exact cmpL_lt_trans h1 h2
theorem cmpL_self (xs : List Int) : cmpL xs xs = 0 := (cmpL_eq_zero xs xs).2 rfl
theorem cmpL_lt_ne {xs ys : List Int} (h : cmpL xs ys < 0) : xs ≠ ys := fun e => by rw [e, cmpL_self] at h; omega

theorem ents_step0 {base : Int} {x : Ent} {r : List Ent} {p : Option Ent} (h : entsErr base (x :: r) p = 0) : entErr1 base x = 0 ∧ (∀ y, p = some y → cmpL y.codes x.codes < 0) ∧ entsErr base r (some x) = 0 := by
  unfold entsErr at h
  by_cases h1 : entErr1 base x = 0
  · simp only [h1, ne_eq, not_true_eq_false, if_false] at h
    cases p with
    | none => exact ⟨h1, (fun y e => by cases e), h⟩
    | some z =>
      simp only at h
      split at h
      · cases h
      · next h2 => exact ⟨h1, (fun y e => by injection e with e; subst e; omega), h⟩
  · rw [if_pos h1] at h; exact absurd h h1
theorem ents_sorted {base : Int} : ∀ {es : List Ent} {p : Option Ent}, entsErr base es p = 0 → es.Pairwise (fun x y => cmpL x.codes y.codes < 0) ∧ ∀ y, p = some y → ∀ x ∈ es, cmpL y.codes x.codes < 0
  | [], _, _ => ⟨List.Pairwise.nil, fun _ _ _ h => by cases h⟩
  | x :: r, p, h => by
    obtain ⟨_, h1, h2⟩ := ents_step0 h
    obtain ⟨i1, i2⟩ := ents_sorted h2
    refine ⟨List.pairwise_cons.2 ⟨i2 x rfl, i1⟩, fun y hy z hz => ?_⟩
    rcases List.mem_cons.1 hz with rfl | hz
    · exact h1 y hy
    · exact cmpL_lt_trans (h1 y hy) (i2 x rfl z hz)
theorem lastE_cons (x : Ent) (r : List Ent) (zs : List Int) : lastE (x :: r) zs = match lastE r zs with | some e => some e | none => if x.codes = zs then some x.elems else none := by
  have : ∀ (l : List Ent) (q : Option (List Elt)), l.foldl (fun r x => if x.codes = zs then some x.elems else r) q = match l.foldl (fun r x => if x.codes = zs then some x.elems else r) none with | some e => some e | none => q := by
    intro l
    induction l with
    | nil => intro q; rfl
    | cons y l ih =>
      intro q
      simp only [List.foldl_cons]
      rw [ih, ih (if y.codes = zs then some y.elems else none)]
      split
      · rfl
      · split <;> rfl
  unfold lastE
  rw [List.foldl_cons, this]
theorem lastE_first : ∀ {es : List Ent}, es.Pairwise (fun x y => cmpL x.codes y.codes < 0) → ∀ zs, lastE es zs = firstE es zs
  | [], _, _ => rfl
  | x :: r, h, zs => by
    obtain ⟨h1, h2⟩ := List.pairwise_cons.1 h
    rw [lastE_cons, lastE_first h2 zs]
    unfold firstE
    by_cases e : x.codes = zs
    · rw [List.find?_cons_of_pos (by simpa using e)]
      have : r.find? (fun x => decide (x.codes = zs)) = none := by
        rw [List.find?_eq_none]
        intro y hy
        have := cmpL_lt_ne (h1 y hy)
        rw [e] at this
        simpa using fun e' => this e'.symm
      rw [this]
      simp [e]
    · rw [List.find?_cons_of_neg (by simpa using e)]
      cases r.find? (fun x => decide (x.codes = zs)) <;> simp [e]
theorem last_first {c : Col} (h : colErr c = 0) (zs : List Int) : lastE c.ents zs = firstE c.ents zs := lastE_first (ents_sorted (col_ents h)).1 zs

theorem col_grps {c : Col} (h : colErr c = 0) : grpErr c.base c.grps = 0 ∧ 1 ≤ c.base ∧ c.base ≤ 65502 ∧ (1 ≤ c.second ∧ c.second ≤ 65535) ∧ (1 ≤ c.third ∧ c.third ≤ 65535) := by
  unfold colErr at h
  split at h
  · cases h
  · next h0 =>
    split at h
    · next h1 => exact absurd h h1
    · next h1 =>
      have h2 : inR 1 65535 c.second = true := by cases hh : inR 1 65535 c.second <;> simp_all
      have h3 : inR 1 65535 c.third = true := by cases hh : inR 1 65535 c.third <;> simp_all
      exact ⟨by simpa using h1, by omega, by omega, inR_iff.1 h2, inR_iff.1 h3⟩
theorem grp_facts {base : Int} {gs : List Grp} (h : grpErr base gs = 0) : (gs.map Grp.name).Nodup ∧ (∀ g ∈ gs, nameOk g.name = true) ∧ (∀ g ∈ gs, 1 ≤ g.lo ∧ g.lo ≤ g.hi ∧ g.hi < base) ∧ gap gs = false := by
  unfold grpErr at h
  split at h
  · cases h
  · next h0 =>
    split at h
    · cases h
    · next h1 =>
      split at h
      · cases h
      · next h2 =>
        split at h
        · cases h
        · next h3 =>
          refine ⟨by simpa using h1, fun g hg => ?_, fun g hg => ?_, by simpa using h3⟩
          · simp at h0; exact h0 g hg
          · simp at h2
            have := h2 g hg
            unfold badG at this
            omega
theorem gap_apart : ∀ {gs : List Grp}, (∀ g ∈ gs, g.lo ≤ g.hi) → gap gs = false → gs.Pairwise (fun a b => a.hi < b.lo)
  | [], _, _ => List.Pairwise.nil
  | [_], _, _ => List.pairwise_singleton _ _
  | g :: k :: r, hl, h => by
    simp only [gap, Bool.or_eq_false_iff] at h
    have ih := gap_apart (gs := k :: r) (fun x hx => hl x (by simp [hx])) h.2
    have h1 : k.lo = g.hi + 1 := by simpa using h.1
    have h2 := hl k (by simp)
    refine List.pairwise_cons.2 ⟨fun x hx => ?_, ih⟩
    rcases List.mem_cons.1 hx with rfl | hx
    · omega
    · have := (List.pairwise_cons.1 ih).1 x hx
      omega
theorem apart_one : ∀ {gs : List Grp}, gs.Pairwise (fun a b => a.hi < b.lo) → ∀ {g k : Grp} {x : Int}, g ∈ gs → k ∈ gs → inR g.lo g.hi x = true → inR k.lo k.hi x = true → g = k
  | [], _, _, _, _, h, _, _, _ => by cases h
  | y :: r, hp, g, k, x, hg, hk, h1, h2 => by
    obtain ⟨p1, p2⟩ := List.pairwise_cons.1 hp
    have a1 := inR_iff.1 h1
    have a2 := inR_iff.1 h2
    rcases List.mem_cons.1 hg with e1 | hg'
    · rcases List.mem_cons.1 hk with e2 | hk'
      · rw [e1, e2]
      · have := p1 k hk'; rw [← e1] at this; omega
    · rcases List.mem_cons.1 hk with e2 | hk'
      · have := p1 g hg'; rw [← e2] at this; omega
      · exact apart_one p2 hg' hk' h1 h2
end Go.Proofs.Ytnfnoefjgiojoaa
