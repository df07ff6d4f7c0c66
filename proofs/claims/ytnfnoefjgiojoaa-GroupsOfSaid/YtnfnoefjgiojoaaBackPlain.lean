/- Reordering by the names in their original order gives back the collation; what Apply gives is valid. Plain. -/
import Derived.Test.YtnfnoefjgiojoaaKeepPlain
import Derived.Test.YtnfnoefjgiojoaaLawsE
namespace Go.Proofs.Ytnfnoefjgiojoaa
open Go.RowKit

/-- two lists of groups with the same names and widths are laid alike -/
theorem relo_alike (lo : Int) : ∀ (l r : List Grp), l.map (fun g => (g.name, g.hi - g.lo)) = r.map (fun g => (g.name, g.hi - g.lo)) → relo lo l = relo lo r := by
  intro l
  induction l generalizing lo with
  | nil => intro r h; cases r with | nil => rfl | cons y r => simp at h
  | cons x l ih =>
    intro r h
    cases r with
    | nil => simp at h
    | cons y r =>
      simp only [List.map_cons, List.cons.injEq, Prod.mk.injEq] at h
      obtain ⟨⟨h1, h2⟩, h3⟩ := h
      simp only [relo, h1]
      rw [show lo + x.hi - x.lo = lo + y.hi - y.lo by omega, ih _ r h3]

section
variable {gs : List Grp} {names : List ByteArray}
/-- a group's place by its name -/
theorem gOf_get (hd : (gnames gs).Nodup) {i : Nat} (hi : i < gs.length) : gOf gs gs[i].name = gs[i] := by
  have h1 : gs[i].name ∈ gnames gs := List.mem_map.2 ⟨_, List.getElem_mem hi, rfl⟩
  obtain ⟨hk, he⟩ := gOf_pos h1
  have h2 := (gOf_spec h1).2
  rw [← he] at h2
  have hnd := hd
  unfold gnames at hnd
  have h3 : (gs.map Grp.name)[pos (gnames gs) gs[i].name]'(by simpa using hk) = (gs.map Grp.name)[i]'(by simpa using hi) := by simpa using h2
  have h4 := (List.getElem_inj hnd).1 h3
  rw [← he]
  congr 1
theorem raw_all (og : List Grp) (hs : ∀ s ∈ gnames og, s ∈ gnames gs) : ordRaw og (gnames gs) = (gnames gs).map (gOf og) := by
  unfold ordRaw
  rw [List.filter_eq_nil_iff.2 (fun g hg => by simpa using hs g.name (List.mem_map.2 ⟨g, hg, rfl⟩)), List.append_nil]
end

theorem ord_back {c : Col} {names : List ByteArray} (h : ordErr c names = 0) : ordG (ordG c.grps names) (gnames c.grps) = c.grps := by
  have hf := ordF h
  have hk := kpF h
  have hlo : firstLo (ordG c.grps names) = firstLo c.grps := by
    by_cases h0 : 0 < c.grps.length
    · have h1 : 0 < (ordG c.grps names).length := by rw [hf.len]; exact h0
      rw [← firstLo_get h1, ← firstLo_get h0, hf.lo0' h1 h0]
    · have e : c.grps = [] := List.eq_nil_of_length_eq_zero (by omega)
      have e2 : ordG c.grps names = [] := List.eq_nil_of_length_eq_zero (by rw [hf.len]; omega)
      rw [e2, e]
  have hmm : ∀ s ∈ gnames (ordG c.grps names), s ∈ gnames c.grps := fun s hs => (ord_mem hf.sub).1 hs
  clear hf
  generalize ordG c.grps names = og at *
  unfold ordG
  rw [raw_all og hmm, hlo]
  refine Eq.trans (relo_alike _ _ c.grps ?_) (ordCon h)
  rw [List.map_map]
  unfold gnames
  rw [List.map_map]
  refine List.map_congr_left fun g hg => ?_
  obtain ⟨i, hi, rfl⟩ := List.getElem_of_mem hg
  obtain ⟨m, hm, e1, e2, e3⟩ := hk.nm i hi
  simp only [Function.comp, e2]
  exact Prod.ext e1 e3

theorem ord_self {c : Col} (h : relo (firstLo c.grps) c.grps = c.grps) : ordG c.grps [] = c.grps := by
  unfold ordG ordRaw
  simp only [List.map_nil, List.nil_append]
  rw [List.filter_eq_self.2 (fun g _ => by simp)]
  exact h

theorem movF_self {gs : List Grp} (hd : (gnames gs).Nodup) (x : Int) : movF gs gs x = x := by
  cases hc : conG gs x with
  | none => exact movF_none hc
  | some g =>
    rw [movF_some hc]
    obtain ⟨i, hi, rfl⟩ := List.getElem_of_mem (conG_mem hc).1
    rw [gOf_get hd hi]; omega

theorem movF_back {c : Col} {names : List ByteArray} (h : ordErr c names = 0) (x : Int) : movF (ordG c.grps names) c.grps (movF c.grps (ordG c.grps names) x) = x := by
  have hk := kpF h
  generalize ordG c.grps names = og at *
  generalize c.grps = gs at *
  rcases grpd_cases gs x with ⟨i, hi, _, h2, h3⟩ | ⟨_, h1⟩
  · obtain ⟨m, hm, n1, n2, n3⟩ := hk.inside hi h2 h3
    obtain ⟨k, hk', e1, e2, e3⟩ := (grpd_cases og (movF gs og x)).resolve_right (fun g => by omega)
    have hkm : k = m := by omega
    subst hkm
    rw [movF_some (conG_at hk' e2 e3), n1, gOf_get hk.nd hi, n2]
    omega
  · obtain ⟨p1, p2⟩ := hk.outside h1
    rw [p1]
    rcases grpd_cases og x with ⟨k, hk', e1, _, _⟩ | ⟨_, e2⟩
    · omega
    · exact movF_none (conG_none e2)

/-! the collation that Apply gives is valid -/
theorem grpErr_og {c : Col} {names : List ByteArray} (h : ordErr c names = 0) (hg : grpErr c.base c.grps = 0) : grpErr c.base (ordG c.grps names) = 0 := by
  have hf := ordF h
  have hk := kpF h
  have hnm : ∀ g ∈ c.grps, nameOk g.name = true := by
    unfold grpErr at hg
    split at hg
    · omega
    · rename_i h6
      intro g hgm
      have h2 : c.grps.any (fun g => !nameOk g.name) = false := by simpa using h6
      have := List.any_eq_false.1 h2 g hgm
      simpa using this
  have hbd := (grp_ok hg).2
  refine grp0 (fun t ht => ?_) hf.nodup (fun t ht hb => ?_) (fun t ht => hf.next ht)
  · have h1 : (ordG c.grps names)[t].name ∈ gnames (ordG c.grps names) := List.mem_map.2 ⟨_, List.getElem_mem ht, rfl⟩
    rw [ord_mem hf.sub] at h1
    obtain ⟨y, hy, he⟩ := List.mem_map.1 h1
    rw [← he]; exact hnm y hy
  · have htb := hf.raw_get ht
    obtain ⟨g, hgm, _, e2⟩ := htb
    have hgb := hbd g hgm
    have hin : inR (ordG c.grps names)[t].lo (ordG c.grps names)[t].hi (ordG c.grps names)[t].lo = true := inR_true (Int.le_refl _) (by omega)
    have hin2 : inR (ordG c.grps names)[t].lo (ordG c.grps names)[t].hi (ordG c.grps names)[t].hi = true := inR_true (by omega) (Int.le_refl _)
    obtain ⟨g1, m1, r1⟩ := (hk.cov _).2 ⟨_, List.getElem_mem ht, hin⟩
    obtain ⟨g2, m2, r2⟩ := (hk.cov _).2 ⟨_, List.getElem_mem ht, hin2⟩
    rw [inR_iff] at r1 r2
    have b1 := hbd g1 m1
    have b2 := hbd g2 m2
    unfold badG at hb
    omega

/-- a moved weight -/
theorem movF_bd {c : Col} {names : List ByteArray} (h : ordErr c names = 0) {base : Int} (hbd : ∀ g ∈ c.grps, 1 ≤ g.lo ∧ g.lo ≤ g.hi ∧ g.hi < base) (x : Int) :
    movF c.grps (ordG c.grps names) x = x ∨ (1 ≤ x ∧ x < base ∧ 1 ≤ movF c.grps (ordG c.grps names) x ∧ movF c.grps (ordG c.grps names) x < base) := by
  have hk := kpF h
  rcases grpd_cases c.grps x with ⟨i, hi, _, h2, h3⟩ | ⟨_, h1⟩
  · obtain ⟨m, hm, n1, n2, n3⟩ := hk.inside hi h2 h3
    obtain ⟨k, hk', e1, e2, e3⟩ := (grpd_cases (ordG c.grps names) (movF c.grps (ordG c.grps names) x)).resolve_right (fun g => by omega)
    obtain ⟨g, hg, hr⟩ := (hk.cov _).2 ⟨_, List.getElem_mem hk', e2⟩
    rw [inR_iff] at h2 hr
    have b1 := hbd g hg
    have b2 := hbd _ (List.getElem_mem hi)
    right; omega
  · left; exact (hk.outside h1).1
/-- how a function moves weights: those it moves stay within 1 and base -/
def Mvs (base : Int) (F : Int → Int) : Prop := ∀ p, F p = p ∨ (1 ≤ p ∧ p < base ∧ 1 ≤ F p ∧ F p < base)
section
variable {base : Int} {F : Int → Int}
theorem elt_mov (hF : Mvs base F) (hb : base ≤ 65502) {e : Elt} (h : eltErr e = 0) : eltErr (movE F e) = 0 := by
  have hp := hF e.p
  have e1 : (movE F e).p = F e.p := rfl
  have e2 : (movE F e).s = e.s := rfl
  have e3 : (movE F e).t = e.t := rfl
  have e4 : (movE F e).v = e.v := rfl
  generalize movE F e = y at *
  unfold eltErr at h ⊢
  split at h
  · omega
  · rename_i h1
    split at h
    · omega
    · rename_i h2
      rw [if_neg (by rw [e1, e2, e3]; omega), e1, e2, e3, e4]
      refine if_neg ?_
      intro g
      apply h2
      rcases g with ⟨g1, g2⟩ | g | ⟨g1, g2⟩
      · exact .inl ⟨by omega, g2⟩
      · exact .inr (.inl g)
      · exact .inr (.inr ⟨g1, by omega⟩)
theorem fe_zero : ∀ (l : List Int), firstErr l = 0 ↔ ∀ x ∈ l, x = 0
  | [] => by simp [firstErr]
  | x :: r => by
    have ih := fe_zero r
    simp only [firstErr, List.mem_cons, forall_eq_or_imp]
    by_cases hx : x = 0
    · simp [hx, ih]
    · simp [hx]
theorem ent_mov (hF : Mvs base F) (hb : base ≤ 65502) {x : Ent} (h : entErr1 base x = 0) : entErr1 base (movEnt F x) = 0 := by
  have f1 : (movEnt F x).codes = x.codes := rfl
  have f2 : (movEnt F x).elems = x.elems.map (movE F) := rfl
  generalize movEnt F x = y at *
  unfold entErr1 at h ⊢
  rw [f1, f2, List.length_map]
  split at h
  · omega
  · rename_i h1
    split at h
    · omega
    · rename_i h2
      split at h
      · rename_i h3; exact absurd h h3
      · rename_i h3
        split at h
        · omega
        · rename_i h4
          rw [if_neg h1, if_neg h2]
          have h3' : firstErr (x.elems.map eltErr) = 0 := by simpa using h3
          rw [fe_zero] at h3'
          have h5 : firstErr ((x.elems.map (movE F)).map eltErr) = 0 := by
            rw [fe_zero]
            intro z hz
            obtain ⟨y, hy, rfl⟩ := List.mem_map.1 hz
            obtain ⟨e, he, rfl⟩ := List.mem_map.1 hy
            exact elt_mov hF hb (h3' _ (List.mem_map.2 ⟨e, he, rfl⟩))
          rw [if_neg (by rw [h5]; simp)]
          refine if_neg ?_
          intro g
          apply h4
          obtain ⟨y, hy, hyb⟩ := List.any_eq_true.1 g
          obtain ⟨e, he, rfl⟩ := List.mem_map.1 hy
          refine List.any_eq_true.2 ⟨e, he, ?_⟩
          have hyb' : base ≤ F e.p := of_decide_eq_true hyb
          have := hF e.p
          show decide (base ≤ e.p) = true
          rw [decide_eq_true_eq]
          omega
theorem ents_mov (hF : Mvs base F) (hb : base ≤ 65502) : ∀ (l : List Ent) (p : Option Ent), entsErr base l p = 0 → entsErr base (l.map (movEnt F)) (p.map (movEnt F)) = 0
  | [], _, _ => by simp [entsErr]
  | x :: r, p, h => by
    simp only [List.map_cons]
    unfold entsErr at h ⊢
    split at h
    · rename_i h1; exact absurd h h1
    · rename_i h1
      have h2 : entErr1 base (movEnt F x) = 0 := ent_mov hF hb (by simpa using h1)
      rw [if_neg (by simpa using h2)]
      cases p with
      | none =>
        simp only [Option.map_none] at h ⊢
        exact ents_mov hF hb r (some x) h
      | some y =>
        simp only [Option.map_some] at h ⊢
        split at h
        · omega
        · rename_i h3
          have : ¬ (0 ≤ cmpL (movEnt F y).codes (movEnt F x).codes) := h3
          rw [if_neg this]
          exact ents_mov hF hb r (some x) h
end

theorem app_valid {c : Col} {names : List ByteArray} (h : ordErr c names = 0) : colErr (appC c names) = 0 := by
  have hc : colErr c = 0 := by
    unfold ordErr at h
    split at h
    · rename_i h0; exact absurd h h0
    · rename_i h0; simpa using h0
  obtain ⟨b1, b2, b3⟩ := col_ok hc
  have hbd := (grp_ok b3).2
  rw [appC1 h]
  unfold colErr at hc ⊢
  dsimp only
  split at hc
  · omega
  · rename_i h1
    rw [if_neg h1]
    split at hc
    · rename_i h2; exact absurd hc h2
    · rw [if_neg (by simpa using grpErr_og h b3)]
      exact ents_mov (fun p => movF_bd h hbd p) b2 c.ents none hc

theorem movEnt_id {F : Int → Int} (hF : ∀ x, F x = x) (x : Ent) : movEnt F x = x := by
  obtain ⟨cs, es⟩ := x
  unfold movEnt
  congr 1
  dsimp only
  conv => rhs; rw [← List.map_id es]
  refine List.map_congr_left fun e _ => ?_
  simp [movE, hF]

theorem app_none {c : Col} {names : List ByteArray} (h : ordErr c names = 0) : ordErr c [] = 0 ∧ appC c [] = c := by
  have h0 : ordErr c [] = 0 := by
    unfold ordErr at h ⊢
    split at h
    · rename_i h1; exact absurd h h1
    · rename_i h1
      rw [if_neg h1, if_neg (by simp), if_neg (by simp)]
  refine ⟨h0, ?_⟩
  rw [appC1 h0, ord_self (ordCon h)]
  have := (ordF h0).nd
  obtain ⟨es, gs, b, s, t⟩ := c
  dsimp only at *
  congr 1
  conv => rhs; rw [← List.map_id es]
  exact List.map_congr_left fun x _ => movEnt_id (movF_self this) x

theorem app_back {c : Col} {names : List ByteArray} (h : ordErr c names = 0) : ordErr (appC c names) (gnames c.grps) = 0 ∧ appC (appC c names) (gnames c.grps) = c := by
  have hf := ordF h
  have hv := app_valid h
  have h0 : ordErr (appC c names) (gnames c.grps) = 0 := by
    refine ord0 hv (fun s hs => ?_) hf.nd
    rw [appC1 h]
    exact (ord_mem hf.sub).2 hs
  refine ⟨h0, ?_⟩
  rw [appC1 h0]
  have e := appC1 h
  have hb := ord_back h
  have hmb := movF_back h
  generalize appC c names = x at *
  subst e
  dsimp only
  rw [hb]
  obtain ⟨es, gs, b, s, t⟩ := c
  dsimp only at *
  congr 1
  rw [List.map_map]
  conv => rhs; rw [← List.map_id es]
  refine List.map_congr_left fun x _ => ?_
  obtain ⟨cs, el⟩ := x
  simp only [Function.comp, movEnt, id, List.map_map]
  congr 1
  conv => rhs; rw [← List.map_id el]
  refine List.map_congr_left fun y _ => ?_
  simp [movE, hmb]
end Go.Proofs.Ytnfnoefjgiojoaa
