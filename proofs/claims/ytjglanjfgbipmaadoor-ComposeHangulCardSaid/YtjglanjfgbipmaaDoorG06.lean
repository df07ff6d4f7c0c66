/- Texts that are merged into one file: SetPlain, Norm, HgKinds, Clone, HgComps, HgDecs. -/
import Derived.Test.YtjglanjfgbipmaaDoorG01
import Derived.Test.YtjglanjfgbipmaaDoorG02
import Derived.Test.YtjglanjfgbipmaaDoorG03
import Derived.Test.YtjglanjfgbipmaaDoorG05
import Derived.Test.YtjglanjfgbipmaaDoorProg
import Derived.WalkKit
import Derived.WalkLawsBesides
import Derived.Lib.Hide
import Derived.WalkSpells
import Derived.Outline
/- Sets of code points: valid lists of ranges; two of them with the same elements are equal; clipping, merging, cutting. Plain. -/
namespace Go.Proofs.YtjglanjfgbipmaaDoor
open Go.RowKit

def anyR (rs : List Rg) (c : Int) : Bool := rs.any (fun r => inR r.lo r.hi c)
theorem hasR_any {rs : List Rg} {c : Int} (h1 : 0 ≤ c) (h2 : c ≤ 1114111) : hasR rs c = anyR rs c := by unfold hasR anyR; rw [inR_true h1 h2, Bool.true_and]
theorem anyR_iff {rs : List Rg} {c : Int} : anyR rs c = true ↔ ∃ r ∈ rs, r.lo ≤ c ∧ c ≤ r.hi := by
  unfold anyR
  rw [List.any_eq_true]
  constructor
  · rintro ⟨r, hr, h⟩; exact ⟨r, hr, inR_iff.1 h⟩
  · rintro ⟨r, hr, h⟩; exact ⟨r, hr, inR_iff.2 h⟩
/-- a valid list of ranges -/
def okR (rs : List Rg) : Prop := (∀ r ∈ rs, clipOk r) ∧ rs.Pairwise (fun a b => a.hi + 1 < b.lo)
theorem okR.nil : okR [] := ⟨fun _ h => (by cases h), List.Pairwise.nil⟩

theorem okR_unique : ∀ {xs ys : List Rg}, okR xs → okR ys → (∀ c, 0 ≤ c → c ≤ 1114111 → (anyR xs c = true ↔ anyR ys c = true)) → xs = ys
  | [], [], _, _, _ => rfl
  | [], y :: s, _, hy, h => by
    have hc := hy.1 y (by simp)
    unfold clipOk at hc
    have := (h y.lo hc.1 (by omega)).2 (anyR_iff.2 ⟨y, by simp, by omega, hc.2.1⟩)
    obtain ⟨r, hr, _⟩ := anyR_iff.1 this
    cases hr
  | x :: r, [], hx, _, h => by
    have hc := hx.1 x (by simp)
    unfold clipOk at hc
    have := (h x.lo hc.1 (by omega)).1 (anyR_iff.2 ⟨x, by simp, by omega, hc.2.1⟩)
    obtain ⟨r, hr, _⟩ := anyR_iff.1 this
    cases hr
  | x :: r, y :: s, hx, hy, h => by
    have cx := hx.1 x (by simp)
    have cy := hy.1 y (by simp)
    obtain ⟨px, qx⟩ := List.pairwise_cons.1 hx.2
    obtain ⟨py, qy⟩ := List.pairwise_cons.1 hy.2
    unfold clipOk at cx cy
    have lo : x.lo = y.lo := by
      rcases Int.lt_trichotomy x.lo y.lo with g | g | g
      · have := (h x.lo cx.1 (by omega)).1 (anyR_iff.2 ⟨x, by simp, by omega, cx.2.1⟩)
        obtain ⟨t, ht, t1, t2⟩ := anyR_iff.1 this
        rcases List.mem_cons.1 ht with rfl | ht
        · omega
        · have := py t ht; omega
      · exact g
      · have := (h y.lo cy.1 (by omega)).2 (anyR_iff.2 ⟨y, by simp, by omega, cy.2.1⟩)
        obtain ⟨t, ht, t1, t2⟩ := anyR_iff.1 this
        rcases List.mem_cons.1 ht with rfl | ht
        · omega
        · have := px t ht; omega
    have hi : x.hi = y.hi := by
      rcases Int.lt_trichotomy x.hi y.hi with g | g | g
      · have := (h (x.hi + 1) (by omega) (by omega)).2 (anyR_iff.2 ⟨y, by simp, by omega, by omega⟩)
        obtain ⟨t, ht, t1, t2⟩ := anyR_iff.1 this
        rcases List.mem_cons.1 ht with rfl | ht
        · omega
        · have := px t ht; omega
      · exact g
      · have := (h (y.hi + 1) (by omega) (by omega)).1 (anyR_iff.2 ⟨x, by simp, by omega, by omega⟩)
        obtain ⟨t, ht, t1, t2⟩ := anyR_iff.1 this
        rcases List.mem_cons.1 ht with rfl | ht
        · omega
        · have := py t ht; omega
    have e : x = y := by cases x; cases y; simp_all
    subst e
    rw [okR_unique (xs := r) (ys := s) ⟨fun t ht => hx.1 t (by simp [ht]), qx⟩ ⟨fun t ht => hy.1 t (by simp [ht]), qy⟩ (fun c c0 c1 => ?_)]
    constructor
    · intro g
      obtain ⟨t, ht, t1, t2⟩ := anyR_iff.1 g
      have := px t ht
      obtain ⟨u, hu, u1, u2⟩ := anyR_iff.1 ((h c c0 c1).1 (anyR_iff.2 ⟨t, by simp [ht], t1, t2⟩))
      rcases List.mem_cons.1 hu with rfl | hu
      · omega
      · exact anyR_iff.2 ⟨u, hu, u1, u2⟩
    · intro g
      obtain ⟨t, ht, t1, t2⟩ := anyR_iff.1 g
      have := py t ht
      obtain ⟨u, hu, u1, u2⟩ := anyR_iff.1 ((h c c0 c1).2 (anyR_iff.2 ⟨t, by simp [ht], t1, t2⟩))
      rcases List.mem_cons.1 hu with rfl | hu
      · omega
      · exact anyR_iff.2 ⟨u, hu, u1, u2⟩

/-! clipping and merging -/
def clip1 (r : Rg) : Rg := ⟨max r.lo 0, min r.hi 1114111⟩
def clipL (rs : List Rg) : List Rg := (rs.map clip1).filter (fun r => decide (r.lo ≤ r.hi))
theorem clipL_take {rs : List Rg} {i : Nat} (hi : i < rs.length) : clipL (rs.take (i + 1)) = clipL (rs.take i) ++ (if (clip1 rs[i]).lo ≤ (clip1 rs[i]).hi then [clip1 rs[i]] else []) := by
  unfold clipL
  rw [List.take_succ_eq_append_getElem hi, List.map_append, List.filter_append]
  congr 1
  by_cases h : (clip1 rs[i]).lo ≤ (clip1 rs[i]).hi <;> simp [h]
theorem clipL_len (rs : List Rg) : (clipL rs).length ≤ rs.length := by
  unfold clipL
  have := List.length_filter_le (fun r : Rg => decide (r.lo ≤ r.hi)) (rs.map clip1)
  rw [List.length_map] at this
  exact this
theorem clipL_ok (rs : List Rg) : ∀ r ∈ clipL rs, clipOk r := by
  intro r hr
  unfold clipL at hr
  rw [List.mem_filter, List.mem_map] at hr
  obtain ⟨⟨q, _, rfl⟩, h⟩ := hr
  simp at h
  unfold clipOk
  unfold clip1 at *
  dsimp only at *
  omega
theorem clipL_any {rs : List Rg} {c : Int} (h1 : 0 ≤ c) (h2 : c ≤ 1114111) : anyR (clipL rs) c = true ↔ anyR rs c = true := by
  rw [anyR_iff, anyR_iff]
  constructor
  · rintro ⟨r, hr, a, b⟩
    unfold clipL at hr
    rw [List.mem_filter, List.mem_map] at hr
    obtain ⟨⟨q, hq, rfl⟩, _⟩ := hr
    unfold clip1 at a b
    dsimp only at a b
    exact ⟨q, hq, by omega, by omega⟩
  · rintro ⟨q, hq, a, b⟩
    refine ⟨clip1 q, ?_, ?_, ?_⟩
    · unfold clipL
      rw [List.mem_filter, List.mem_map]
      refine ⟨⟨q, hq, rfl⟩, ?_⟩
      unfold clip1
      simp
      omega
    · unfold clip1; dsimp only; omega
    · unfold clip1; dsimp only; omega

/-- the last range grows -/
def growL : List Rg → Int → List Rg
  | [], _ => []
  | [x], h => [⟨x.lo, max x.hi h⟩]
  | x :: y :: r, h => x :: growL (y :: r) h
theorem growL_len : ∀ (l : List Rg) (h : Int), (growL l h).length = l.length
  | [], _ => rfl
  | [_], _ => rfl
  | x :: y :: r, h => by simp only [growL, List.length_cons, growL_len (y :: r) h]
theorem growL_set : ∀ {l : List Rg} {n : Nat} (hn : l.length = n + 1) (h : Int), growL l h = l.set n ⟨(l[n]'(by omega)).lo, max (l[n]'(by omega)).hi h⟩
  | [x], 0, _, h => rfl
  | x :: y :: r, n + 1, hn, h => by
    have := growL_set (l := y :: r) (n := n) (by simpa using hn) h
    simp only [growL, List.set_cons_succ, this, List.getElem_cons_succ]
def mrg (out : List Rg) (r : Rg) : List Rg := match out.getLast? with | some l => if r.lo ≤ l.hi + 1 then growL out r.hi else out ++ [r] | none => [r]
/-- out is what the ranges ps have become; all begin no later than b -/
structure Mg (ps out : List Rg) (b : Int) : Prop where
  ok : okR out
  any : ∀ c, anyR out c = true ↔ anyR ps c = true
  lo : ∀ r ∈ out, r.lo ≤ b
theorem Mg.nil (b : Int) : Mg [] [] b := ⟨okR.nil, fun _ => Iff.rfl, fun _ h => (by cases h)⟩
theorem growL_mem : ∀ {l : List Rg} {h : Int} {r : Rg}, r ∈ growL l h → ∃ q ∈ l, q.lo = r.lo ∧ (r.hi = q.hi ∨ (l.getLast? = some q ∧ r.hi = max q.hi h))
  | [x], h, r, hr => by
    simp only [growL, List.mem_singleton] at hr
    subst hr
    exact ⟨x, by simp, rfl, .inr ⟨rfl, rfl⟩⟩
  | x :: y :: l, h, r, hr => by
    simp only [growL, List.mem_cons] at hr
    rcases hr with rfl | hr
    · exact ⟨r, by simp, rfl, .inl rfl⟩
    · obtain ⟨q, hq, h1, h2⟩ := growL_mem hr
      exact ⟨q, by simp [hq], h1, h2.imp id (fun ⟨a, b⟩ => ⟨by rw [List.getLast?_cons_cons]; exact a, b⟩)⟩
theorem growL_any : ∀ {l : List Rg} {x q : Rg} {c : Int}, l.getLast? = some x → x.lo ≤ q.lo → q.lo ≤ x.hi + 1 → x.lo ≤ x.hi → (anyR (growL l q.hi) c = true ↔ (anyR l c = true ∨ (q.lo ≤ c ∧ c ≤ q.hi)))
  | [y], x, q, c, hl, h1, h2, h3 => by
    simp at hl
    subst hl
    rw [anyR_iff, anyR_iff]
    simp only [growL, List.mem_singleton]
    constructor
    · rintro ⟨_, rfl, a, b⟩
      dsimp only at a b
      by_cases g : c ≤ y.hi
      · exact .inl ⟨y, rfl, a, g⟩
      · exact .inr (by omega)
    · rintro (⟨_, rfl, a, b⟩ | ⟨a, b⟩)
      · exact ⟨_, rfl, a, by dsimp only; omega⟩
      · exact ⟨_, rfl, by dsimp only; omega, by dsimp only; omega⟩
  | z :: y :: r, x, q, c, hl, h1, h2, h3 => by
    rw [List.getLast?_cons_cons] at hl
    have ih := growL_any (l := y :: r) (x := x) (q := q) (c := c) hl h1 h2 h3
    simp only [growL]
    have e : ∀ (s : List Rg), anyR (z :: s) c = true ↔ (inR z.lo z.hi c = true ∨ anyR s c = true) := fun s => by unfold anyR; rw [List.any_cons, Bool.or_eq_true]
    rw [e, e, ih, or_assoc]
theorem growL_pw : ∀ {l : List Rg} {h : Int}, l.Pairwise (fun a b => a.hi + 1 < b.lo) → (growL l h).Pairwise (fun a b => a.hi + 1 < b.lo)
  | [], _, _ => List.Pairwise.nil
  | [x], _, _ => List.pairwise_singleton _ _
  | x :: y :: r, h, hp => by
    obtain ⟨p1, p2⟩ := List.pairwise_cons.1 hp
    simp only [growL]
    refine List.pairwise_cons.2 ⟨fun t ht => ?_, growL_pw p2⟩
    obtain ⟨q, hq, h1, _⟩ := growL_mem ht
    have := p1 q hq
    omega
theorem anyR_append {xs ys : List Rg} {c : Int} : anyR (xs ++ ys) c = true ↔ (anyR xs c = true ∨ anyR ys c = true) := by unfold anyR; rw [List.any_append, Bool.or_eq_true]
theorem anyR_one {q : Rg} {c : Int} : anyR [q] c = true ↔ (q.lo ≤ c ∧ c ≤ q.hi) := by unfold anyR; simp [inR_iff]
theorem last_max : ∀ {l : List Rg} {x : Rg}, (∀ r ∈ l, clipOk r) → l.Pairwise (fun a b => a.hi + 1 < b.lo) → l.getLast? = some x → ∀ r ∈ l, r.hi ≤ x.hi
  | [], _, _, _, h, _, _ => by cases h
  | [y], x, _, _, h, r, hr => by simp at h hr; subst h; subst hr; exact Int.le_refl _
  | z :: y :: l, x, hc, hp, h, r, hr => by
    rw [List.getLast?_cons_cons] at h
    obtain ⟨p1, p2⟩ := List.pairwise_cons.1 hp
    have ih := last_max (l := y :: l) (fun t ht => hc t (by simp [ht])) p2 h
    rcases List.mem_cons.1 hr with rfl | hr
    · have h1 := p1 y (by simp)
      have h2 := hc y (by simp)
      have h3 := ih y (by simp)
      unfold clipOk at h2
      omega
    · exact ih r hr
theorem Mg.step {ps out : List Rg} {b : Int} {q : Rg} (h : Mg ps out b) (hb : b ≤ q.lo) (hq : clipOk q) : Mg (ps ++ [q]) (mrg out q) q.lo := by
  obtain ⟨⟨o1, o2⟩, ha, hl⟩ := h
  unfold clipOk at hq
  unfold mrg
  cases hx : out.getLast? with
  | none =>
    have : out = [] := List.getLast?_eq_none_iff.1 hx
    subst this
    refine ⟨⟨fun r hr => ?_, List.pairwise_singleton _ _⟩, fun c => ?_, fun r hr => ?_⟩
    · simp at hr; subst hr; exact hq
    · rw [anyR_append, ← ha c]
      have : ¬ anyR [] c = true := by unfold anyR; simp
      simp [this]
    · simp at hr; subst hr; exact Int.le_refl _
  | some x =>
    have hxm : x ∈ out := List.mem_of_getLast? hx
    have hxo := o1 x hxm
    have hxl := hl x hxm
    unfold clipOk at hxo
    simp only
    split
    · next g =>
      refine ⟨⟨fun r hr => ?_, growL_pw o2⟩, fun c => ?_, fun r hr => ?_⟩
      · obtain ⟨t, ht, h1, h2⟩ := growL_mem hr
        have := o1 t ht
        unfold clipOk at this ⊢
        rcases h2 with h2 | ⟨_, h2⟩ <;> omega
      · rw [growL_any hx (by omega) g (by omega), anyR_append, ha c, anyR_one]
      · obtain ⟨t, ht, h1, _⟩ := growL_mem hr
        have := hl t ht
        omega
    · next g =>
      have hm := last_max o1 o2 hx
      refine ⟨⟨fun r hr => ?_, ?_⟩, fun c => ?_, fun r hr => ?_⟩
      · rcases List.mem_append.1 hr with hr | hr
        · exact o1 r hr
        · simp at hr; subst hr; exact hq
      · rw [List.pairwise_append]
        refine ⟨o2, List.pairwise_singleton _ _, fun a ha' t ht => ?_⟩
        simp at ht
        subst ht
        have := hm a ha'
        omega
      · rw [anyR_append, anyR_append, ha c]
      · rcases List.mem_append.1 hr with hr | hr
        · have := hl r hr; omega
        · simp at hr; subst hr; exact Int.le_refl _

/-! the reference: cutting -/
/-- a number placed in an ascending list -/
def placeL : List Int → Int → List Int
  | [], n => [n]
  | x :: r, n => if n ≤ x then (if n < x then n :: x :: r else x :: r) else x :: placeL r n
theorem placeL_mem : ∀ {l : List Int} {n x : Int}, x ∈ placeL l n ↔ (x = n ∨ x ∈ l)
  | [], n, x => by simp [placeL]
  | y :: r, n, x => by
    simp only [placeL]
    split
    · split
      · simp
      · have : n = y := by omega
        subst this
        simp
    · rw [List.mem_cons, placeL_mem, List.mem_cons]
      constructor
      · rintro (h | h | h)
        · exact .inr (.inl h)
        · exact .inl h
        · exact .inr (.inr h)
      · rintro (h | h | h)
        · exact .inr (.inl h)
        · exact .inl h
        · exact .inr (.inr h)
theorem placeL_asc : ∀ {l : List Int} {n : Int}, l.Pairwise (· < ·) → (placeL l n).Pairwise (· < ·)
  | [], n, _ => List.pairwise_singleton _ _
  | y :: r, n, h => by
    obtain ⟨h1, h2⟩ := List.pairwise_cons.1 h
    simp only [placeL]
    split
    · split
      · refine List.pairwise_cons.2 ⟨fun t ht => ?_, h⟩
        rcases List.mem_cons.1 ht with rfl | ht
        · assumption
        · have := h1 t ht; omega
      · exact h
    · refine List.pairwise_cons.2 ⟨fun t ht => ?_, placeL_asc h2⟩
      rcases placeL_mem.1 ht with rfl | ht
      · omega
      · exact h1 t ht
def cut1 (l : List Int) (r : Rg) : List Int :=
  let l1 := if inR 0 1114111 r.lo = true then placeL l r.lo else l
  if 0 ≤ r.hi ∧ r.hi < 1114111 then placeL l1 (r.hi + 1) else l1
def cutsL (l : List Int) (rs : List Rg) : List Int := placeL (rs.foldl cut1 l) 0
theorem cut_take {rs : List Rg} {l : List Int} {i : Nat} (hi : i < rs.length) : (rs.take (i + 1)).foldl cut1 l = cut1 ((rs.take i).foldl cut1 l) rs[i] := by
  rw [List.take_succ_eq_append_getElem hi, List.foldl_append]; rfl
structure Ct (rs : List Rg) (l : List Int) : Prop where
  asc : l.Pairwise (· < ·)
  bd : ∀ x ∈ l, 0 ≤ x ∧ x ≤ 1114111
  lo : ∀ r ∈ rs, 0 ≤ r.lo → r.lo ≤ 1114111 → r.lo ∈ l
  hi : ∀ r ∈ rs, 0 ≤ r.hi → r.hi < 1114111 → r.hi + 1 ∈ l
theorem Ct.nil : Ct [] [] := ⟨List.Pairwise.nil, fun _ h => (by cases h), fun _ h => (by cases h), fun _ h => (by cases h)⟩
theorem Ct.place {rs : List Rg} {l : List Int} (h : Ct rs l) {n : Int} (h1 : 0 ≤ n) (h2 : n ≤ 1114111) : Ct rs (placeL l n) :=
  ⟨placeL_asc h.asc, fun x hx => by rcases placeL_mem.1 hx with rfl | hx; exact ⟨h1, h2⟩; exact h.bd x hx, fun r hr a b => placeL_mem.2 (.inr (h.lo r hr a b)), fun r hr a b => placeL_mem.2 (.inr (h.hi r hr a b))⟩
theorem Ct.step {rs : List Rg} {l : List Int} (h : Ct rs l) (r : Rg) : Ct (rs ++ [r]) (cut1 l r) := by
  unfold cut1
  have h1 : ∃ l1, (if inR 0 1114111 r.lo = true then placeL l r.lo else l) = l1 ∧ Ct rs l1 ∧ (0 ≤ r.lo → r.lo ≤ 1114111 → r.lo ∈ l1) := by
    by_cases g : inR 0 1114111 r.lo = true
    · have gg := inR_iff.1 g
      exact ⟨_, rfl, by rw [if_pos g]; exact h.place gg.1 gg.2, fun _ _ => by rw [if_pos g]; exact placeL_mem.2 (.inl rfl)⟩
    · refine ⟨_, rfl, by rw [if_neg g]; exact h, fun a b => absurd (inR_true a b) g⟩
  obtain ⟨l1, e, c1, c2⟩ := h1
  dsimp only
  rw [e]
  have h2 : ∃ l2, (if 0 ≤ r.hi ∧ r.hi < 1114111 then placeL l1 (r.hi + 1) else l1) = l2 ∧ Ct rs l2 ∧ (0 ≤ r.lo → r.lo ≤ 1114111 → r.lo ∈ l2) ∧ (0 ≤ r.hi → r.hi < 1114111 → r.hi + 1 ∈ l2) := by
    by_cases g : 0 ≤ r.hi ∧ r.hi < 1114111
    · exact ⟨_, rfl, by rw [if_pos g]; exact c1.place (by omega) (by omega), fun a b => by rw [if_pos g]; exact placeL_mem.2 (.inr (c2 a b)), fun _ _ => by rw [if_pos g]; exact placeL_mem.2 (.inl rfl)⟩
    · exact ⟨_, rfl, by rw [if_neg g]; exact c1, fun a b => by rw [if_neg g]; exact c2 a b, fun a b => absurd ⟨a, b⟩ g⟩
  obtain ⟨l2, e2, d1, d2, d3⟩ := h2
  rw [e2]
  refine ⟨d1.asc, d1.bd, fun t ht a b => ?_, fun t ht a b => ?_⟩
  · rcases List.mem_append.1 ht with ht | ht
    · exact d1.lo t ht a b
    · simp at ht; subst ht; exact d2 a b
  · rcases List.mem_append.1 ht with ht | ht
    · exact d1.hi t ht a b
    · simp at ht; subst ht; exact d3 a b
theorem Ct.fold : ∀ (rs : List Rg) {qs : List Rg} {l : List Int}, Ct qs l → Ct (qs ++ rs) (rs.foldl cut1 l)
  | [], qs, l, h => by simpa using h
  | r :: rs, qs, l, h => by
    have := Ct.fold rs (h.step r)
    rw [List.append_assoc] at this
    exact this
theorem Ct.cuts {rs qs : List Rg} {l : List Int} (h : Ct qs l) : Ct (qs ++ rs) (cutsL l rs) ∧ 0 ∈ cutsL l rs :=
  ⟨(Ct.fold rs h).place (by omega) (by omega), placeL_mem.2 (.inl rfl)⟩

/-- where the next part begins -/
def nxt (cs : List Int) (k : Nat) : Int := (cs[k]?).getD 1114112
/-- the ranges of the first k parts, and whether the last part is in -/
def bld (p : Int → Bool) (cs : List Int) : Nat → List Rg × Bool
  | 0 => ([], false)
  | k + 1 =>
    let s := bld p cs k
    let c := nxt cs k
    let h := nxt cs (k + 1) - 1
    if p c = true then (if s.2 = true then growL s.1 h else s.1 ++ [⟨c, h⟩], true) else (s.1, false)
/-- the valid list of ranges with the same elements -/
def canR (rs : List Rg) : List Rg := (bld (hasR rs) (cutsL (cutsL [] rs) []) (cutsL (cutsL [] rs) []).length).1
structure Bd (p : Int → Bool) (out : List Rg) (o : Bool) (n : Int) : Prop where
  ok : okR out
  any : ∀ c, 0 ≤ c → c < n → (anyR out c = true ↔ p c = true)
  hi : ∀ r ∈ out, r.hi < n
  yes : o = true → ∃ x, out.getLast? = some x ∧ x.hi = n - 1
  no : o = false → ∀ r ∈ out, r.hi + 1 < n
theorem Bd.step {p : Int → Bool} {out : List Rg} {o : Bool} {n m : Int} (h : Bd p out o n) (h0 : 0 ≤ n) (hm : n < m) (hmx : m ≤ 1114112) (hc : ∀ c, n ≤ c → c < m → p c = p n) :
    Bd p (if p n = true then (if o = true then growL out (m - 1) else out ++ [⟨n, m - 1⟩], true) else (out, false)).1 (if p n = true then (if o = true then growL out (m - 1) else out ++ [⟨n, m - 1⟩], true) else (out, false)).2 m := by
  obtain ⟨⟨o1, o2⟩, ha, hh, hy, hn⟩ := h
  by_cases hp : p n = true
  · rw [if_pos hp]
    dsimp only
    cases o with
    | true =>
      rw [if_pos rfl]
      obtain ⟨x, hx, hxh⟩ := hy rfl
      have hxm := List.mem_of_getLast? hx
      have hxo := o1 x hxm
      unfold clipOk at hxo
      refine ⟨⟨fun r hr => ?_, growL_pw o2⟩, fun c c0 c1 => ?_, fun r hr => ?_, fun _ => ?_, fun e => by cases e⟩
      · obtain ⟨t, ht, h1, h2⟩ := growL_mem hr
        have := o1 t ht
        unfold clipOk at this ⊢
        rcases h2 with h2 | ⟨_, h2⟩ <;> omega
      · rw [growL_any (q := ⟨n, m - 1⟩) hx (by dsimp only; omega) (by dsimp only; omega) (by omega)]
        dsimp only
        by_cases g : c < n
        · rw [ha c c0 g]
          constructor
          · rintro (h | h)
            · exact h
            · omega
          · exact .inl
        · rw [hc c (by omega) c1]
          exact ⟨fun _ => hp, fun _ => .inr (by omega)⟩
      · obtain ⟨t, ht, h1, h2⟩ := growL_mem hr
        have := hh t ht
        rcases h2 with h2 | ⟨_, h2⟩ <;> omega
      · have hne : out ≠ [] := by rintro rfl; cases hx
        obtain ⟨k, hk⟩ : ∃ k, out.length = k + 1 := ⟨out.length - 1, by have := List.length_pos_iff.2 hne; omega⟩
        rw [growL_set hk]
        have hxk : out[k]'(by omega) = x := by
          rw [List.getLast?_eq_getElem?, hk] at hx
          simp at hx
          exact (List.getElem?_eq_some_iff.1 hx).2
        rw [hxk]
        refine ⟨⟨x.lo, max x.hi (m - 1)⟩, ?_, by dsimp only; omega⟩
        rw [List.getLast?_eq_getElem?, List.length_set, hk]
        simp [hk]
    | false =>
      rw [if_neg (by simp)]
      have hn' := hn rfl
      refine ⟨⟨fun r hr => ?_, ?_⟩, fun c c0 c1 => ?_, fun r hr => ?_, fun _ => ⟨⟨n, m - 1⟩, by simp, rfl⟩, fun e => by cases e⟩
      · rcases List.mem_append.1 hr with hr | hr
        · exact o1 r hr
        · simp at hr; subst hr; unfold clipOk; dsimp only; omega
      · rw [List.pairwise_append]
        refine ⟨o2, List.pairwise_singleton _ _, fun a ha' t ht => ?_⟩
        simp at ht
        subst ht
        exact hn' a ha'
      · rw [anyR_append, anyR_one]
        dsimp only
        by_cases g : c < n
        · rw [ha c c0 g]
          constructor
          · rintro (h | h)
            · exact h
            · omega
          · exact .inl
        · rw [hc c (by omega) c1]
          exact ⟨fun _ => hp, fun _ => .inr (by omega)⟩
      · rcases List.mem_append.1 hr with hr | hr
        · have := hh r hr; omega
        · simp at hr; subst hr; dsimp only; omega
  · rw [if_neg hp]
    dsimp only
    refine ⟨⟨o1, o2⟩, fun c c0 c1 => ?_, (fun r hr => by have := hh r hr; omega), (fun e => by cases e), (fun _ r hr => by have := hh r hr; omega)⟩
    by_cases g : c < n
    · exact ha c c0 g
    · rw [hc c (by omega) c1]
      constructor
      · intro h
        obtain ⟨r, hr, a, b⟩ := anyR_iff.1 h
        have := hh r hr
        omega
      · intro h; exact absurd h hp

theorem asc_none {cs : List Int} (h : cs.Pairwise (· < ·)) {k : Nat} (hk : k < cs.length) {x : Int} (hx : x ∈ cs) (h1 : cs[k] < x) : nxt cs (k + 1) ≤ x := by
  obtain ⟨j, hj, rfl⟩ := List.getElem_of_mem hx
  have hjk : k < j := by
    rcases Nat.lt_trichotomy j k with g | g | g
    · have := List.pairwise_iff_getElem.1 h j k hj hk g; omega
    · subst g; omega
    · exact g
  unfold nxt
  rcases Nat.lt_or_ge (k + 1) cs.length with g | g
  · rw [List.getElem?_eq_getElem g]
    simp only [Option.getD_some]
    rcases Nat.lt_or_ge (k + 1) j with g2 | g2
    · have := List.pairwise_iff_getElem.1 h (k + 1) j g hj g2; omega
    · have : j = k + 1 := by omega
      subst this; exact Int.le_refl _
  · omega
theorem hasR_const {rs : List Rg} {cs : List Int} (h : Ct rs cs) {k : Nat} (hk : k < cs.length) {c : Int} (h1 : cs[k] ≤ c) (h2 : c < nxt cs (k + 1)) (h3 : c ≤ 1114111) : hasR rs c = hasR rs cs[k] := by
  have hb := h.bd _ (List.getElem_mem hk)
  rw [hasR_any (by omega) h3, hasR_any hb.1 hb.2, Bool.eq_iff_iff, anyR_iff, anyR_iff]
  constructor
  · rintro ⟨r, hr, a, b⟩
    refine ⟨r, hr, ?_, by omega⟩
    apply Int.not_lt.1
    intro g
    have := asc_none h.asc hk (h.lo r hr (by omega) (by omega)) g
    omega
  · rintro ⟨r, hr, a, b⟩
    refine ⟨r, hr, by omega, ?_⟩
    apply Int.not_lt.1
    intro g
    have := asc_none h.asc hk (h.hi r hr (by omega) (by omega)) (by omega)
    omega
theorem nxt_bd {rs : List Rg} {cs : List Int} (h : Ct rs cs) (k : Nat) : 0 ≤ nxt cs k ∧ nxt cs k ≤ 1114112 := by
  unfold nxt
  rcases Nat.lt_or_ge k cs.length with g | g
  · rw [List.getElem?_eq_getElem g]
    have := h.bd _ (List.getElem_mem g)
    simp; omega
  · rw [List.getElem?_eq_none g]; simp
theorem bld_ok {rs : List Rg} {cs : List Int} (h : Ct rs cs) (h0 : 0 ∈ cs) : ∀ k, k ≤ cs.length → Bd (hasR rs) (bld (hasR rs) cs k).1 (bld (hasR rs) cs k).2 (nxt cs k)
  | 0, _ => by
    have e : nxt cs 0 = 0 := by
      obtain ⟨j, hj, he⟩ := List.getElem_of_mem h0
      have h1 : 0 < cs.length := by omega
      have hb := h.bd _ (List.getElem_mem h1)
      unfold nxt
      rw [List.getElem?_eq_getElem h1]
      simp only [Option.getD_some]
      rcases Nat.eq_zero_or_pos j with g | g
      · subst g; exact he
      · have := List.pairwise_iff_getElem.1 h.asc 0 j h1 hj g; omega
    rw [e]
    exact ⟨okR.nil, fun c a b => by omega, fun _ hr => (by cases hr), fun e => (by cases e), fun _ _ hr => (by cases hr)⟩
  | k + 1, hk => by
    have ih := bld_ok h h0 k (by omega)
    have hn := nxt_bd h k
    have hn' := nxt_bd h (k + 1)
    have e : nxt cs k = cs[k] := by unfold nxt; rw [List.getElem?_eq_getElem (by omega)]; rfl
    have hb := h.bd _ (List.getElem_mem (show k < cs.length by omega))
    have hlt : nxt cs k < nxt cs (k + 1) := by
      rcases Nat.lt_or_ge (k + 1) cs.length with g | g
      · have := List.pairwise_iff_getElem.1 h.asc k (k + 1) (by omega) g (by omega)
        rw [e]
        unfold nxt
        rw [List.getElem?_eq_getElem g]
        exact this
      · rw [e]
        unfold nxt
        rw [List.getElem?_eq_none g]
        simp; omega
    have := ih.step hn.1 hlt hn'.2 (fun c c0 c1 => by rw [e] at c0 ⊢; exact hasR_const h (by omega) c0 c1 (by omega))
    exact this
theorem canR_spec (rs : List Rg) : okR (canR rs) ∧ ∀ c, 0 ≤ c → c ≤ 1114111 → (anyR (canR rs) c = true ↔ anyR rs c = true) := by
  have h1 := (Ct.nil).cuts (rs := rs)
  have h2 := h1.1.cuts (rs := [])
  rw [List.append_nil, List.nil_append] at h2
  have hb := bld_ok h2.1 h2.2 (cutsL (cutsL [] rs) []).length (Nat.le_refl _)
  have e : nxt (cutsL (cutsL [] rs) []) (cutsL (cutsL [] rs) []).length = 1114112 := by unfold nxt; rw [List.getElem?_eq_none (Nat.le_refl _)]; rfl
  rw [e] at hb
  refine ⟨hb.ok, fun c c0 c1 => ?_⟩
  unfold canR
  rw [hb.any c c0 (by omega), hasR_any c0 c1]
theorem canR_unique {rs out : List Rg} (h : okR out) (ha : ∀ c, 0 ≤ c → c ≤ 1114111 → (anyR out c = true ↔ anyR rs c = true)) : out = canR rs :=
  okR_unique h (canR_spec rs).1 (fun c c0 c1 => (ha c c0 c1).trans ((canR_spec rs).2 c c0 c1).symm)
/-- a set is valid -/
def setOk (rs : List Rg) : Bool := decide (canR rs = rs)
theorem setOk_okR {rs : List Rg} (h : setOk rs = true) : okR rs := by
  have := of_decide_eq_true h
  have h1 := (canR_spec rs).1
  rw [this] at h1
  exact h1

end Go.Proofs.YtjglanjfgbipmaaDoor
/- The data of normalization: how it lies in memory; what a number is replaced by; which error the check finds first. Plain. -/
namespace Go.Proofs.YtjglanjfgbipmaaDoor
open Go.RowKit

/-- the data of normalization -/
structure Nrm where
  cls : List Spn
  dec : List Mp
  exc : List Rg
def mp0 : Mp := ⟨0, [], .empty⟩
/-- the first mapping of a number, with compat with any tag -/
def fndM (ms : List Mp) (compat : Bool) (e : Int) : Option Nat := ms.findIdx? (fun m => decide (m.frm = e) && (compat || decide (m.tag.size = 0)))
def frmM (ms : List Mp) (i : Nat) : Int := (ms.getD i mp0).frm
def toM (ms : List Mp) (i : Nat) : List Int := (ms.getD i mp0).to
def skipM (ms : List Mp) (compat : Bool) (i : Nat) : Bool := !compat && decide (¬ (ms.getD i mp0).tag.size = 0)
def dlM (e : Int) : Int := (Hg.decomp e).length
/-- what a number is replaced by -/
def onM (ms : List Mp) (compat : Bool) (c : Int) : Option (List Int) :=
  if 4 ≤ Hg.kind c then some (Hg.decomp c) else (fndM ms compat c).map (toM ms)
def mxE : Int := 64
def capE : Int := 65

end Go.Proofs.YtjglanjfgbipmaaDoor
/- Contracts of hangul.Kind and of the reference's Kind: both return the kind of the number. -/
namespace Go.Proofs.YtjglanjfgbipmaaDoor
open Go.RowKit

theorem Kind_any (c : Int) (w : World) : Calls Tryd.prog 17 #[.int .i64 c] w fun e w' => e = .returned (.int .i64 (Hg.kind c)) ∧ w = w' := by
  rcases Hg.cases6 c with ⟨h1, h2, hk⟩ | ⟨h1, h2, hk⟩ | ⟨h1, h2, hk⟩ | ⟨h1, h2, h3, hk⟩ | ⟨h1, h2, h3, hk⟩ | ⟨h1, h2, h3, h4, hk⟩ <;> rw [hk] <;> clear hk
  all_goals
    go_enter Tryd.func17, Tryd.ntmps17
    go_wp2
    all_goals (go_ret; exact ⟨rfl, rfl⟩)

theorem refKind_any (c : Int) (w : World) : Calls Tryd.prog 11 #[.int .i64 c] w fun e w' => e = .returned (.int .i64 (Hg.kind c)) ∧ w = w' := by
  rcases Hg.cases6 c with ⟨h1, h2, hk⟩ | ⟨h1, h2, hk⟩ | ⟨h1, h2, hk⟩ | ⟨h1, h2, h3, hk⟩ | ⟨h1, h2, h3, hk⟩ | ⟨h1, h2, h3, h4, hk⟩ <;> rw [hk] <;> clear hk
  all_goals
    go_enter Tryd.func11, Tryd.ntmps11
    go_wp2
    all_goals (go_ret; exact ⟨rfl, rfl⟩)

end Go.Proofs.YtjglanjfgbipmaaDoor
/- The contracts of slices.Clone at elements and at ints: a row that the caller owns. -/
namespace Go.Proofs.YtjglanjfgbipmaaDoor
open Go.RowKit Go.Maps Go.WideMaps

theorem info_int : (Tryd.prog.info? 3).map (fun i => (i.zero, i.size, i.bytes)) = some (some (.int .i64 0), 1, 8) := by kernel_rfl
theorem oneCell_elts (es : List Elt) : ∀ u ∈ flatK Elt.cells es, u.oneCell' = true := by
  intro u hu
  obtain ⟨g, _, hg⟩ := List.mem_flatMap.1 hu
  simp only [Elt.cells, List.mem_cons, List.not_mem_nil, or_false] at hg
  rcases hg with rfl | rfl | rfl | rfl <;> rfl

def RetOwnI (zs : List Int) (w : World) (e : Ending) (w' : World) : Prop := ∃ A c, e = .returned (.slice A zs.length c) ∧ w'.ownsRow w.heap.size 3 1 (.slice A zs.length c) zs.length (zs.map (Value.int .i64)) ∧ Below w.heap.size w w'

end Go.Proofs.YtjglanjfgbipmaaDoor
/- Contracts of hangul.Compose and of the reference's Compose: both return the syllable of a pair. -/
namespace Go.Proofs.YtjglanjfgbipmaaDoor
open Go.RowKit

/-- the pair (c, ok) is returned; nothing that was there has changed -/
def RetPair (p : Int × Bool) (w : World) (e : Ending) (w' : World) : Prop := e = .returned (.tuple #[.int .i64 p.1, .bool p.2]) ∧ Below w.heap.size w w'

theorem comp_lv {a b : Int} (ha : Hg.kind a = 1) (hb : Hg.kind b = 2) : Hg.comp a b = (0xAC00 + (21 * (a - 0x1100) + b - 0x1161) * 28, true) := by unfold Hg.comp; rw [if_pos ⟨ha, hb⟩]
theorem comp_t {a b : Int} (ha : Hg.kind a = 4) (hb : Hg.kind b = 3) : Hg.comp a b = (a + b - 0x11A8 + 1, true) := by unfold Hg.comp; rw [if_neg (by omega), if_pos ⟨ha, hb⟩]
theorem comp_no {a b : Int} (h1 : ¬ (Hg.kind a = 1 ∧ Hg.kind b = 2)) (h2 : ¬ (Hg.kind a = 4 ∧ Hg.kind b = 3)) : Hg.comp a b = (0, false) := by unfold Hg.comp; rw [if_neg h1, if_neg h2]

theorem kind_is1 {c : Int} (h : Hg.kind c = 1) : 0x1100 ≤ c ∧ c ≤ 0x1112 := by rcases Hg.cases6 c with h' | h' | h' | h' | h' | h' <;> omega
theorem kind_is2 {c : Int} (h : Hg.kind c = 2) : 0x1161 ≤ c ∧ c ≤ 0x1175 := by rcases Hg.cases6 c with h' | h' | h' | h' | h' | h' <;> omega
theorem kind_is3 {c : Int} (h : Hg.kind c = 3) : 0x11A8 ≤ c ∧ c ≤ 0x11C2 := by rcases Hg.cases6 c with h' | h' | h' | h' | h' | h' <;> omega
theorem kind_is4 {c : Int} (h : Hg.kind c = 4) : 0xAC00 ≤ c ∧ c ≤ 0xD7A3 ∧ (c - 0xAC00) % 28 = 0 := by rcases Hg.cases6 c with h' | h' | h' | h' | h' | h' <;> omega
theorem kind_is5 {c : Int} (h : Hg.kind c = 5) : 0xAC00 ≤ c ∧ c ≤ 0xD7A3 ∧ ¬ (c - 0xAC00) % 28 = 0 := by rcases Hg.cases6 c with h' | h' | h' | h' | h' | h' <;> omega


theorem Compose_any (a b : Int) (w : World) : Calls Tryd.prog 24 #[.int .i64 a, .int .i64 b] w (RetPair (Hg.comp a b) w) := by
  have K1 := Kind_any a
  have K2 := Kind_any b
  obtain ⟨i0, hi, hz0, hz1, hz2⟩ := info_parts info_int
  have q2 := fun W x y x' y' => run_equalIn_array2 (P := Tryd.prog) W 9998 53 3 .i64 i0 Tryd.underlying53 Tryd.underlying3 hi hz1 x y x' y'
  clear hi hz0 hz1 hz2
  by_cases h1 : Hg.kind a = 1 ∧ Hg.kind b = 2
  · rw [comp_lv h1.1 h1.2]
    rw [h1.1] at K1; rw [h1.2] at K2
    have ba := kind_is1 h1.1
    have bb := kind_is2 h1.2
    have H1 := Lib.hid K1; have H2 := Lib.hid K2; clear K1 K2 h1
    have HE := Lib.hid (show 44032 + ((a - 4352) * 21 + b - 4449) * 28 = 44032 + (21 * (a - 4352) + b - 4449) * 28 by omega)
    go_enter Tryd.func24, Tryd.ntmps24
    go_wp2_with fail
    refine (H1.out _).mono ?_
    rintro e w' ⟨rfl, rfl⟩
    go_wp2_with fail
    refine (H2.out _).mono ?_
    rintro e w' ⟨rfl, rfl⟩
    go_wp2_with fail
    go_ret2
    exact ⟨by rw [← HE.out]; rfl, (Below.refl _ _).alloc (Nat.le_refl _) _⟩
  · by_cases h2 : Hg.kind a = 4 ∧ Hg.kind b = 3
    · rw [comp_t h2.1 h2.2]
      rw [h2.1] at K1; rw [h2.2] at K2
      have ba := kind_is4 h2.1
      have bb := kind_is3 h2.2
      have H1 := Lib.hid K1; have H2 := Lib.hid K2; clear K1 K2 h1 h2
      have HE := Lib.hid (show a + 1 + b - 4520 = a + b - 4520 + 1 by omega)
      obtain ⟨ba1, ba2, _⟩ := ba
      go_enter Tryd.func24, Tryd.ntmps24
      go_wp2_with fail
      refine (H1.out _).mono ?_
      rintro e w' ⟨rfl, rfl⟩
      go_wp2_with fail
      refine (H2.out _).mono ?_
      rintro e w' ⟨rfl, rfl⟩
      go_wp2_with fail
      go_ret2
      exact ⟨by rw [← HE.out]; rfl, (Below.refl _ _).alloc (Nat.le_refl _) _⟩
    · rw [comp_no h1 h2]
      have e1 : (Hg.kind a == 1 && Hg.kind b == 2) = false := by
        rw [Bool.eq_false_iff]; simp; exact fun x y => h1 ⟨x, y⟩
      have e2 : (Hg.kind a == 4 && Hg.kind b == 3) = false := by
        rw [Bool.eq_false_iff]; simp; exact fun x y => h2 ⟨x, y⟩
      have H1 := Lib.hid K1; have H2 := Lib.hid K2; clear K1 K2 h1 h2
      generalize Hg.kind a = p at *
      generalize Hg.kind b = q at *
      go_enter Tryd.func24, Tryd.ntmps24
      go_wp2_with fail
      refine (H1.out _).mono ?_
      rintro e w' ⟨rfl, rfl⟩
      go_wp2_with fail
      refine (H2.out _).mono ?_
      rintro e w' ⟨rfl, rfl⟩
      go_wp2_with fail
      go_ret2
      exact ⟨rfl, (Below.refl _ _).alloc (Nat.le_refl _) _⟩

end Go.Proofs.YtjglanjfgbipmaaDoor
/- Contracts of hangul.Decompose (over hangul.parts) and of the reference's Decompose: both return the parts of a number. -/
namespace Go.Proofs.YtjglanjfgbipmaaDoor
open Go.RowKit

/-- a slice of the ints zs is returned; nothing that was there has changed -/
def RetHg (zs : List Int) (w : World) (e : Ending) (w' : World) : Prop := ∃ A c, e = .returned (.slice A zs.length c) ∧ zs.length ≤ c ∧ Ints w' A zs ∧ Below w.heap.size w w'

theorem decomp_no {c : Int} (h : Hg.kind c < 4) : Hg.decomp c = [c] := by unfold Hg.decomp; rw [if_pos h]
theorem decomp_2 {c : Int} (h : Hg.kind c = 4) : Hg.decomp c = [0x1100 + (c - 0xAC00) / 28 / 21, 0x1161 + (c - 0xAC00) / 28 % 21] := by
  unfold Hg.decomp; rw [if_neg (by omega), if_pos (kind_is4 h).2.2]
theorem decomp_3 {c : Int} (h : Hg.kind c = 5) : Hg.decomp c = [0x1100 + (c - 0xAC00) / 28 / 21, 0x1161 + (c - 0xAC00) / 28 % 21, 0x11A8 + (c - 0xAC00) % 28 - 1] := by
  unfold Hg.decomp; rw [if_neg (by omega), if_neg (kind_is5 h).2.2]

/-- three ints are returned asq an array -/
def RetArr3 (x y z : Int) (w : World) (e : Ending) (w' : World) : Prop := e = .returned (.agg #[.int .i64 x, .int .i64 y, .int .i64 z]) ∧ Below w.heap.size w w'

theorem parts_no (c : Int) (w : World) (h : Hg.kind c < 4) : Calls Tryd.prog 75 #[.int .i64 c] w (RetArr3 0 0 0 w) := by
  go_enter Tryd.func75, Tryd.ntmps75
  go_wp2_with (go_at_call 17; refine (Kind_any _ _).mono ?_; rintro e w' ⟨rfl, rfl⟩)
  refine bodyPost_ret (v := .agg #[.int .i64 0, .int .i64 0, .int .i64 0]) (by simp [results, Tryd.results75, go_sem]) rfl ⟨rfl, ?_⟩
  exact (Below.refl _ _).alloc (Nat.le_refl _) _

theorem parts_2 (c : Int) (w : World) (h : Hg.kind c = 4) : Calls Tryd.prog 75 #[.int .i64 c] w (RetArr3 (0x1100 + (c - 0xAC00) / 28 / 21) (0x1161 + (c - 0xAC00) / 28 % 21) 0 w) := by
  obtain ⟨b1, b2, b3⟩ := kind_is4 h
  go_enter Tryd.func75, Tryd.ntmps75
  go_wp2_with (go_at_call 17; refine (Kind_any _ _).mono ?_; rintro e w' ⟨rfl, rfl⟩)
  refine bodyPost_ret (v := .agg #[.int .i64 (0x1100 + (c - 0xAC00) / 28 / 21), .int .i64 (0x1161 + (c - 0xAC00) / 28 % 21), .int .i64 0]) (by simp [results, Tryd.results75, go_sem]) rfl ⟨rfl, ?_⟩
  exact ((Below.refl _ _).alloc (Nat.le_refl _) _).alloc (by simp) _

theorem parts_3 (c : Int) (w : World) (h : Hg.kind c = 5) : Calls Tryd.prog 75 #[.int .i64 c] w (RetArr3 (0x1100 + (c - 0xAC00) / 28 / 21) (0x1161 + (c - 0xAC00) / 28 % 21) (0x11A8 + (c - 0xAC00) % 28 - 1) w) := by
  obtain ⟨b1, b2, b3⟩ := kind_is5 h
  have b4 : 0 < (c - 0xAC00) % 28 := by omega
  clear b3
  go_enter Tryd.func75, Tryd.ntmps75
  go_wp2_with (go_at_call 17; refine (Kind_any _ _).mono ?_; rintro e w' ⟨rfl, rfl⟩)
  refine bodyPost_ret (v := .agg #[.int .i64 (0x1100 + (c - 0xAC00) / 28 / 21), .int .i64 (0x1161 + (c - 0xAC00) / 28 % 21), .int .i64 (0x11A8 + (c - 0xAC00) % 28 - 1)]) (by simp [results, Tryd.results75, go_sem]) rfl ⟨rfl, ?_⟩
  exact ((Below.refl _ _).alloc (Nat.le_refl _) _).alloc (by simp) _

theorem Decompose_any (c : Int) (w : World) : Calls Tryd.prog 69 #[.int .i64 c] w (RetHg (Hg.decomp c) w) := by
  obtain ⟨i0, hi, hz0, hz1, hz2⟩ := info_parts info_int
  have q3 := fun W x y z x' y' z' => run_equalIn_array3 (P := Tryd.prog) W 9998 54 3 .i64 i0 Tryd.underlying54 Tryd.underlying3 hi hz1 x y z x' y' z'
  clear hi hz0 hz1 hz2
  by_cases h : Hg.kind c < 4
  · rw [decomp_no h]
    have H := Lib.hid (fun W => parts_no c W h); clear h
    go_enter Tryd.func69, Tryd.ntmps69
    go_wp2_with (go_at_call 75; refine (H.out _).mono ?_; rintro e w1 ⟨rfl, hb⟩)
    go_ret
    exact ⟨_, _, rfl, Nat.le_refl _, Ints_new _ [_] _ (by simp), (hb.alloc hb.size _).alloc (by have := hb.size; simp; omega) _⟩
  · by_cases h4 : Hg.kind c = 4
    · rw [decomp_2 h4]
      have hc := kind_is4 h4
      have h1 : (0x1100 + (c - 0xAC00) / 28 / 21 == 0) = false := by simp; omega
      have H := Lib.hid (fun W => parts_2 c W h4); clear h h4 hc
      generalize 0x1100 + (c - 0xAC00) / 28 / 21 = x at *
      generalize 0x1161 + (c - 0xAC00) / 28 % 21 = y at *
      go_enter Tryd.func69, Tryd.ntmps69
      go_wp2_with (go_at_call 75; refine (H.out _).mono ?_; rintro e w1 ⟨rfl, hb⟩)
      go_ret
      exact ⟨_, _, rfl, Nat.le_refl _, Ints_new _ [_, _] _ (by simp), (hb.alloc hb.size _).alloc (by have := hb.size; simp; omega) _⟩
    · have h5 : Hg.kind c = 5 := by have := Hg.kind_range c; omega
      rw [decomp_3 h5]
      have hc := kind_is5 h5
      have h1 : (0x1100 + (c - 0xAC00) / 28 / 21 == 0) = false := by simp; omega
      have h2 : (0x11A8 + (c - 0xAC00) % 28 - 1 == 0) = false := by simp; omega
      have H := Lib.hid (fun W => parts_3 c W h5); clear h h4 h5 hc
      generalize 0x1100 + (c - 0xAC00) / 28 / 21 = x at *
      generalize 0x1161 + (c - 0xAC00) / 28 % 21 = y at *
      generalize 0x11A8 + (c - 0xAC00) % 28 - 1 = z at *
      go_enter Tryd.func69, Tryd.ntmps69
      go_wp2_with (go_at_call 75; refine (H.out _).mono ?_; rintro e w1 ⟨rfl, hb⟩)
      go_ret
      exact ⟨_, _, rfl, Nat.le_refl _, Ints_new _ [_, _, _] _ (by simp), (hb.alloc hb.size _).alloc (by have := hb.size; simp; omega) _⟩

theorem refDecompose_any (c : Int) (w : World) : Calls Tryd.prog 5 #[.int .i64 c] w (RetHg (Hg.decomp c) w) := by
  obtain ⟨i0, hi, hz0, hz1, hz2⟩ := info_parts info_int
  by_cases h : Hg.kind c < 4
  · rw [decomp_no h]
    go_enter Tryd.func5, Tryd.ntmps5
    go_wp2_with (go_at_call 11; refine (refKind_any _ _).mono ?_; rintro e w' ⟨rfl, rfl⟩)
    go_ret
    exact ⟨_, _, rfl, Nat.le_refl _, Ints_new _ [_] _ (by simp), (Below.refl _ _).alloc (Nat.le_refl _) _⟩
  · by_cases h4 : Hg.kind c = 4
    · rw [decomp_2 h4]
      obtain ⟨b1, b2, b3⟩ := kind_is4 h4
      have HK := Lib.hid (fun W => refKind_any c W); rw [h4] at HK; clear h h4
      go_enter Tryd.func5, Tryd.ntmps5
      go_wp2_with (go_at_call 11; refine (HK.out _).mono ?_; rintro e w' ⟨rfl, rfl⟩)
      go_ret
      exact ⟨_, _, rfl, Nat.le_refl _, Ints_new _ [_, _] _ (by simp), (Below.refl _ _).alloc (Nat.le_refl _) _⟩
    · have h5 : Hg.kind c = 5 := by have := Hg.kind_range c; omega
      rw [decomp_3 h5]
      obtain ⟨b1, b2, b3⟩ := kind_is5 h5
      have b4 : 0 < (c - 0xAC00) % 28 := by omega
      have HK := Lib.hid (fun W => refKind_any c W); rw [h5] at HK; clear h h4 h5 b3
      go_enter Tryd.func5, Tryd.ntmps5
      go_wp2_with (first
        | (go_at_call 11; refine (HK.out _).mono ?_; rintro e w' ⟨rfl, rfl⟩)
        | (at_builtin; refine wpList_app _ _ 24 3 (.int .i64 0) 1 8 rfl rfl Tryd.underlying24 info_int rfl (by decide) (by decide) rfl ((own_new [_, _] 3 1 2 w.heap.size rfl rfl (Nat.le_refl _) (by omega)).alloc _) rfl (Sl_new _ [_] _ (by simp)) rfl (oneCell_ints [_]) (by omega) (by simp <;> omega) ?_; intro B k w1 hown hk hb _ _))
      go_ret
      exact ⟨_, _, rfl, hk, Sl.of_own hown, (((Below.refl _ _).alloc (Nat.le_refl _) _).alloc (by simp) _).trans hb⟩

end Go.Proofs.YtjglanjfgbipmaaDoor
