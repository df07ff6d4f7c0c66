/- The canonical order of a text: what determines it, and its laws. Plain. -/
import Derived.Test.YthagfcdleapooaaDoorSortPlain3
import Derived.Test.YthagfcdleapooaaDoorRunsPlain
namespace Go.Proofs.YthagfcdleapooaaDoor.Can

section
variable (cl : Int → Int)

/-- the elements of class k and the starters -/
def F (k : Int) (l : List Int) : List Int := l.filter fun x => cl x == k || cl x == 0
/-- the same up to exchanges of neighbours whose classes differ and are not 0 -/
def Inv (a b : List Int) : Prop := ∀ k, F cl k a = F cl k b
/-- no element follows one of a greater class, but for starters -/
def Ok : List Int → Prop
  | [] => True
  | [_] => True
  | x :: y :: r => (cl y ≠ 0 → cl x ≤ cl y) ∧ Ok (y :: r)
/-- c in front of a text in order, moved behind those with lesser classes -/
def insF (c : Int) : List Int → List Int
  | [] => [c]
  | y :: r => if cl y ≠ 0 ∧ cl y < cl c then y :: insF c r else c :: y :: r
/-- the text in order -/
def srt : List Int → List Int
  | [] => []
  | c :: r => insF cl c (srt r)
/-- the starters at their places -/
def Z (l : List Int) : List (Option Int) := l.map fun x => if cl x = 0 then some x else none
end

section
variable {cl : Int → Int}

theorem F_append (k : Int) (a b : List Int) : F cl k (a ++ b) = F cl k a ++ F cl k b := by simp [F]
theorem F_cons (k x : Int) (l : List Int) : F cl k (x :: l) = if cl x = k ∨ cl x = 0 then x :: F cl k l else F cl k l := by
  by_cases h : cl x = k ∨ cl x = 0
  · rw [if_pos h]; exact List.filter_cons_of_pos (by simpa using h)
  · rw [if_neg h]; exact List.filter_cons_of_neg (by simpa using h)
theorem Inv.refl (a : List Int) : Inv cl a a := fun _ => rfl
theorem Inv.symm {a b : List Int} (h : Inv cl a b) : Inv cl b a := fun k => (h k).symm
theorem Inv.trans {a b c : List Int} (h : Inv cl a b) (g : Inv cl b c) : Inv cl a c := fun k => (h k).trans (g k)
theorem Inv.append {a b c d : List Int} (h : Inv cl a b) (g : Inv cl c d) : Inv cl (a ++ c) (b ++ d) := fun k => by rw [F_append, F_append, h k, g k]
theorem Inv.cons (x : Int) {a b : List Int} (h : Inv cl a b) : Inv cl (x :: a) (x :: b) := fun k => by rw [F_cons, F_cons, h k]
theorem Inv.swap {x y : Int} (l : List Int) (hx : cl x ≠ 0) (hy : cl y ≠ 0) (hne : cl x ≠ cl y) : Inv cl (x :: y :: l) (y :: x :: l) := fun k => by
  simp only [F_cons]
  by_cases h1 : cl x = k
  · rw [if_pos (c := cl x = k ∨ cl x = 0) (.inl h1), if_pos (c := cl x = k ∨ cl x = 0) (.inl h1), if_neg (by omega), if_neg (by omega)]
  · rw [if_neg (c := cl x = k ∨ cl x = 0) (by omega), if_neg (c := cl x = k ∨ cl x = 0) (by omega)]

theorem Ok.tail {x : Int} {l : List Int} (h : Ok cl (x :: l)) : Ok cl l := by
  cases l with
  | nil => trivial
  | cons y r => exact h.2

/-- where the first element with class k or 0 of a text in order lies, all before it have lesser classes -/
theorem Ok.first {k : Int} {l : List Int} {x : Int} {r : List Int} (h : Ok cl l) (hk : cl x ≠ 0) (e : F cl k l = x :: r) (y : Int) (t : List Int) (hl : l = y :: t) : cl y ≤ cl x := by
  induction l generalizing y t with
  | nil => cases hl
  | cons z l ih =>
    obtain ⟨rfl, rfl⟩ : z = y ∧ l = t := by simpa using hl
    rw [F_cons] at e
    split at e
    · injection e with e1 _; rw [e1]; exact Int.le_refl _
    · cases l with
      | nil => simp [F] at e
      | cons u v =>
        have h1 := ih h.tail e u v rfl
        by_cases hu : cl u = 0
        · rw [F_cons, if_pos (.inr hu)] at e
          injection e with e1 _
          rw [e1] at hu
          exact absurd hu hk
        · have := h.1 hu
          omega

theorem canon_unique : ∀ {a b : List Int}, Inv cl a b → Ok cl a → Ok cl b → a = b
  | [], [], _, _, _ => rfl
  | [], y :: b, h, _, _ => by have := h (cl y); rw [F_cons, if_pos (.inl rfl)] at this; cases this
  | x :: a, [], h, _, _ => by have := h (cl x); rw [F_cons, if_pos (.inl rfl)] at this; cases this
  | x :: a, y :: b, h, ha, hb => by
    have hxy : x = y := by
      by_cases hx : cl x = 0
      · have e := h (cl y)
        rw [F_cons, if_pos (.inr hx), F_cons, if_pos (.inl rfl)] at e
        injection e
      · by_cases hy : cl y = 0
        · have e := h (cl x)
          rw [F_cons, if_pos (.inl rfl), F_cons, if_pos (.inr hy)] at e
          injection e
        · have e1 := h (cl x)
          rw [F_cons, if_pos (.inl rfl)] at e1
          have h1 := hb.first hx e1.symm y b rfl
          have e2 := h (cl y)
          rw [F_cons (l := b), if_pos (.inl rfl)] at e2
          have h2 := ha.first hy e2 x a rfl
          have e3 : cl x = cl y := by omega
          rw [F_cons, if_pos (.inl e3.symm)] at e1
          injection e1
    subst hxy
    have := canon_unique (a := a) (b := b) (fun k => by
      have e := h k
      rw [F_cons, F_cons] at e
      split at e
      · injection e
      · exact e) ha.tail hb.tail
    rw [this]

theorem insF_inv (hcl : ∀ x, 0 ≤ cl x) (c : Int) (l : List Int) : Inv cl (c :: l) (insF cl c l) := by
  induction l with
  | nil => exact Inv.refl _
  | cons y r ih =>
    unfold insF
    split
    · rename_i h
      exact (Inv.swap r (by have := hcl y; omega) h.1 (by omega)).trans (ih.cons y)
    · exact Inv.refl _

theorem insF_head (c : Int) (l : List Int) : ∃ y r, insF cl c l = y :: r ∧ (y = c ∨ ∃ t, l = y :: t) := by
  cases l with
  | nil => exact ⟨c, [], rfl, .inl rfl⟩
  | cons y r =>
    unfold insF
    split
    · exact ⟨y, _, rfl, .inr ⟨r, rfl⟩⟩
    · exact ⟨c, _, rfl, .inl rfl⟩

theorem insF_ok (c : Int) (l : List Int) (h : Ok cl l) : Ok cl (insF cl c l) := by
  induction l with
  | nil => trivial
  | cons y r ih =>
    unfold insF
    split
    · rename_i hc
      obtain ⟨z, t, hz, hor⟩ := insF_head (cl := cl) c r
      have := ih h.tail
      rw [hz] at this ⊢
      refine ⟨fun hne => ?_, this⟩
      rcases hor with rfl | ⟨t', rfl⟩
      · omega
      · exact h.1 hne
    · rename_i hc
      exact ⟨fun hne => by by_cases g : cl y < cl c; exact absurd ⟨hne, g⟩ hc; omega, h⟩

theorem insF_z (c : Int) (l : List Int) (hcl : ∀ x, 0 ≤ cl x) : Z cl (insF cl c l) = Z cl (c :: l) := by
  induction l with
  | nil => rfl
  | cons y r ih =>
    unfold insF
    split
    · rename_i h
      have hc : cl c ≠ 0 := by have := hcl y; omega
      show _ :: Z cl (insF cl c r) = _
      rw [ih]
      simp only [Z, List.map_cons, if_neg hc, if_neg h.1]
    · rfl

theorem insF_perm (c : Int) (l : List Int) : (insF cl c l).Perm (c :: l) := by
  induction l with
  | nil => exact .refl _
  | cons y r ih =>
    unfold insF
    split
    · exact (ih.cons y).trans (.swap c y r)
    · exact .refl _

theorem srt_inv (hcl : ∀ x, 0 ≤ cl x) (l : List Int) : Inv cl l (srt cl l) := by
  induction l with
  | nil => exact Inv.refl _
  | cons c r ih => exact (ih.cons c).trans (insF_inv hcl c _)
theorem srt_ok (l : List Int) : Ok cl (srt cl l) := by
  induction l with
  | nil => trivial
  | cons c r ih => exact insF_ok c _ ih
theorem srt_perm (l : List Int) : (srt cl l).Perm l := by
  induction l with
  | nil => exact .refl _
  | cons c r ih => exact (insF_perm c _).trans (ih.cons c)
theorem srt_len (l : List Int) : (srt cl l).length = l.length := (srt_perm l).length_eq
theorem srt_z (hcl : ∀ x, 0 ≤ cl x) (l : List Int) : Z cl (srt cl l) = Z cl l := by
  induction l with
  | nil => rfl
  | cons c r ih =>
    show Z cl (insF cl c (srt cl r)) = _
    rw [insF_z _ _ hcl]
    show _ :: Z cl (srt cl r) = _
    rw [ih]
    rfl

theorem srt_eq (hcl : ∀ x, 0 ≤ cl x) {l d : List Int} (h : Inv cl l d) (ho : Ok cl d) : d = srt cl l := canon_unique (h.symm.trans (srt_inv hcl l)) ho (srt_ok l)
theorem srt_of_inv (hcl : ∀ x, 0 ≤ cl x) {a b : List Int} (h : Inv cl a b) : srt cl a = srt cl b := srt_eq hcl (h.symm.trans (srt_inv hcl a)) (srt_ok a)
theorem inv_of_srt (hcl : ∀ x, 0 ≤ cl x) {a b : List Int} (h : srt cl a = srt cl b) : Inv cl a b := (srt_inv hcl a).trans (by rw [h]; exact (srt_inv hcl b).symm)
theorem srt_again (hcl : ∀ x, 0 ≤ cl x) (l : List Int) : srt cl (srt cl l) = srt cl l := (srt_eq hcl (Inv.refl _) (srt_ok l)).symm

theorem Ok.append {a b : List Int} (ha : Ok cl a) (hb : Ok cl b) (h : ∀ y t, b = y :: t → cl y = 0) : Ok cl (a ++ b) := by
  induction a with
  | nil => exact hb
  | cons x a ih =>
    cases a with
    | nil =>
      cases b with
      | nil => trivial
      | cons y t => exact ⟨fun hne => absurd (h y t rfl) hne, hb⟩
    | cons x' a' => exact ⟨ha.1, ih ha.2⟩

theorem srt_join (hcl : ∀ x, 0 ≤ cl x) (a b : List Int) (h : ∀ y t, b = y :: t → cl y = 0) : srt cl (a ++ b) = srt cl a ++ srt cl b := by
  symm
  refine srt_eq hcl ((srt_inv hcl a).append (srt_inv hcl b)) ((srt_ok a).append (srt_ok b) fun y t e => ?_)
  cases b with
  | nil => cases e
  | cons y' t' =>
    have hz := srt_z hcl (y' :: t')
    rw [e] at hz
    simp only [Z, List.map_cons, List.cons.injEq, if_pos (h y' t' rfl)] at hz
    by_cases hy : cl y = 0
    · exact hy
    · have := hz.1; rw [if_neg hy] at this; cases this

theorem inv_class {a b : List Int} (h : Inv cl a b) (k : Int) : a.filter (fun x => cl x == k) = b.filter (fun x => cl x == k) := by
  have e : ∀ l : List Int, l.filter (fun x => cl x == k) = (F cl k l).filter (fun x => cl x == k) := fun l => by
    unfold F
    rw [List.filter_filter]
    congr 1
    funext x
    cases cl x == k <;> simp
  rw [e a, e b, h k]

/-- the exchange of two neighbours changes nothing just where it is free -/
theorem exchange (hcl : ∀ x, 0 ≤ cl x) (p q : List Int) (x y : Int) : srt cl (p ++ x :: y :: q) = srt cl (p ++ y :: x :: q) ↔ (cl x ≠ 0 ∧ cl y ≠ 0 ∧ cl x ≠ cl y) ∨ x = y := by
  constructor
  · intro h
    by_cases hxy : x = y
    · exact .inr hxy
    · refine .inl ?_
      have hi := inv_of_srt hcl h
      have key : ∀ k, (cl x = k ∨ cl x = 0) → (cl y = k ∨ cl y = 0) → False := by
        intro k h1 h2
        have e := hi k
        rw [F_append, F_append, F_cons, F_cons, F_cons, F_cons] at e
        simp only [if_pos h1, if_pos h2] at e
        have e2 := List.append_cancel_left e
        simp only [List.cons.injEq] at e2
        exact hxy e2.1
      exact ⟨fun h0 => key (cl y) (.inr h0) (.inl rfl), fun h0 => key (cl x) (.inl rfl) (.inr h0), fun h0 => key (cl x) (.inl rfl) (.inl h0.symm)⟩
  · rintro (⟨h1, h2, h3⟩ | rfl)
    · exact srt_of_inv hcl ((Inv.refl p).append (Inv.swap q h1 h2 h3))
    · rfl
end

/-! what the chain of sorts of the runs leaves is the text in order -/
section
open Srt
variable {cl : Int → Int}

theorem inv_of_st {s s' : List Int} (h : St cl s s') (hz : ∀ x ∈ s, cl x ≠ 0) : Inv cl s s' := by
  have h0 : s'.filter (fun x => cl x == 0) = [] := by
    rw [h 0]
    exact List.filter_eq_nil_iff.2 fun x hx => by simpa using hz x hx
  have hz' : ∀ x ∈ s', cl x ≠ 0 := fun x hx e => by
    have : x ∈ s'.filter (fun x => cl x == 0) := List.mem_filter.2 ⟨hx, by simpa using e⟩
    rw [h0] at this
    cases this
  intro k
  have e : ∀ l : List Int, (∀ x ∈ l, cl x ≠ 0) → F cl k l = l.filter (fun x => cl x == k) := fun l hl => by
    unfold F
    refine List.filter_congr fun x hx => ?_
    have := hl x hx
    simp [this]
  rw [e s hz, e s' hz', h k]

theorem ok_of_sorted {s : List Int} (h : SortedOn cl s 0 s.length) : Ok cl s := by
  induction s with
  | nil => trivial
  | cons x s ih =>
    have ht : SortedOn cl s 0 s.length := fun i j _ h2 h3 => by
      have := h (i + 1) (j + 1) (by omega) (by omega) (by simpa using h3)
      simpa [kf] using this
    cases s with
    | nil => trivial
    | cons y r =>
      refine ⟨fun _ => ?_, ih ht⟩
      have := h 0 1 (by omega) (by omega) (by simp)
      simpa [kf] using this

/-- a range that was sorted, cut out -/
theorem done_cut {p o q d : List Int} {s i : Nat} (hs : p.length = s) (hi : s + o.length = i) (h : Done cl (p ++ o ++ q) d s i) :
    ∃ o', d = p ++ o' ++ q ∧ o'.length = o.length ∧ St cl o o' ∧ SortedOn cl o' 0 o'.length := by
  obtain ⟨⟨hl, hsame⟩, hst, hso⟩ := h
  refine ⟨(d.drop s).take o.length, ?_, ?_, ?_, ?_⟩
  case _ =>
    apply List.ext_getElem?
    intro t
    have hlen : ((d.drop s).take o.length).length = o.length := by simp at hl ⊢; omega
    by_cases c1 : t < s
    · rw [hsame t (.inl c1), List.append_assoc, List.append_assoc, List.getElem?_append_left (by omega), List.getElem?_append_left (by omega)]
    · by_cases c2 : t < i
      · rw [List.append_assoc, List.getElem?_append_right (by omega), List.getElem?_append_left (by omega), List.getElem?_take, if_pos (by omega), List.getElem?_drop]
        congr 1; omega
      · rw [hsame t (.inr (by omega)), List.append_assoc, List.append_assoc, List.getElem?_append_right (by omega), List.getElem?_append_right (by omega), List.getElem?_append_right (by omega), List.getElem?_append_right (by omega), hlen]
  case _ => simp at hl ⊢; omega
  all_goals
    have hd : d = p ++ (d.drop s).take o.length ++ q := by
      apply List.ext_getElem?
      intro t
      have hlen : ((d.drop s).take o.length).length = o.length := by simp at hl ⊢; omega
      by_cases c1 : t < s
      · rw [hsame t (.inl c1), List.append_assoc, List.append_assoc, List.getElem?_append_left (by omega), List.getElem?_append_left (by omega)]
      · by_cases c2 : t < i
        · rw [List.append_assoc, List.getElem?_append_right (by omega), List.getElem?_append_left (by omega), List.getElem?_take, if_pos (by omega), List.getElem?_drop]
          congr 1; omega
        · rw [hsame t (.inr (by omega)), List.append_assoc, List.append_assoc, List.getElem?_append_right (by omega), List.getElem?_append_right (by omega), List.getElem?_append_right (by omega), List.getElem?_append_right (by omega), hlen]
    have hlen : ((d.drop s).take o.length).length = o.length := by simp at hl ⊢; omega
    generalize (d.drop s).take o.length = o' at *
    subst hd
  · intro k
    have := hst k
    simp only [List.filter_append, List.append_assoc] at this
    have := List.append_cancel_left this
    exact List.append_cancel_right this
  · intro a b h1 h2 h3
    have e : ∀ t, t < o'.length → kf cl (p ++ o' ++ q) (s + t) = kf cl o' t := by
      intro t ht
      unfold kf
      rw [List.append_assoc, List.getElem?_append_right (by omega), List.getElem?_append_left (by omega), show s + t - p.length = t by omega]
    rw [← e a (by omega), ← e b h3]
    exact hso _ _ (by omega) (by omega) (by omega)

theorem stp_canon (hcl : ∀ x, 0 ≤ cl x) (rest : List Int) :
    (∀ (p d : List Int), Stp cl (p ++ rest) (rns cl rest p.length none) d → ∃ d1, d = p ++ d1 ∧ Inv cl rest d1 ∧ Ok cl d1) ∧
    (∀ (p o d : List Int), (∀ x ∈ o, cl x ≠ 0) → Stp cl (p ++ o ++ rest) (rns cl rest (p.length + o.length) (some p.length)) d → ∃ d1, d = p ++ d1 ∧ Inv cl (o ++ rest) d1 ∧ Ok cl d1) := by
  induction rest with
  | nil =>
    refine ⟨fun p d h => ?_, fun p o d ho h => ?_⟩
    · cases h; exact ⟨[], rfl, Inv.refl _, trivial⟩
    · obtain ⟨d1, hd, rfl⟩ := h
      obtain ⟨o', rfl, h1, h2, h3⟩ := done_cut rfl rfl hd
      exact ⟨o', by simp, by rw [List.append_nil]; exact inv_of_st h2 ho, ok_of_sorted h3⟩
  | cons c r ih =>
    refine ⟨fun p d h => ?_, fun p o d ho h => ?_⟩
    · unfold rns at h
      by_cases hc : cl c = 0
      · rw [if_pos hc] at h
        obtain ⟨d1, rfl, h1, h2⟩ := ih.1 (p ++ [c]) d (by simpa using h)
        refine ⟨c :: d1, by simp, h1.cons c, ?_⟩
        cases d1 with
        | nil => trivial
        | cons y t => exact ⟨fun _ => by have := hcl y; omega, ‹_›⟩
      · rw [if_neg hc] at h
        obtain ⟨d1, rfl, h1, h2⟩ := ih.2 p [c] d (by simpa using hc) (by simpa using h)
        exact ⟨d1, rfl, by simpa using h1, h2⟩
    · unfold rns at h
      by_cases hc : cl c = 0
      · rw [if_pos hc] at h
        obtain ⟨d1, hd, h⟩ := h
        obtain ⟨o', rfl, h1, h2, h3⟩ := done_cut rfl rfl hd
        obtain ⟨d2, rfl, h4, h5⟩ := ih.1 (p ++ o' ++ [c]) d (by simpa [h1, Nat.add_assoc] using h)
        refine ⟨o' ++ c :: d2, by simp, (inv_of_st h2 ho).append (h4.cons c), (ok_of_sorted h3).append ?_ (fun y t e => by injection e with e1 _; rw [← e1]; exact hc)⟩
        cases d2 with
        | nil => trivial
        | cons y t => exact ⟨fun _ => by have := hcl y; omega, ‹_›⟩
      · rw [if_neg hc] at h
        obtain ⟨d1, rfl, h1, h2⟩ := ih.2 p (o ++ [c]) d (by simpa [or_imp, forall_and] using ⟨ho, hc⟩) (by simpa [Nat.add_assoc] using h)
        exact ⟨d1, rfl, by simpa using h1, h2⟩

theorem stp_srt (hcl : ∀ x, 0 ≤ cl x) {text d : List Int} (h : Stp cl text (rns cl text 0 none) d) : d = srt cl text := by
  obtain ⟨d1, rfl, h1, h2⟩ := (stp_canon hcl text).1 [] d h
  exact srt_eq hcl h1 h2
end
end Go.Proofs.YthagfcdleapooaaDoor.Can
