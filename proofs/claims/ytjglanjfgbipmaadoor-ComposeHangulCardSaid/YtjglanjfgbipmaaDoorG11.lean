/- Texts that are merged into one file: OCanon, OCanonB, CpsText. -/
import Derived.Test.YtjglanjfgbipmaaDoorG02
import Derived.Test.YtjglanjfgbipmaaDoorG09
import Derived.Test.YtjglanjfgbipmaaDoorG10
/- The canonical order of a text: what determines it, and its laws. Plain. -/
namespace Go.Proofs.YtjglanjfgbipmaaDoor.Can

section
variable (cl : Int → Int)

/-- the elements of class k and the starters -/
def F (k : Int) (l : List Int) : List Int := l.filter fun x => cl x == k || cl x == 0
/-- the same up to exchanges of neighbours whose classes differ and are not 0 -/
def Inv (a b : List Int) : Prop := ∀ k, F cl k a = F cl k b
/-- no element follows one of a greater class, but for starters -/
def Ok : List Int → Prop
  | [] => True
  | [_] => True
  | x :: y :: r => (cl y ≠ 0 → cl x ≤ cl y) ∧ Ok (y :: r)
/-- c in front of a text in order, moved behind those with lesser classes -/
def insF (c : Int) : List Int → List Int
  | [] => [c]
  | y :: r => if cl y ≠ 0 ∧ cl y < cl c then y :: insF c r else c :: y :: r
/-- the text in order -/
def srt : List Int → List Int
  | [] => []
  | c :: r => insF cl c (srt r)
/-- the starters at their places -/
def Z (l : List Int) : List (Option Int) := l.map fun x => if cl x = 0 then some x else none
end

section
variable {cl : Int → Int}

theorem F_append (k : Int) (a b : List Int) : F cl k (a ++ b) = F cl k a ++ F cl k b := by simp [F]
theorem F_cons (k x : Int) (l : List Int) : F cl k (x :: l) = if cl x = k ∨ cl x = 0 then x :: F cl k l else F cl k l := by
  by_cases h : cl x = k ∨ cl x = 0
  · rw [if_pos h]; exact List.filter_cons_of_pos (by simpa using h)
  · rw [if_neg h]; exact List.filter_cons_of_neg (by simpa using h)
theorem Inv.refl (a : List Int) : Inv cl a a := fun _ => rfl
theorem Inv.symm {a b : List Int} (h : Inv cl a b) : Inv cl b a := fun k => (h k).symm
theorem Inv.trans {a b c : List Int} (h : Inv cl a b) (g : Inv cl b c) : Inv cl a c := fun k => (h k).trans (g k)
theorem Inv.append {a b c d : List Int} (h : Inv cl a b) (g : Inv cl c d) : Inv cl (a ++ c) (b ++ d) := fun k => by rw [F_append, F_append, h k, g k]
theorem Inv.cons (x : Int) {a b : List Int} (h : Inv cl a b) : Inv cl (x :: a) (x :: b) := fun k => by rw [F_cons, F_cons, h k]
theorem Inv.swap {x y : Int} (l : List Int) (hx : cl x ≠ 0) (hy : cl y ≠ 0) (hne : cl x ≠ cl y) : Inv cl (x :: y :: l) (y :: x :: l) := fun k => by
  simp only [F_cons]
  by_cases h1 : cl x = k
  · rw [if_pos (c := cl x = k ∨ cl x = 0) (.inl h1), if_pos (c := cl x = k ∨ cl x = 0) (.inl h1), if_neg (by omega), if_neg (by omega)]
  · rw [if_neg (c := cl x = k ∨ cl x = 0) (by omega), if_neg (c := cl x = k ∨ cl x = 0) (by omega)]

theorem Ok.tail {x : Int} {l : List Int} (h : Ok cl (x :: l)) : Ok cl l := by
  cases l with
  | nil => trivial
  | cons y r => exact h.2

/-- where the first element with class k or 0 of a text in order lies, all before it have lesser classes -/
theorem Ok.first {k : Int} {l : List Int} {x : Int} {r : List Int} (h : Ok cl l) (hk : cl x ≠ 0) (e : F cl k l = x :: r) (y : Int) (t : List Int) (hl : l = y :: t) : cl y ≤ cl x := by
  induction l generalizing y t with
  | nil => cases hl
  | cons z l ih =>
    obtain ⟨rfl, rfl⟩ : z = y ∧ l = t := by simpa using hl
    rw [F_cons] at e
    split at e
    · injection e with e1 _; rw [e1]; exact Int.le_refl _
    · cases l with
      | nil => simp [F] at e
      | cons u v =>
        have h1 := ih h.tail e u v rfl
        by_cases hu : cl u = 0
        · rw [F_cons, if_pos (.inr hu)] at e
          injection e with e1 _
          rw [e1] at hu
          exact absurd hu hk
        · have := h.1 hu
          omega

theorem canon_unique : ∀ {a b : List Int}, Inv cl a b → Ok cl a → Ok cl b → a = b
  | [], [], _, _, _ => rfl
  | [], y :: b, h, _, _ => by have := h (cl y); rw [F_cons, if_pos (.inl rfl)] at this; cases this
  | x :: a, [], h, _, _ => by have := h (cl x); rw [F_cons, if_pos (.inl rfl)] at this; cases this
  | x :: a, y :: b, h, ha, hb => by
    have hxy : x = y := by
      by_cases hx : cl x = 0
      · have e := h (cl y)
        rw [F_cons, if_pos (.inr hx), F_cons, if_pos (.inl rfl)] at e
        injection e
      · by_cases hy : cl y = 0
        · have e := h (cl x)
          rw [F_cons, if_pos (.inl rfl), F_cons, if_pos (.inr hy)] at e
          injection e
        · have e1 := h (cl x)
          rw [F_cons, if_pos (.inl rfl)] at e1
          have h1 := hb.first hx e1.symm y b rfl
          have e2 := h (cl y)
          rw [F_cons (l := b), if_pos (.inl rfl)] at e2
          have h2 := ha.first hy e2 x a rfl
          have e3 : cl x = cl y := by omega
          rw [F_cons, if_pos (.inl e3.symm)] at e1
          injection e1
    subst hxy
    have := canon_unique (a := a) (b := b) (fun k => by
      have e := h k
      rw [F_cons, F_cons] at e
      split at e
      · injection e
      · exact e) ha.tail hb.tail
    rw [this]

theorem insF_inv (hcl : ∀ x, 0 ≤ cl x) (c : Int) (l : List Int) : Inv cl (c :: l) (insF cl c l) := by
  induction l with
  | nil => exact Inv.refl _
  | cons y r ih =>
    unfold insF
    split
    · rename_i h
      exact (Inv.swap r (by have := hcl y; omega) h.1 (by omega)).trans (ih.cons y)
    · exact Inv.refl _

theorem insF_head (c : Int) (l : List Int) : ∃ y r, insF cl c l = y :: r ∧ (y = c ∨ ∃ t, l = y :: t) := by
  cases l with
  | nil => exact ⟨c, [], rfl, .inl rfl⟩
  | cons y r =>
    unfold insF
    split
    · exact ⟨y, _, rfl, .inr ⟨r, rfl⟩⟩
    · exact ⟨c, _, rfl, .inl rfl⟩

theorem insF_ok (c : Int) (l : List Int) (h : Ok cl l) : Ok cl (insF cl c l) := by
  induction l with
  | nil => trivial
  | cons y r ih =>
    unfold insF
    split
    · rename_i hc
      obtain ⟨z, t, hz, hor⟩ := insF_head (cl := cl) c r
      have := ih h.tail
      rw [hz] at this ⊢
      refine ⟨fun hne => ?_, this⟩
      rcases hor with rfl | ⟨t', rfl⟩
      · omega
      · exact h.1 hne
    · rename_i hc
      exact ⟨fun hne => by by_cases g : cl y < cl c; exact absurd ⟨hne, g⟩ hc; omega, h⟩

theorem insF_z (c : Int) (l : List Int) (hcl : ∀ x, 0 ≤ cl x) : Z cl (insF cl c l) = Z cl (c :: l) := by
  induction l with
  | nil => rfl
  | cons y r ih =>
    unfold insF
    split
    · rename_i h
      have hc : cl c ≠ 0 := by have := hcl y; omega
      show _ :: Z cl (insF cl c r) = _
      rw [ih]
      simp only [Z, List.map_cons, if_neg hc, if_neg h.1]
    · rfl

theorem insF_perm (c : Int) (l : List Int) : (insF cl c l).Perm (c :: l) := by
  induction l with
  | nil => exact .refl _
  | cons y r ih =>
    unfold insF
    split
    · exact (ih.cons y).trans (.swap c y r)
    · exact .refl _

theorem srt_inv (hcl : ∀ x, 0 ≤ cl x) (l : List Int) : Inv cl l (srt cl l) := by
  induction l with
  | nil => exact Inv.refl _
  | cons c r ih => exact (ih.cons c).trans (insF_inv hcl c _)
theorem srt_ok (l : List Int) : Ok cl (srt cl l) := by
  induction l with
  | nil => trivial
  | cons c r ih => exact insF_ok c _ ih
theorem srt_perm (l : List Int) : (srt cl l).Perm l := by
  induction l with
  | nil => exact .refl _
  | cons c r ih => exact (insF_perm c _).trans (ih.cons c)
theorem srt_len (l : List Int) : (srt cl l).length = l.length := (srt_perm l).length_eq
theorem srt_z (hcl : ∀ x, 0 ≤ cl x) (l : List Int) : Z cl (srt cl l) = Z cl l := by
  induction l with
  | nil => rfl
  | cons c r ih =>
    show Z cl (insF cl c (srt cl r)) = _
    rw [insF_z _ _ hcl]
    show _ :: Z cl (srt cl r) = _
    rw [ih]
    rfl

theorem srt_eq (hcl : ∀ x, 0 ≤ cl x) {l d : List Int} (h : Inv cl l d) (ho : Ok cl d) : d = srt cl l := canon_unique (h.symm.trans (srt_inv hcl l)) ho (srt_ok l)
theorem srt_of_inv (hcl : ∀ x, 0 ≤ cl x) {a b : List Int} (h : Inv cl a b) : srt cl a = srt cl b := srt_eq hcl (h.symm.trans (srt_inv hcl a)) (srt_ok a)
theorem inv_of_srt (hcl : ∀ x, 0 ≤ cl x) {a b : List Int} (h : srt cl a = srt cl b) : Inv cl a b := (srt_inv hcl a).trans (by rw [h]; exact (srt_inv hcl b).symm)
theorem srt_again (hcl : ∀ x, 0 ≤ cl x) (l : List Int) : srt cl (srt cl l) = srt cl l := (srt_eq hcl (Inv.refl _) (srt_ok l)).symm

theorem Ok.append {a b : List Int} (ha : Ok cl a) (hb : Ok cl b) (h : ∀ y t, b = y :: t → cl y = 0) : Ok cl (a ++ b) := by
  induction a with
  | nil => exact hb
  | cons x a ih =>
    cases a with
    | nil =>
      cases b with
      | nil => trivial
      | cons y t => exact ⟨fun hne => absurd (h y t rfl) hne, hb⟩
    | cons x' a' => exact ⟨ha.1, ih ha.2⟩

theorem srt_join (hcl : ∀ x, 0 ≤ cl x) (a b : List Int) (h : ∀ y t, b = y :: t → cl y = 0) : srt cl (a ++ b) = srt cl a ++ srt cl b := by
  symm
  refine srt_eq hcl ((srt_inv hcl a).append (srt_inv hcl b)) ((srt_ok a).append (srt_ok b) fun y t e => ?_)
  cases b with
  | nil => cases e
  | cons y' t' =>
    have hz := srt_z hcl (y' :: t')
    rw [e] at hz
    simp only [Z, List.map_cons, List.cons.injEq, if_pos (h y' t' rfl)] at hz
    by_cases hy : cl y = 0
    · exact hy
    · have := hz.1; rw [if_neg hy] at this; cases this

theorem inv_class {a b : List Int} (h : Inv cl a b) (k : Int) : a.filter (fun x => cl x == k) = b.filter (fun x => cl x == k) := by
  have e : ∀ l : List Int, l.filter (fun x => cl x == k) = (F cl k l).filter (fun x => cl x == k) := fun l => by
    unfold F
    rw [List.filter_filter]
    congr 1
    funext x
    cases cl x == k <;> simp
  rw [e a, e b, h k]

/-- the exchange of two neighbours changes nothing just where it is free -/
theorem exchange (hcl : ∀ x, 0 ≤ cl x) (p q : List Int) (x y : Int) : srt cl (p ++ x :: y :: q) = srt cl (p ++ y :: x :: q) ↔ (cl x ≠ 0 ∧ cl y ≠ 0 ∧ cl x ≠ cl y) ∨ x = y := by
  constructor
  · intro h
    by_cases hxy : x = y
    · exact .inr hxy
    · refine .inl ?_
      have hi := inv_of_srt hcl h
      have key : ∀ k, (cl x = k ∨ cl x = 0) → (cl y = k ∨ cl y = 0) → False := by
        intro k h1 h2
        have e := hi k
        rw [F_append, F_append, F_cons, F_cons, F_cons, F_cons] at e
        simp only [if_pos h1, if_pos h2] at e
        have e2 := List.append_cancel_left e
        simp only [List.cons.injEq] at e2
        exact hxy e2.1
      exact ⟨fun h0 => key (cl y) (.inr h0) (.inl rfl), fun h0 => key (cl x) (.inl rfl) (.inr h0), fun h0 => key (cl x) (.inl rfl) (.inl h0.symm)⟩
  · rintro (⟨h1, h2, h3⟩ | rfl)
    · exact srt_of_inv hcl ((Inv.refl p).append (Inv.swap q h1 h2 h3))
    · rfl
end

/-! what the chain of sorts of the runs leaves is the text in order -/
section
open Srt
variable {cl : Int → Int}

theorem inv_of_st {s s' : List Int} (h : St cl s s') (hz : ∀ x ∈ s, cl x ≠ 0) : Inv cl s s' := by
  have h0 : s'.filter (fun x => cl x == 0) = [] := by
    rw [h 0]
    exact List.filter_eq_nil_iff.2 fun x hx => by simpa using hz x hx
  have hz' : ∀ x ∈ s', cl x ≠ 0 := fun x hx e => by
    have : x ∈ s'.filter (fun x => cl x == 0) := List.mem_filter.2 ⟨hx, by simpa using e⟩
    rw [h0] at this
    cases this
  intro k
  have e : ∀ l : List Int, (∀ x ∈ l, cl x ≠ 0) → F cl k l = l.filter (fun x => cl x == k) := fun l hl => by
    unfold F
    refine List.filter_congr fun x hx => ?_
    have := hl x hx
    simp [this]
  rw [e s hz, e s' hz', h k]

theorem ok_of_sorted {s : List Int} (h : SortedOn cl s 0 s.length) : Ok cl s := by
  induction s with
  | nil => trivial
  | cons x s ih =>
    have ht : SortedOn cl s 0 s.length := fun i j _ h2 h3 => by
      have := h (i + 1) (j + 1) (by omega) (by omega) (by simpa using h3)
      simpa [kf] using this
    cases s with
    | nil => trivial
    | cons y r =>
      refine ⟨fun _ => ?_, ih ht⟩
      have := h 0 1 (by omega) (by omega) (by simp)
      simpa [kf] using this

/-- a range that was sorted, cut out -/
theorem done_cut {p o q d : List Int} {s i : Nat} (hs : p.length = s) (hi : s + o.length = i) (h : Done cl (p ++ o ++ q) d s i) :
    ∃ o', d = p ++ o' ++ q ∧ o'.length = o.length ∧ St cl o o' ∧ SortedOn cl o' 0 o'.length := by
  obtain ⟨⟨hl, hsame⟩, hst, hso⟩ := h
  refine ⟨(d.drop s).take o.length, ?_, ?_, ?_, ?_⟩
  case _ =>
    apply List.ext_getElem?
    intro t
    have hlen : ((d.drop s).take o.length).length = o.length := by simp at hl ⊢; omega
    by_cases c1 : t < s
    · rw [hsame t (.inl c1), List.append_assoc, List.append_assoc, List.getElem?_append_left (by omega), List.getElem?_append_left (by omega)]
    · by_cases c2 : t < i
      · rw [List.append_assoc, List.getElem?_append_right (by omega), List.getElem?_append_left (by omega), List.getElem?_take, if_pos (by omega), List.getElem?_drop]
        congr 1; omega
      · rw [hsame t (.inr (by omega)), List.append_assoc, List.append_assoc, List.getElem?_append_right (by omega), List.getElem?_append_right (by omega), List.getElem?_append_right (by omega), List.getElem?_append_right (by omega), hlen]
  case _ => simp at hl ⊢; omega
  all_goals
    have hd : d = p ++ (d.drop s).take o.length ++ q := by
      apply List.ext_getElem?
      intro t
      have hlen : ((d.drop s).take o.length).length = o.length := by simp at hl ⊢; omega
      by_cases c1 : t < s
      · rw [hsame t (.inl c1), List.append_assoc, List.append_assoc, List.getElem?_append_left (by omega), List.getElem?_append_left (by omega)]
      · by_cases c2 : t < i
        · rw [List.append_assoc, List.getElem?_append_right (by omega), List.getElem?_append_left (by omega), List.getElem?_take, if_pos (by omega), List.getElem?_drop]
          congr 1; omega
        · rw [hsame t (.inr (by omega)), List.append_assoc, List.append_assoc, List.getElem?_append_right (by omega), List.getElem?_append_right (by omega), List.getElem?_append_right (by omega), List.getElem?_append_right (by omega), hlen]
    have hlen : ((d.drop s).take o.length).length = o.length := by simp at hl ⊢; omega
    generalize (d.drop s).take o.length = o' at *
    subst hd
  · intro k
    have := hst k
    simp only [List.filter_append, List.append_assoc] at this
    have := List.append_cancel_left this
    exact List.append_cancel_right this
  · intro a b h1 h2 h3
    have e : ∀ t, t < o'.length → kf cl (p ++ o' ++ q) (s + t) = kf cl o' t := by
      intro t ht
      unfold kf
      rw [List.append_assoc, List.getElem?_append_right (by omega), List.getElem?_append_left (by omega), show s + t - p.length = t by omega]
    rw [← e a (by omega), ← e b h3]
    exact hso _ _ (by omega) (by omega) (by omega)

theorem stp_canon (hcl : ∀ x, 0 ≤ cl x) (rest : List Int) :
    (∀ (p d : List Int), Stp cl (p ++ rest) (rns cl rest p.length none) d → ∃ d1, d = p ++ d1 ∧ Inv cl rest d1 ∧ Ok cl d1) ∧
    (∀ (p o d : List Int), (∀ x ∈ o, cl x ≠ 0) → Stp cl (p ++ o ++ rest) (rns cl rest (p.length + o.length) (some p.length)) d → ∃ d1, d = p ++ d1 ∧ Inv cl (o ++ rest) d1 ∧ Ok cl d1) := by
  induction rest with
  | nil =>
    refine ⟨fun p d h => ?_, fun p o d ho h => ?_⟩
    · cases h; exact ⟨[], rfl, Inv.refl _, trivial⟩
    · obtain ⟨d1, hd, rfl⟩ := h
      obtain ⟨o', rfl, h1, h2, h3⟩ := done_cut rfl rfl hd
      exact ⟨o', by simp, by rw [List.append_nil]; exact inv_of_st h2 ho, ok_of_sorted h3⟩
  | cons c r ih =>
    refine ⟨fun p d h => ?_, fun p o d ho h => ?_⟩
    · unfold rns at h
      by_cases hc : cl c = 0
      · rw [if_pos hc] at h
        obtain ⟨d1, rfl, h1, h2⟩ := ih.1 (p ++ [c]) d (by simpa using h)
        refine ⟨c :: d1, by simp, h1.cons c, ?_⟩
        cases d1 with
        | nil => trivial
        | cons y t => exact ⟨fun _ => by have := hcl y; omega, ‹_›⟩
      · rw [if_neg hc] at h
        obtain ⟨d1, rfl, h1, h2⟩ := ih.2 p [c] d (by simpa using hc) (by simpa using h)
        exact ⟨d1, rfl, by simpa using h1, h2⟩
    · unfold rns at h
      by_cases hc : cl c = 0
      · rw [if_pos hc] at h
        obtain ⟨d1, hd, h⟩ := h
        obtain ⟨o', rfl, h1, h2, h3⟩ := done_cut rfl rfl hd
        obtain ⟨d2, rfl, h4, h5⟩ := ih.1 (p ++ o' ++ [c]) d (by simpa [h1, Nat.add_assoc] using h)
        refine ⟨o' ++ c :: d2, by simp, (inv_of_st h2 ho).append (h4.cons c), (ok_of_sorted h3).append ?_ (fun y t e => by injection e with e1 _; rw [← e1]; exact hc)⟩
        cases d2 with
        | nil => trivial
        | cons y t => exact ⟨fun _ => by have := hcl y; omega, ‹_›⟩
      · rw [if_neg hc] at h
        obtain ⟨d1, rfl, h1, h2⟩ := ih.2 p (o ++ [c]) d (by simpa [or_imp, forall_and] using ⟨ho, hc⟩) (by simpa [Nat.add_assoc] using h)
        exact ⟨d1, rfl, by simpa using h1, h2⟩

theorem stp_srt (hcl : ∀ x, 0 ≤ cl x) {text d : List Int} (h : Stp cl text (rns cl text 0 none) d) : d = srt cl text := by
  obtain ⟨d1, rfl, h1, h2⟩ := (stp_canon hcl text).1 [] d h
  exact srt_eq hcl h1 h2
end
end Go.Proofs.YtjglanjfgbipmaaDoor.Can
/- An element put behind a text in order and moved in front of those with greater classes; the runs of a text with one element more. Plain. -/
namespace Go.Proofs.YtjglanjfgbipmaaDoor.Can

section
variable {cl : Int → Int}

theorem inv_back (c : Int) (q : List Int) (hc : 0 < cl c) (h : ∀ y ∈ q, cl c < cl y) : Inv cl (q ++ [c]) (c :: q) := by
  induction q with
  | nil => exact Inv.refl _
  | cons y r ih =>
    have hy := h y (List.mem_cons_self ..)
    exact ((ih fun z hz => h z (List.mem_cons_of_mem _ hz)).cons y).trans (Inv.swap r (by omega) (by omega) (by omega))

theorem ok_ins (c : Int) (p q : List Int) (h : Ok cl (p ++ q)) (hq : ∀ y ∈ q, cl c < cl y) (hp : cl c = 0 ∨ ∀ x, p.getLast? = some x → cl x ≤ cl c) : Ok cl (p ++ c :: q) := by
  have base : ∀ q : List Int, Ok cl q → (∀ y ∈ q, cl c < cl y) → Ok cl (c :: q) := by
    intro q hq1 hq2
    cases q with
    | nil => trivial
    | cons y r => exact ⟨fun _ => by have := hq2 y (List.mem_cons_self ..); omega, hq1⟩
  induction p with
  | nil => exact base q h hq
  | cons x p ih =>
    cases p with
    | nil =>
      refine ⟨fun hne => ?_, base q h.tail hq⟩
      rcases hp with hp | hp
      · exact absurd hp hne
      · exact hp x rfl
    | cons x' p' => exact ⟨h.1, ih h.2 (by rcases hp with hp | hp; exact .inl hp; exact .inr fun z hz => hp z (by simpa [List.getLast?_cons_cons] using hz))⟩

/-- the element c behind a text in order, at its place -/
theorem srt_snoc (hcl : ∀ x, 0 ≤ cl x) {l p q : List Int} {c : Int} (h : srt cl l = p ++ q) (hq : q = [] ∨ 0 < cl c) (hq2 : ∀ y ∈ q, cl c < cl y) (hp : cl c = 0 ∨ ∀ x, p.getLast? = some x → cl x ≤ cl c) : p ++ c :: q = srt cl (l ++ [c]) := by
  refine srt_eq hcl ?_ (ok_ins c p q (by rw [← h]; exact srt_ok l) hq2 hp)
  have h1 : Inv cl (l ++ [c]) ((p ++ q) ++ [c]) := (show Inv cl l (p ++ q) by rw [← h]; exact srt_inv hcl l).append (Inv.refl [c])
  refine h1.trans ?_
  rw [List.append_assoc]
  refine (Inv.refl p).append ?_
  rcases hq with rfl | hq
  · exact Inv.refl _
  · exact inv_back c q hq hq2
end

end Go.Proofs.YtjglanjfgbipmaaDoor.Can

namespace Go.Proofs.YtjglanjfgbipmaaDoor

theorem rns_snoc0 (cl : Int → Int) (l : List Int) (c : Int) (i : Nat) (s : Option Nat) (h : cl c = 0) : rns cl (l ++ [c]) i s = rns cl l i s := by
  induction l generalizing i s with
  | nil => cases s <;> simp [rns, h]
  | cons x r ih =>
    cases s <;> simp only [List.cons_append, rns, ih]

theorem rns_snoc1 (cl : Int → Int) (l : List Int) (c : Int) (i : Nat) (s : Option Nat) (h : cl c ≠ 0) (ho : match l.getLast? with | none => s.isSome = true | some x => cl x ≠ 0) :
    ∃ pre a, rns cl l i s = pre ++ [(a, i + l.length)] ∧ rns cl (l ++ [c]) i s = pre ++ [(a, i + l.length + 1)] := by
  induction l generalizing i s with
  | nil =>
    cases s with
    | none => simp at ho
    | some s => exact ⟨[], s, by simp [rns], by simp [rns, h]⟩
  | cons x r ih =>
    have key : ∀ s', (match r.getLast? with | none => s'.isSome = true | some x => cl x ≠ 0) → ∃ pre a, rns cl r (i + 1) s' = pre ++ [(a, i + (x :: r).length)] ∧ rns cl (r ++ [c]) (i + 1) s' = pre ++ [(a, i + (x :: r).length + 1)] := by
      intro s' hs'
      obtain ⟨pre, a, h1, h2⟩ := ih (i + 1) s' hs'
      refine ⟨pre, a, ?_, ?_⟩
      · rw [h1]; simp; omega
      · rw [h2]; simp; omega
    have hr : r ≠ [] → ∀ s' : Option Nat, (match r.getLast? with | none => s'.isSome = true | some x => cl x ≠ 0) := by
      intro hne s'
      cases r with
      | nil => exact absurd rfl hne
      | cons y t =>
        have : (x :: y :: t).getLast? = (y :: t).getLast? := List.getLast?_cons_cons
        rw [this] at ho
        cases hg : (y :: t).getLast? with
        | none => simp at hg
        | some z => rw [hg] at ho; exact ho
    have hx : r = [] → cl x ≠ 0 := by rintro rfl; exact ho
    cases s with
    | none =>
      simp only [List.cons_append, rns]
      by_cases c0 : cl x = 0
      · rw [if_pos c0, if_pos c0]
        exact key none (hr (fun e => hx e c0) none)
      · rw [if_neg c0, if_neg c0]
        refine key (some i) ?_
        cases r with
        | nil => rfl
        | cons y t => exact hr (by simp) (some i)
    | some s =>
      simp only [List.cons_append, rns]
      by_cases c0 : cl x = 0
      · rw [if_pos c0, if_pos c0]
        obtain ⟨pre, a, h1, h2⟩ := key none (hr (fun e => hx e c0) none)
        exact ⟨(s, i) :: pre, a, by rw [h1]; rfl, by rw [h2]; rfl⟩
      · rw [if_neg c0, if_neg c0]
        refine key (some s) ?_
        cases r with
        | nil => rfl
        | cons y t => exact hr (by simp) (some s)

theorem rns_snoc2 (cl : Int → Int) (l : List Int) (c : Int) (i : Nat) (s : Option Nat) (h : cl c ≠ 0) (ho : match l.getLast? with | none => s = none | some x => cl x = 0) :
    rns cl (l ++ [c]) i s = rns cl l i s ++ [(i + l.length, i + l.length + 1)] := by
  induction l generalizing i s with
  | nil => obtain rfl : s = none := ho; simp [rns, h]
  | cons x r ih =>
    have key : ∀ s', (match r.getLast? with | none => s' = none | some x => cl x = 0) → rns cl (r ++ [c]) (i + 1) s' = rns cl r (i + 1) s' ++ [(i + (x :: r).length, i + (x :: r).length + 1)] := by
      intro s' hs'
      rw [ih (i + 1) s' hs']
      simp; omega
    have hr : r ≠ [] → ∀ s' : Option Nat, (match r.getLast? with | none => s' = none | some x => cl x = 0) := by
      intro hne s'
      cases r with
      | nil => exact absurd rfl hne
      | cons y t =>
        have : (x :: y :: t).getLast? = (y :: t).getLast? := List.getLast?_cons_cons
        rw [this] at ho
        cases hg : (y :: t).getLast? with
        | none => simp at hg
        | some z => rw [hg] at ho; exact ho
    have hx : r = [] → cl x = 0 := by rintro rfl; exact ho
    cases s with
    | none =>
      simp only [List.cons_append, rns]
      by_cases c0 : cl x = 0
      · rw [if_pos c0, if_pos c0]
        refine key none ?_
        cases r with
        | nil => rfl
        | cons y t => exact hr (by simp) none
      · rw [if_neg c0, if_neg c0]
        exact key (some i) (hr (fun e => c0 (hx e)) (some i))
    | some s =>
      simp only [List.cons_append, rns]
      by_cases c0 : cl x = 0
      · rw [if_pos c0, if_pos c0, List.cons_append]
        congr 1
        refine key none ?_
        cases r with
        | nil => rfl
        | cons y t => exact hr (by simp) none
      · rw [if_neg c0, if_neg c0]
        exact key (some s) (hr (fun e => c0 (hx e)) (some s))

/-- the runs of a text with one element more -/
theorem rns_take (cl : Int → Int) (l : List Int) (i : Nat) (hi : i < l.length) :
    (cl l[i] = 0 → rns cl (l.take (i + 1)) 0 none = rns cl (l.take i) 0 none) ∧
    (cl l[i] ≠ 0 → ∀ hp : 0 < i, cl (l[i - 1]'(by omega)) ≠ 0 → ∃ pre a, rns cl (l.take i) 0 none = pre ++ [(a, i)] ∧ rns cl (l.take (i + 1)) 0 none = pre ++ [(a, i + 1)]) ∧
    (cl l[i] ≠ 0 → (∀ hp : 0 < i, cl (l[i - 1]'(by omega)) = 0) → rns cl (l.take (i + 1)) 0 none = rns cl (l.take i) 0 none ++ [(i, i + 1)]) := by
  have ht : l.take (i + 1) = l.take i ++ [l[i]] := List.take_succ_eq_append_getElem hi
  have hl : (l.take i).length = i := by simp; omega
  have hg : ∀ hp : 0 < i, (l.take i).getLast? = some (l[i - 1]'(by omega)) := by
    intro hp
    rw [List.getLast?_eq_getElem?, hl, List.getElem?_take, if_pos (by omega), List.getElem?_eq_getElem (by omega)]
  rw [ht]
  refine ⟨fun h => rns_snoc0 cl _ _ 0 none h, fun h hp h2 => ?_, fun h h2 => ?_⟩
  · have := rns_snoc1 cl (l.take i) l[i] 0 none h (by rw [hg hp]; exact h2)
    simpa [hl] using this
  · have := rns_snoc2 cl (l.take i) l[i] 0 none h (by
      rcases Nat.eq_zero_or_pos i with h0 | h0
      · subst h0; rfl
      · rw [hg h0]; exact h2 h0)
    simpa [hl] using this

end Go.Proofs.YtjglanjfgbipmaaDoor
/- Composing a text: a machine over its elements, and the laws of it. Plain. -/
namespace Go.Proofs.YtjglanjfgbipmaaDoor.Cps
open Go.Proofs.YtjglanjfgbipmaaDoor

/-- what has been composed: ahead of the last starter, the last starter, behind it -/
structure CSt where
  pre : List Int
  st : Option Int
  bt : List Int
def CSt.out (s : CSt) : List Int := s.pre ++ (s.st.toList ++ s.bt)
def CSt.sh (q : List Int) (s : CSt) : CSt := ⟨q ++ s.pre, s.st, s.bt⟩
def s0 : CSt := ⟨[], none, []⟩
section
variable (cl : Int → Int) (pr : Int → Int → Option Int)
def free (s : CSt) (c : Int) : Bool := match s.bt.getLast? with | none => true | some b => decide (cl b < cl c)
def put (s : CSt) (c : Int) : CSt := if cl c = 0 then ⟨s.out, some c, []⟩ else ⟨s.pre, s.st, s.bt ++ [c]⟩
def join (s : CSt) (c : Int) : Option Int := match s.st with | some L => if free cl s c = true then pr L c else none | none => none
def step (s : CSt) (c : Int) : CSt := match join cl pr s c with | some p => ⟨s.pre, some p, s.bt⟩ | none => put cl s c
def run (s : CSt) (t : List Int) : CSt := t.foldl (step cl pr) s
def text (t : List Int) : List Int := (run cl pr s0 t).out
end
section
variable {cl : Int → Int} {pr : Int → Int → Option Int}
theorem put_out (s : CSt) (c : Int) : (put cl s c).out = s.out ++ [c] := by
  unfold put
  split <;> simp [CSt.out]
theorem join_some {s : CSt} {c p : Int} (h : join cl pr s c = some p) : ∃ L, s.st = some L ∧ free cl s c = true ∧ pr L c = some p := by
  unfold join at h
  split at h
  · next L hL =>
    split at h
    · next hf => exact ⟨L, hL, hf, h⟩
    · cases h
  · cases h
theorem step_some {s : CSt} {c p : Int} (h : join cl pr s c = some p) : step cl pr s c = ⟨s.pre, some p, s.bt⟩ := by unfold step; rw [h]
theorem step_none {s : CSt} {c : Int} (h : join cl pr s c = none) : step cl pr s c = put cl s c := by unfold step; rw [h]
theorem run_append (s : CSt) (a b : List Int) : run cl pr s (a ++ b) = run cl pr (run cl pr s a) b := List.foldl_append
theorem run_cons (s : CSt) (c : Int) (b : List Int) : run cl pr s (c :: b) = run cl pr (step cl pr s c) b := rfl
theorem step_len (s : CSt) (c : Int) : (step cl pr s c).out.length ≤ s.out.length + 1 := by
  cases h : join cl pr s c with
  | none => rw [step_none h, put_out]; simp
  | some p =>
    obtain ⟨L, h1, _, _⟩ := join_some h
    rw [step_some h]
    simp [CSt.out, h1]
theorem run_len (t : List Int) : ∀ s : CSt, (run cl pr s t).out.length ≤ s.out.length + t.length := by
  induction t with
  | nil => intro s; simp [run]
  | cons c t ih =>
    intro s
    rw [run_cons]
    have h1 := ih (step cl pr s c)
    have h2 := step_len (cl := cl) (pr := pr) s c
    simp
    omega
theorem text_len (t : List Int) : (text cl pr t).length ≤ t.length := by
  have := run_len (cl := cl) (pr := pr) t s0
  simpa [text, s0, CSt.out] using this
theorem run_mem (t : List Int) : ∀ (s : CSt) (e : Int), e ∈ (run cl pr s t).out → e ∈ s.out ∨ e ∈ t ∨ ∃ a b, pr a b = some e := by
  induction t with
  | nil => intro s e h; exact .inl h
  | cons c t ih =>
    intro s e h
    rw [run_cons] at h
    rcases ih _ e h with h | h | h
    · cases hj : join cl pr s c with
      | none =>
        rw [step_none hj, put_out] at h
        rcases List.mem_append.1 h with h | h
        · exact .inl h
        · exact .inr (.inl (by simp at h; simp [h]))
      | some p =>
        obtain ⟨L, h1, _, h3⟩ := join_some hj
        rw [step_some hj] at h
        simp only [CSt.out, Option.toList_some, List.mem_append, List.mem_singleton] at h
        rcases h with h | h | h
        · exact .inl (by simp [CSt.out, h])
        · exact .inr (.inr ⟨L, c, by rw [h]; exact h3⟩)
        · exact .inl (by simp [CSt.out, h])
    · exact .inr (.inl (by simp [h]))
    · exact .inr (.inr h)
theorem text_mem (t : List Int) {e : Int} (h : e ∈ text cl pr t) : e ∈ t ∨ ∃ a b, pr a b = some e := by
  rcases run_mem t s0 e h with h | h | h
  · simp [s0, CSt.out] at h
  · exact .inl h
  · exact .inr h
theorem join_no {s : CSt} {c : Int} (h : ∀ a, pr a c = none) : join cl pr s c = none := by
  cases hj : join cl pr s c with
  | none => rfl
  | some p => obtain ⟨L, _, _, h3⟩ := join_some hj; rw [h L] at h3; cases h3
theorem run_plain (t : List Int) (h : ∀ c ∈ t, ∀ a, pr a c = none) : ∀ s : CSt, (run cl pr s t).out = s.out ++ t := by
  induction t with
  | nil => intro s; simp [run]
  | cons c t ih =>
    intro s
    rw [run_cons, step_none (join_no (h c (by simp))), ih (fun c hc => h c (by simp [hc])), put_out]
    simp
theorem join_s0 (c : Int) : join cl pr s0 c = none := rfl
/-- where no element behind the first one is a second element, nothing changes -/
theorem text_plain (t : List Int) (h : ∀ c ∈ t.tail, ∀ a, pr a c = none) : text cl pr t = t := by
  cases t with
  | nil => rfl
  | cons c t =>
    unfold text
    rw [run_cons, step_none (join_s0 c), run_plain t (fun c hc => h c hc), put_out]
    simp [s0, CSt.out]
theorem sh_out (q : List Int) (s : CSt) : (s.sh q).out = q ++ s.out := by simp [CSt.sh, CSt.out]
theorem sh_step (q : List Int) (s : CSt) (c : Int) : step cl pr (s.sh q) c = (step cl pr s c).sh q := by
  have h1 : join cl pr (s.sh q) c = join cl pr s c := rfl
  cases hj : join cl pr s c with
  | none =>
    rw [step_none hj, step_none (h1.trans hj)]
    unfold put
    split
    · rw [sh_out]; rfl
    · rfl
  | some p => rw [step_some hj, step_some (h1.trans hj)]; rfl
theorem sh_run (q : List Int) (t : List Int) : ∀ s : CSt, run cl pr (s.sh q) t = (run cl pr s t).sh q := by
  induction t with
  | nil => intro s; rfl
  | cons c t ih => intro s; rw [run_cons, run_cons, sh_step, ih]
/-- composing distributes over concatenation before a starter that is no second element -/
theorem text_spread (a b : List Int) {c : Int} (hc : cl c = 0) (hn : ∀ x, pr x c = none) : text cl pr (a ++ c :: b) = text cl pr a ++ text cl pr (c :: b) := by
  unfold text
  rw [run_append, run_cons, run_cons, step_none (join_no hn), step_none (join_no hn)]
  have e : put cl (run cl pr s0 a) c = (put cl s0 c).sh (run cl pr s0 a).out := by
    unfold put
    rw [if_pos hc, if_pos hc]
    simp [CSt.sh, s0, CSt.out]
  rw [e, sh_run, sh_out]
end

/-! decomposing undoes composing -/
section
variable {cl : Int → Int} {pr : Int → Int → Option Int} {D : Int → List Int}
theorem inv_move (c : Int) (q : List Int) (hc : cl c ≠ 0) (h : ∀ y ∈ q, cl y ≠ 0 ∧ cl y ≠ cl c) : Can.Inv cl (c :: q) (q ++ [c]) := by
  induction q with
  | nil => exact Can.Inv.refl _
  | cons y r ih =>
    have hy := h y (by simp)
    exact (Can.Inv.swap r hc hy.1 (fun e => hy.2 e.symm)).trans ((ih (fun z hz => h z (by simp [hz]))).cons y)
/-- what holds of the machine when a text in order has been composed -/
structure Und (cl : Int → Int) (D : Int → List Int) (u : List Int) (s : CSt) : Prop where
  inv : Can.Inv cl (s.out.flatMap D) u
  bts : ∀ b ∈ s.bt, D b = [b] ∧ cl b ≠ 0
  pw : s.bt.Pairwise (fun x y => cl x ≤ cl y)
  top : ∀ b ∈ s.bt, ∃ x, u.getLast? = some x ∧ cl b ≤ cl x
theorem flat_self {l : List Int} (h : ∀ b ∈ l, D b = [b]) : l.flatMap D = l := by
  induction l with
  | nil => rfl
  | cons b l ih => rw [List.flatMap_cons, h b (by simp), ih (fun x hx => h x (by simp [hx]))]; rfl
theorem last_le {l : List Int} (hp : l.Pairwise (fun x y => cl x ≤ cl y)) {b : Int} (hb : l.getLast? = some b) : ∀ x ∈ l, cl x ≤ cl b := by
  obtain ⟨r, rfl⟩ : ∃ r, l = r ++ [b] := by
    cases hl : l with
    | nil => rw [hl] at hb; cases hb
    | cons x y => 
      rw [hl] at hb
      refine ⟨(x :: y).dropLast, ?_⟩
      have h1 : (x :: y).getLast (by simp) = b := by rw [List.getLast?_eq_some_getLast (by simp)] at hb; injection hb
      rw [← h1, List.dropLast_concat_getLast]
  intro x hx
  rcases List.mem_append.1 hx with hx | hx
  · exact (List.pairwise_append.1 hp).2.2 x hx b (by simp)
  · simp at hx; subst hx; omega
theorem Und.step (hcl : ∀ x, 0 ≤ cl x) (hD : ∀ L c p, pr L c = some p → D p = D L ++ D c) {u : List Int} {s : CSt} {c : Int} (h : Und cl D u s) (hc : D c = [c]) (hok : cl c ≠ 0 → ∀ x, u.getLast? = some x → cl x ≤ cl c) : Und cl D (u ++ [c]) (step cl pr s c) := by
  have hlast : (u ++ [c]).getLast? = some c := by simp
  have hlt : cl c ≠ 0 → ∀ b ∈ s.bt, cl b ≤ cl c := fun h0 b hb => by
    obtain ⟨x, h1, h2⟩ := h.top b hb
    have := hok h0 x h1
    omega
  cases hj : join cl pr s c with
  | none =>
    rw [step_none hj]
    have hi : Can.Inv cl ((put cl s c).out.flatMap D) (u ++ [c]) := by
      rw [put_out, List.flatMap_append]
      have : [c].flatMap D = [c] := by simp [hc]
      rw [this]
      exact h.inv.append (Can.Inv.refl _)
    by_cases h0 : cl c = 0
    · have e : (put cl s c).bt = [] := by unfold put; rw [if_pos h0]
      exact ⟨hi, by rw [e]; simp, by rw [e]; simp, by rw [e]; simp⟩
    · have e : (put cl s c).bt = s.bt ++ [c] := by unfold put; rw [if_neg h0]
      refine ⟨hi, ?_, ?_, ?_⟩ <;> rw [e]
      · intro b hb
        rcases List.mem_append.1 hb with hb | hb
        · exact h.bts b hb
        · simp at hb; subst hb; exact ⟨hc, h0⟩
      · rw [List.pairwise_append]
        exact ⟨h.pw, by simp, fun a ha b hb => by simp at hb; subst hb; exact hlt h0 a ha⟩
      · intro b hb
        refine ⟨c, hlast, ?_⟩
        rcases List.mem_append.1 hb with hb | hb
        · exact hlt h0 b hb
        · simp at hb; subst hb; omega
  | some p =>
    obtain ⟨L, h1, h2, h3⟩ := join_some hj
    rw [step_some hj]
    have hDp := hD L c p h3
    rw [hc] at hDp
    have hall : ∀ b ∈ s.bt, cl b < cl c := by
      intro b hb
      unfold free at h2
      cases hl : s.bt.getLast? with
      | none => rw [List.getLast?_eq_none_iff] at hl; rw [hl] at hb; cases hb
      | some y =>
        rw [hl] at h2
        have h4 : cl y < cl c := by simpa using h2
        have := last_le h.pw hl b hb
        omega
    refine ⟨?_, h.bts, h.pw, fun b hb => ⟨c, hlast, by have := hall b hb; omega⟩⟩
    have e1 : (CSt.out ⟨s.pre, some p, s.bt⟩).flatMap D = s.pre.flatMap D ++ (D L ++ (c :: s.bt)) := by
      simp [CSt.out, hDp, flat_self (fun b hb => (h.bts b hb).1)]
    have e2 : s.out.flatMap D ++ [c] = s.pre.flatMap D ++ (D L ++ (s.bt ++ [c])) := by
      simp [CSt.out, h1, flat_self (fun b hb => (h.bts b hb).1)]
    rw [e1]
    have hmv : Can.Inv cl (c :: s.bt) (s.bt ++ [c]) := by
      by_cases hb : s.bt = []
      · rw [hb]; exact Can.Inv.refl _
      · obtain ⟨y, hy⟩ := List.exists_mem_of_ne_nil _ hb
        have h5 := hall y hy
        have h6 := hcl y
        exact inv_move c _ (by omega) (fun z hz => ⟨(h.bts z hz).2, by have := hall z hz; omega⟩)
    refine ((Can.Inv.refl (cl := cl) (s.pre.flatMap D)).append ((Can.Inv.refl (cl := cl) (D L)).append hmv)).trans ?_
    rw [← e2]
    exact h.inv.append (Can.Inv.refl _)
theorem und_run (hcl : ∀ x, 0 ≤ cl x) (hD : ∀ L c p, pr L c = some p → D p = D L ++ D c) : ∀ (t u : List Int) (s : CSt), Und cl D u s → (∀ c ∈ t, D c = [c]) → (∀ p x c q, u ++ t = p ++ x :: c :: q → cl c ≠ 0 → cl x ≤ cl c) → Und cl D (u ++ t) (run cl pr s t)
  | [], u, s, h, _, _ => by simpa [run] using h
  | c :: t, u, s, h, hc, ho => by
    have h1 : Und cl D (u ++ [c]) (step cl pr s c) := h.step hcl hD (hc c (by simp)) (fun h0 x hx => by
      obtain ⟨r, rfl⟩ : ∃ r, u = r ++ [x] := by
        refine ⟨u.dropLast, ?_⟩
        have hne : u ≠ [] := by rintro rfl; cases hx
        have : u.getLast hne = x := by rw [List.getLast?_eq_some_getLast hne] at hx; injection hx
        rw [← this, List.dropLast_concat_getLast]
      exact ho r x c t (by simp) h0)
    have := und_run hcl hD t (u ++ [c]) _ h1 (fun x hx => hc x (by simp [hx])) (fun p x d q e => ho p x d q (by rw [← e]; simp))
    rw [run_cons]
    simpa using this
theorem ok_pairs {l : List Int} : ∀ {p : List Int} {x c : Int} {q : List Int}, Can.Ok cl l → l = p ++ x :: c :: q → cl c ≠ 0 → cl x ≤ cl c := by
  induction l with
  | nil => intro p x c q _ e; simp at e
  | cons y l ih =>
    intro p x c q h e h0
    cases p with
    | nil =>
      simp only [List.nil_append, List.cons.injEq] at e
      obtain ⟨rfl, rfl⟩ := e
      exact h.1 h0
    | cons z p =>
      simp only [List.cons_append, List.cons.injEq] at e
      exact ih h.tail e.2 h0
/-- decomposing the composed text of a decomposed text in order gives it again -/
theorem undone (hcl : ∀ x, 0 ≤ cl x) (hD : ∀ L c p, pr L c = some p → D p = D L ++ D c) {t : List Int} (ht : ∀ c ∈ t, D c = [c]) (ho : Can.Ok cl t) : Can.srt cl ((text cl pr t).flatMap D) = t := by
  have h := und_run hcl hD t [] s0 ⟨Can.Inv.refl _, by simp [s0], by simp [s0], by simp [s0]⟩ ht (fun p x c q e h0 => ok_pairs ho (by simpa using e) h0)
  have h1 := h.inv
  simp only [List.nil_append] at h1
  exact (Can.srt_eq hcl h1 ho).symm
end

/-! the parts of syllables -/
def hpr (a b : Int) : Option Int := if (Hg.comp a b).2 = true then some (Hg.comp a b).1 else none
theorem run_syl (s : CSt) {y : Int} (hy : 4 ≤ Hg.kind y) : run (fun _ => 0) hpr s (Hg.decomp y) = ⟨s.out, some y, []⟩ := by
  have hr : 0xAC00 ≤ y ∧ y ≤ 0xD7A3 := by rcases Hg.cases6 y with h | h | h | h | h | h <;> omega
  have hk1 : Hg.kind (0x1100 + (y - 0xAC00) / 28 / 21) = 1 := Hg.kind1 (by omega)
  have hk2 : Hg.kind (0x1161 + (y - 0xAC00) / 28 % 21) = 2 := Hg.kind2 (by omega)
  have j1 : join (fun _ => 0) hpr s (0x1100 + (y - 0xAC00) / 28 / 21) = none := by
    cases hj : join (fun _ => 0) hpr s (0x1100 + (y - 0xAC00) / 28 / 21) with
    | none => rfl
    | some p =>
      obtain ⟨L, _, _, h3⟩ := join_some hj
      have e0 : Hg.comp L (0x1100 + (y - 0xAC00) / 28 / 21) = (0, false) := by
        unfold Hg.comp
        rw [if_neg (by omega), if_neg (by omega)]
      simp [hpr, e0] at h3
  have s1 : step (fun _ => 0) hpr s (0x1100 + (y - 0xAC00) / 28 / 21) = ⟨s.out, some (0x1100 + (y - 0xAC00) / 28 / 21), []⟩ := by
    rw [step_none j1]; unfold put; rw [if_pos rfl]
  have hc1 : Hg.comp (0x1100 + (y - 0xAC00) / 28 / 21) (0x1161 + (y - 0xAC00) / 28 % 21) = (0xAC00 + (y - 0xAC00) / 28 * 28, true) := by
    unfold Hg.comp
    rw [if_pos ⟨hk1, hk2⟩]
    congr 1
    omega
  have s2 : step (fun _ => 0) hpr ⟨s.out, some (0x1100 + (y - 0xAC00) / 28 / 21), []⟩ (0x1161 + (y - 0xAC00) / 28 % 21) = ⟨s.out, some (0xAC00 + (y - 0xAC00) / 28 * 28), []⟩ := by
    refine step_some (p := 0xAC00 + (y - 0xAC00) / 28 * 28) ?_
    simp [join, free, hpr, hc1]
  unfold Hg.decomp
  rw [if_neg (by omega)]
  split
  · next h =>
    rw [run_cons, run_cons, s1, s2]
    have : 0xAC00 + (y - 0xAC00) / 28 * 28 = y := by omega
    rw [this]
    rfl
  · next h =>
    have hk4 : Hg.kind (0xAC00 + (y - 0xAC00) / 28 * 28) = 4 := Hg.kind4 (by omega) (by omega)
    have hk3 : Hg.kind (0x11A8 + (y - 0xAC00) % 28 - 1) = 3 := Hg.kind3 (by omega)
    have hc2 : Hg.comp (0xAC00 + (y - 0xAC00) / 28 * 28) (0x11A8 + (y - 0xAC00) % 28 - 1) = (y, true) := by
      unfold Hg.comp
      rw [if_neg (by omega), if_pos ⟨hk4, hk3⟩]
      congr 1
      omega
    have s3 : step (fun _ => 0) hpr ⟨s.out, some (0xAC00 + (y - 0xAC00) / 28 * 28), []⟩ (0x11A8 + (y - 0xAC00) % 28 - 1) = ⟨s.out, some y, []⟩ := by
      refine step_some (p := y) ?_
      simp [join, free, hpr, hc2]
    rw [run_cons, run_cons, run_cons, s1, s2, s3]
    rfl
theorem run_syls : ∀ (ys : List Int) (s : CSt), (∀ y ∈ ys, 4 ≤ Hg.kind y) → (run (fun _ => 0) hpr s (ys.flatMap Hg.decomp)).out = s.out ++ ys
  | [], s, _ => by simp [run]
  | y :: ys, s, h3 => by
    rw [List.flatMap_cons, run_append, run_syl s (h3 y (by simp)), run_syls ys _ (fun z hz => h3 z (by simp [hz]))]
    simp [CSt.out]
theorem text_syls (ys : List Int) (h : ∀ y ∈ ys, 4 ≤ Hg.kind y) : text (fun _ => 0) hpr (ys.flatMap Hg.decomp) = ys := by
  have := run_syls ys s0 h
  simpa [text, s0, CSt.out] using this
end Go.Proofs.YtjglanjfgbipmaaDoor.Cps
