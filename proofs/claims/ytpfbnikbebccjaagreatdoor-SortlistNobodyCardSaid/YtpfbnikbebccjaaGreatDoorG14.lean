/- Texts that are merged into one file: OCanon, OSortB, SkRev, FullPlain, RefDec, RefDecB, RefDecC, RefFull. -/
import Derived.Test.YtpfbnikbebccjaaGreatDoorG03
import Derived.Test.YtpfbnikbebccjaaGreatDoorG04
import Derived.Test.YtpfbnikbebccjaaGreatDoorG07
import Derived.Test.YtpfbnikbebccjaaGreatDoorG08
import Derived.Test.YtpfbnikbebccjaaGreatDoorG10
import Derived.Test.YtpfbnikbebccjaaGreatDoorG13
/- The canonical order of a text: what determines it, and its laws. Plain. -/
namespace Go.Proofs.YtpfbnikbebccjaaGreatDoor.Can

section
variable (cl : Int → Int)

/-- the elements of class k and the starters -/
def F (k : Int) (l : List Int) : List Int := l.filter fun x => cl x == k || cl x == 0
/-- the same up to exchanges of neighbours whose classes differ and are not 0 -/
def Inv (a b : List Int) : Prop := ∀ k, F cl k a = F cl k b
/-- no element follows one of a greater class, but for starters -/
def Ok : List Int → Prop
  | [] => True
  | [_] => True
  | x :: y :: r => (cl y ≠ 0 → cl x ≤ cl y) ∧ Ok (y :: r)
/-- c in front of a text in order, moved behind those with lesser classes -/
def insF (c : Int) : List Int → List Int
  | [] => [c]
  | y :: r => if cl y ≠ 0 ∧ cl y < cl c then y :: insF c r else c :: y :: r
/-- the text in order -/
def srt : List Int → List Int
  | [] => []
  | c :: r => insF cl c (srt r)
/-- the starters at their places -/
def Z (l : List Int) : List (Option Int) := l.map fun x => if cl x = 0 then some x else none
end

section
variable {cl : Int → Int}

theorem F_append (k : Int) (a b : List Int) : F cl k (a ++ b) = F cl k a ++ F cl k b := by simp [F]
theorem F_cons (k x : Int) (l : List Int) : F cl k (x :: l) = if cl x = k ∨ cl x = 0 then x :: F cl k l else F cl k l := by
  by_cases h : cl x = k ∨ cl x = 0
  · rw [if_pos h]; exact List.filter_cons_of_pos (by simpa using h)
  · rw [if_neg h]; exact List.filter_cons_of_neg (by simpa using h)
theorem Inv.refl (a : List Int) : Inv cl a a := fun _ => rfl
theorem Inv.symm {a b : List Int} (h : Inv cl a b) : Inv cl b a := fun k => (h k).symm
theorem Inv.trans {a b c : List Int} (h : Inv cl a b) (g : Inv cl b c) : Inv cl a c := fun k => (h k).trans (g k)
theorem Inv.append {a b c d : List Int} (h : Inv cl a b) (g : Inv cl c d) : Inv cl (a ++ c) (b ++ d) := fun k => by rw [F_append, F_append, h k, g k]
theorem Inv.cons (x : Int) {a b : List Int} (h : Inv cl a b) : Inv cl (x :: a) (x :: b) := fun k => by rw [F_cons, F_cons, h k]
theorem Inv.swap {x y : Int} (l : List Int) (hx : cl x ≠ 0) (hy : cl y ≠ 0) (hne : cl x ≠ cl y) : Inv cl (x :: y :: l) (y :: x :: l) := fun k => by
  simp only [F_cons]
  by_cases h1 : cl x = k
  · rw [if_pos (c := cl x = k ∨ cl x = 0) (.inl h1), if_pos (c := cl x = k ∨ cl x = 0) (.inl h1), if_neg (by omega), if_neg (by omega)]
  · rw [if_neg (c := cl x = k ∨ cl x = 0) (by omega), if_neg (c := cl x = k ∨ cl x = 0) (by omega)]

theorem Ok.tail {x : Int} {l : List Int} (h : Ok cl (x :: l)) : Ok cl l := by
  cases l with
  | nil => trivial
  | cons y r => exact h.2

/-- where the first element with class k or 0 of a text in order lies, all before it have lesser classes -/
theorem Ok.first {k : Int} {l : List Int} {x : Int} {r : List Int} (h : Ok cl l) (hk : cl x ≠ 0) (e : F cl k l = x :: r) (y : Int) (t : List Int) (hl : l = y :: t) : cl y ≤ cl x := by
  induction l generalizing y t with
  | nil => cases hl
  | cons z l ih =>
    obtain ⟨rfl, rfl⟩ : z = y ∧ l = t := by simpa using hl
    rw [F_cons] at e
    split at e
    · injection e with e1 _; rw [e1]; exact Int.le_refl _
    · cases l with
      | nil => simp [F] at e
      | cons u v =>
        have h1 := ih h.tail e u v rfl
        by_cases hu : cl u = 0
        · rw [F_cons, if_pos (.inr hu)] at e
          injection e with e1 _
          rw [e1] at hu
          exact absurd hu hk
        · have := h.1 hu
          omega

theorem canon_unique : ∀ {a b : List Int}, Inv cl a b → Ok cl a → Ok cl b → a = b
  | [], [], _, _, _ => rfl
  | [], y :: b, h, _, _ => by have := h (cl y); rw [F_cons, if_pos (.inl rfl)] at this; cases this
  | x :: a, [], h, _, _ => by have := h (cl x); rw [F_cons, if_pos (.inl rfl)] at this; cases this
  | x :: a, y :: b, h, ha, hb => by
    have hxy : x = y := by
      by_cases hx : cl x = 0
      · have e := h (cl y)
        rw [F_cons, if_pos (.inr hx), F_cons, if_pos (.inl rfl)] at e
        injection e
      · by_cases hy : cl y = 0
        · have e := h (cl x)
          rw [F_cons, if_pos (.inl rfl), F_cons, if_pos (.inr hy)] at e
          injection e
        · have e1 := h (cl x)
          rw [F_cons, if_pos (.inl rfl)] at e1
          have h1 := hb.first hx e1.symm y b rfl
          have e2 := h (cl y)
          rw [F_cons (l := b), if_pos (.inl rfl)] at e2
          have h2 := ha.first hy e2 x a rfl
          have e3 : cl x = cl y := by omega
          rw [F_cons, if_pos (.inl e3.symm)] at e1
          injection e1
    subst hxy
    have := canon_unique (a := a) (b := b) (fun k => by
      have e := h k
      rw [F_cons, F_cons] at e
      split at e
      · injection e
      · exact e) ha.tail hb.tail
    rw [this]

theorem insF_inv (hcl : ∀ x, 0 ≤ cl x) (c : Int) (l : List Int) : Inv cl (c :: l) (insF cl c l) := by
  induction l with
  | nil => exact Inv.refl _
  | cons y r ih =>
    unfold insF
    split
    · rename_i h
      exact (Inv.swap r (by have := hcl y; omega) h.1 (by omega)).trans (ih.cons y)
    · exact Inv.refl _

theorem insF_head (c : Int) (l : List Int) : ∃ y r, insF cl c l = y :: r ∧ (y = c ∨ ∃ t, l = y :: t) := by
  cases l with
  | nil => exact ⟨c, [], rfl, .inl rfl⟩
  | cons y r =>
    unfold insF
    split
    · exact ⟨y, _, rfl, .inr ⟨r, rfl⟩⟩
    · exact ⟨c, _, rfl, .inl rfl⟩

theorem insF_ok (c : Int) (l : List Int) (h : Ok cl l) : Ok cl (insF cl c l) := by
  induction l with
  | nil => trivial
  | cons y r ih =>
    unfold insF
    split
    · rename_i hc
      obtain ⟨z, t, hz, hor⟩ := insF_head (cl := cl) c r
      have := ih h.tail
      rw [hz] at this ⊢
      refine ⟨fun hne => ?_, this⟩
      rcases hor with rfl | ⟨t', rfl⟩
      · omega
      · exact h.1 hne
    · rename_i hc
      exact ⟨fun hne => by by_cases g : cl y < cl c; exact absurd ⟨hne, g⟩ hc; omega, h⟩

theorem insF_perm (c : Int) (l : List Int) : (insF cl c l).Perm (c :: l) := by
  induction l with
  | nil => exact .refl _
  | cons y r ih =>
    unfold insF
    split
    · exact (ih.cons y).trans (.swap c y r)
    · exact .refl _

theorem srt_inv (hcl : ∀ x, 0 ≤ cl x) (l : List Int) : Inv cl l (srt cl l) := by
  induction l with
  | nil => exact Inv.refl _
  | cons c r ih => exact (ih.cons c).trans (insF_inv hcl c _)
theorem srt_ok (l : List Int) : Ok cl (srt cl l) := by
  induction l with
  | nil => trivial
  | cons c r ih => exact insF_ok c _ ih
theorem srt_perm (l : List Int) : (srt cl l).Perm l := by
  induction l with
  | nil => exact .refl _
  | cons c r ih => exact (insF_perm c _).trans (ih.cons c)
theorem srt_len (l : List Int) : (srt cl l).length = l.length := (srt_perm l).length_eq
theorem srt_eq (hcl : ∀ x, 0 ≤ cl x) {l d : List Int} (h : Inv cl l d) (ho : Ok cl d) : d = srt cl l := canon_unique (h.symm.trans (srt_inv hcl l)) ho (srt_ok l)
theorem srt_of_inv (hcl : ∀ x, 0 ≤ cl x) {a b : List Int} (h : Inv cl a b) : srt cl a = srt cl b := srt_eq hcl (h.symm.trans (srt_inv hcl a)) (srt_ok a)
theorem inv_of_srt (hcl : ∀ x, 0 ≤ cl x) {a b : List Int} (h : srt cl a = srt cl b) : Inv cl a b := (srt_inv hcl a).trans (by rw [h]; exact (srt_inv hcl b).symm)
theorem Ok.append {a b : List Int} (ha : Ok cl a) (hb : Ok cl b) (h : ∀ y t, b = y :: t → cl y = 0) : Ok cl (a ++ b) := by
  induction a with
  | nil => exact hb
  | cons x a ih =>
    cases a with
    | nil =>
      cases b with
      | nil => trivial
      | cons y t => exact ⟨fun hne => absurd (h y t rfl) hne, hb⟩
    | cons x' a' => exact ⟨ha.1, ih ha.2⟩

/-- the exchange of two neighbours changes nothing just where it is free -/
theorem exchange (hcl : ∀ x, 0 ≤ cl x) (p q : List Int) (x y : Int) : srt cl (p ++ x :: y :: q) = srt cl (p ++ y :: x :: q) ↔ (cl x ≠ 0 ∧ cl y ≠ 0 ∧ cl x ≠ cl y) ∨ x = y := by
  constructor
  · intro h
    by_cases hxy : x = y
    · exact .inr hxy
    · refine .inl ?_
      have hi := inv_of_srt hcl h
      have key : ∀ k, (cl x = k ∨ cl x = 0) → (cl y = k ∨ cl y = 0) → False := by
        intro k h1 h2
        have e := hi k
        rw [F_append, F_append, F_cons, F_cons, F_cons, F_cons] at e
        simp only [if_pos h1, if_pos h2] at e
        have e2 := List.append_cancel_left e
        simp only [List.cons.injEq] at e2
        exact hxy e2.1
      exact ⟨fun h0 => key (cl y) (.inr h0) (.inl rfl), fun h0 => key (cl x) (.inl rfl) (.inr h0), fun h0 => key (cl x) (.inl rfl) (.inl h0.symm)⟩
  · rintro (⟨h1, h2, h3⟩ | rfl)
    · exact srt_of_inv hcl ((Inv.refl p).append (Inv.swap q h1 h2 h3))
    · rfl
end

/-! what the chain of sorts of the runs leaves is the text in order -/
section
open Srt
variable {cl : Int → Int}

theorem inv_of_st {s s' : List Int} (h : St cl s s') (hz : ∀ x ∈ s, cl x ≠ 0) : Inv cl s s' := by
  have h0 : s'.filter (fun x => cl x == 0) = [] := by
    rw [h 0]
    exact List.filter_eq_nil_iff.2 fun x hx => by simpa using hz x hx
  have hz' : ∀ x ∈ s', cl x ≠ 0 := fun x hx e => by
    have : x ∈ s'.filter (fun x => cl x == 0) := List.mem_filter.2 ⟨hx, by simpa using e⟩
    rw [h0] at this
    cases this
  intro k
  have e : ∀ l : List Int, (∀ x ∈ l, cl x ≠ 0) → F cl k l = l.filter (fun x => cl x == k) := fun l hl => by
    unfold F
    refine List.filter_congr fun x hx => ?_
    have := hl x hx
    simp [this]
  rw [e s hz, e s' hz', h k]

theorem ok_of_sorted {s : List Int} (h : SortedOn cl s 0 s.length) : Ok cl s := by
  induction s with
  | nil => trivial
  | cons x s ih =>
    have ht : SortedOn cl s 0 s.length := fun i j _ h2 h3 => by
      have := h (i + 1) (j + 1) (by omega) (by omega) (by simpa using h3)
      simpa [kf] using this
    cases s with
    | nil => trivial
    | cons y r =>
      refine ⟨fun _ => ?_, ih ht⟩
      have := h 0 1 (by omega) (by omega) (by simp)
      simpa [kf] using this

/-- a range that was sorted, cut out -/
theorem done_cut {p o q d : List Int} {s i : Nat} (hs : p.length = s) (hi : s + o.length = i) (h : Done cl (p ++ o ++ q) d s i) :
    ∃ o', d = p ++ o' ++ q ∧ o'.length = o.length ∧ St cl o o' ∧ SortedOn cl o' 0 o'.length := by
  obtain ⟨⟨hl, hsame⟩, hst, hso⟩ := h
  refine ⟨(d.drop s).take o.length, ?_, ?_, ?_, ?_⟩
  case _ =>
    apply List.ext_getElem?
    intro t
    have hlen : ((d.drop s).take o.length).length = o.length := by simp at hl ⊢; omega
    by_cases c1 : t < s
    · rw [hsame t (.inl c1), List.append_assoc, List.append_assoc, List.getElem?_append_left (by omega), List.getElem?_append_left (by omega)]
    · by_cases c2 : t < i
      · rw [List.append_assoc, List.getElem?_append_right (by omega), List.getElem?_append_left (by omega), List.getElem?_take, if_pos (by omega), List.getElem?_drop]
        congr 1; omega
      · rw [hsame t (.inr (by omega)), List.append_assoc, List.append_assoc, List.getElem?_append_right (by omega), List.getElem?_append_right (by omega), List.getElem?_append_right (by omega), List.getElem?_append_right (by omega), hlen]
  case _ => simp at hl ⊢; omega
  all_goals
    have hd : d = p ++ (d.drop s).take o.length ++ q := by
      apply List.ext_getElem?
      intro t
      have hlen : ((d.drop s).take o.length).length = o.length := by simp at hl ⊢; omega
      by_cases c1 : t < s
      · rw [hsame t (.inl c1), List.append_assoc, List.append_assoc, List.getElem?_append_left (by omega), List.getElem?_append_left (by omega)]
      · by_cases c2 : t < i
        · rw [List.append_assoc, List.getElem?_append_right (by omega), List.getElem?_append_left (by omega), List.getElem?_take, if_pos (by omega), List.getElem?_drop]
          congr 1; omega
        · rw [hsame t (.inr (by omega)), List.append_assoc, List.append_assoc, List.getElem?_append_right (by omega), List.getElem?_append_right (by omega), List.getElem?_append_right (by omega), List.getElem?_append_right (by omega), hlen]
    have hlen : ((d.drop s).take o.length).length = o.length := by simp at hl ⊢; omega
    generalize (d.drop s).take o.length = o' at *
    subst hd
  · intro k
    have := hst k
    simp only [List.filter_append, List.append_assoc] at this
    have := List.append_cancel_left this
    exact List.append_cancel_right this
  · intro a b h1 h2 h3
    have e : ∀ t, t < o'.length → kf cl (p ++ o' ++ q) (s + t) = kf cl o' t := by
      intro t ht
      unfold kf
      rw [List.append_assoc, List.getElem?_append_right (by omega), List.getElem?_append_left (by omega), show s + t - p.length = t by omega]
    rw [← e a (by omega), ← e b h3]
    exact hso _ _ (by omega) (by omega) (by omega)

theorem stp_canon (hcl : ∀ x, 0 ≤ cl x) (rest : List Int) :
    (∀ (p d : List Int), Stp cl (p ++ rest) (rns cl rest p.length none) d → ∃ d1, d = p ++ d1 ∧ Inv cl rest d1 ∧ Ok cl d1) ∧
    (∀ (p o d : List Int), (∀ x ∈ o, cl x ≠ 0) → Stp cl (p ++ o ++ rest) (rns cl rest (p.length + o.length) (some p.length)) d → ∃ d1, d = p ++ d1 ∧ Inv cl (o ++ rest) d1 ∧ Ok cl d1) := by
  induction rest with
  | nil =>
    refine ⟨fun p d h => ?_, fun p o d ho h => ?_⟩
    · cases h; exact ⟨[], rfl, Inv.refl _, trivial⟩
    · obtain ⟨d1, hd, rfl⟩ := h
      obtain ⟨o', rfl, h1, h2, h3⟩ := done_cut rfl rfl hd
      exact ⟨o', by simp, by rw [List.append_nil]; exact inv_of_st h2 ho, ok_of_sorted h3⟩
  | cons c r ih =>
    refine ⟨fun p d h => ?_, fun p o d ho h => ?_⟩
    · unfold rns at h
      by_cases hc : cl c = 0
      · rw [if_pos hc] at h
        obtain ⟨d1, rfl, h1, h2⟩ := ih.1 (p ++ [c]) d (by simpa using h)
        refine ⟨c :: d1, by simp, h1.cons c, ?_⟩
        cases d1 with
        | nil => trivial
        | cons y t => exact ⟨fun _ => by have := hcl y; omega, ‹_›⟩
      · rw [if_neg hc] at h
        obtain ⟨d1, rfl, h1, h2⟩ := ih.2 p [c] d (by simpa using hc) (by simpa using h)
        exact ⟨d1, rfl, by simpa using h1, h2⟩
    · unfold rns at h
      by_cases hc : cl c = 0
      · rw [if_pos hc] at h
        obtain ⟨d1, hd, h⟩ := h
        obtain ⟨o', rfl, h1, h2, h3⟩ := done_cut rfl rfl hd
        obtain ⟨d2, rfl, h4, h5⟩ := ih.1 (p ++ o' ++ [c]) d (by simpa [h1, Nat.add_assoc] using h)
        refine ⟨o' ++ c :: d2, by simp, (inv_of_st h2 ho).append (h4.cons c), (ok_of_sorted h3).append ?_ (fun y t e => by injection e with e1 _; rw [← e1]; exact hc)⟩
        cases d2 with
        | nil => trivial
        | cons y t => exact ⟨fun _ => by have := hcl y; omega, ‹_›⟩
      · rw [if_neg hc] at h
        obtain ⟨d1, rfl, h1, h2⟩ := ih.2 p (o ++ [c]) d (by simpa [or_imp, forall_and] using ⟨ho, hc⟩) (by simpa [Nat.add_assoc] using h)
        exact ⟨d1, rfl, by simpa using h1, h2⟩

theorem stp_srt (hcl : ∀ x, 0 ≤ cl x) {text d : List Int} (h : Stp cl text (rns cl text 0 none) d) : d = srt cl text := by
  obtain ⟨d1, rfl, h1, h2⟩ := (stp_canon hcl text).1 [] d h
  exact srt_eq hcl h1 h2
end
end Go.Proofs.YtpfbnikbebccjaaGreatDoor.Can
/- The contract of ordering.Sort: the text in order, in a new slice. -/
namespace Go.Proofs.YtpfbnikbebccjaaGreatDoor
open Go.RowKit Go.Shelf
attribute [local go_sem] Oper.semAt_some

/-- an owned row of ints that is not empty, asq a row in its block -/
theorem own_row {w : World} {base : Nat} {e : TypeId} {A : Option Addr} {n c : Nat} {d : List Int} (h : w.ownsRow base e 1 (.slice A n c) n (d.map (Value.int .i64))) (hn : 0 < n) :
    ∃ g post, A = some ⟨g, 0, none⟩ ∧ base ≤ g ∧ Row w g 0 e [] post d ∧ d.length = n ∧ n + post.length = c ∧ c ≤ maxLen := by
  obtain ⟨h1, h2⟩ := h
  rcases h2 with ⟨hv, rfl⟩ | ⟨g, cap, cur, hv, hb, hg, hnc, hcm, hcur, htake⟩
  · omega
  · injection hv with hA _ hc
    subst hA; subst hc
    simp only [Nat.mul_one, List.length_map] at *
    refine ⟨g, cur.toList.drop n, rfl, hb, ⟨rfl, ?_⟩, h1, by simp; omega, hcm⟩
    unfold Blk
    rw [List.nil_append, ← htake, List.take_append_drop]
    exact hg

theorem row_own {w : World} {base g n c : Nat} {e : TypeId} {post : List Value} {d : List Int} (h : Row w g 0 e [] post d) (hb : base ≤ g) (hn : d.length = n) (hc : n + post.length = c) (hcm : c ≤ maxLen) :
    w.ownsRow base e 1 (.slice (some ⟨g, 0, none⟩) n c) n (d.map (Value.int .i64)) := by
  refine ⟨by simp [hn], .inr ⟨g, c, _, rfl, hb, h.2, by omega, hcm, by simp; omega, ?_⟩⟩
  simp [← hn]

theorem Row.cut {w : World} {g : Nat} {e : TypeId} {post : List Value} {d : List Int} (h : Row w g 0 e [] post d) {lo hi : Nat} (h1 : lo ≤ hi) (h2 : hi ≤ d.length) :
    Row w g lo e ((d.take lo).map (Value.int .i64)) ((d.drop hi).map (Value.int .i64) ++ post) ((d.drop lo).take (hi - lo)) := by
  refine ⟨by simp; omega, ?_⟩
  have := h.2
  unfold Blk at this ⊢
  rw [this]
  congr 2
  have hp := Srt.parts d lo lo hi (Nat.le_refl _) h1
  simp only [Nat.sub_self, List.take_zero, List.nil_append] at hp
  rw [List.nil_append]
  conv => lhs; rw [hp]
  simp

theorem Row.uncut {w : World} {g lo : Nat} {e : TypeId} {post : List Value} {p s q : List Int} (h : Row w g lo e (p.map (Value.int .i64)) (q.map (Value.int .i64) ++ post) s) : Row w g 0 e [] post (p ++ s ++ q) := by
  refine ⟨rfl, ?_⟩
  have := h.2
  unfold Blk at this ⊢
  rw [this]
  simp

theorem rns_in (cl : Int → Int) (l : List Int) (i : Nat) (s : Option Nat) (hs : ∀ x, s = some x → x < i) : ∀ r ∈ rns cl l i s, r.1 < r.2 ∧ r.2 ≤ i + l.length := by
  induction l generalizing i s with
  | nil =>
    cases s with
    | none => intro r hr; cases hr
    | some s => intro r hr; simp only [rns, List.mem_singleton] at hr; subst hr; have := hs s rfl; simp; omega
  | cons c t ih =>
    have h1 := ih (i + 1) none (fun _ h => by cases h)
    have h2 := ih (i + 1) (some i) (fun x h => by cases h; omega)
    cases s with
    | none =>
      intro r hr
      simp only [rns] at hr
      simp only [List.length_cons]
      split at hr
      · have := h1 r hr; omega
      · have := h2 r hr; omega
    | some s =>
      have hs' := hs s rfl
      have h3 := ih (i + 1) (some s) (fun x h => by cases h; omega)
      intro r hr
      simp only [rns] at hr
      simp only [List.length_cons]
      split at hr
      · simp only [List.mem_cons] at hr
        rcases hr with rfl | hr
        · simp; omega
        · have := h1 r hr; omega
      · have := h3 r hr; omega

/-- a range of at most n -/
abbrev RgN (n : Nat) := { x : Nat × Nat // x.1 < x.2 ∧ x.2 ≤ n }
theorem rg_all {n : Nat} (l : List (Nat × Nat)) (h : ∀ r ∈ l, r.1 < r.2 ∧ r.2 ≤ n) : ∃ all : List (RgN n), all.map (fun x => x.1) = l := by
  induction l with
  | nil => exact ⟨[], rfl⟩
  | cons x l ih =>
    obtain ⟨all, ha⟩ := ih fun r hr => h r (List.mem_cons_of_mem _ hr)
    exact ⟨⟨x, h x (List.mem_cons_self ..)⟩ :: all, by rw [List.map_cons, ha]⟩


/-- a cell that holds something holds it behind what turns no cells -/
theorem cell_grown {W W' : World} {row : Option Nat} (hg : W.grownBy W' row) (hr : ∀ r, row = some r → ∃ o : Obj, W.heap[r]? = some o ∧ o.isCells = false) {p : Addr} {v : Value} (h : W.cell? p = some v) : W'.cell? p = some v := by
  have hlt := World.block_lt_of_cell? W p h
  refine (World.cell?_of_block (w := W) (hg.block p.block hlt fun e => ?_)).trans h
  obtain ⟨o, ho, hc⟩ := hr p.block e.symm
  unfold World.cell? at h
  rw [ho] at h
  cases o with
  | cells c t f => cases hc
  | _ => simp at h

theorem Sl.grown {W W' : World} {row : Option Nat} {A : Option Addr} {cs : List Value} (h : Sl W A cs) (hg : W.grownBy W' row) (hr : ∀ r, row = some r → ∃ o : Obj, W.heap[r]? = some o ∧ o.isCells = false) : Sl W' A cs := by
  intro hne
  obtain ⟨b, o, rfl, hc⟩ := h hne
  exact ⟨b, o, rfl, fun j u hu => cell_grown hg hr (hc j u hu)⟩

/-- what holds between two runs: the box of out, its row (sorted so far), the box of l and its spans -/
structure SortI (key : Int → Int) (text : List Int) (base Bo Bl : Nat) (A : Option Addr) (n c : Nat) (A1 : Option Addr) (n1 k1 : Nat) (ts : List Spn) (w : World) (pre : List (Nat × Nat)) (W : World) : Prop where
  box : Boxed W Bo 49 (.slice A n c)
  row : ∃ d, W.ownsRow base 3 1 (.slice A n c) n (d.map (Value.int .i64)) ∧ Srt.Stp key text pre d
  l : W.cell? ⟨Bl, 0, none⟩ = some (.slice A1 n1 k1)
  sp : Spans W A1 ts
  bel : Below w.heap.size w W

theorem SortI.own {key : Int → Int} {text : List Int} {base Bo Bl : Nat} {A : Option Addr} {n c : Nat} {A1 : Option Addr} {n1 k1 : Nat} {ts : List Spn} {w : World} {β : Type} (f : β → List (Nat × Nat)) {B : Nat} (hB : w.heap.size ≤ B) :
    OwnFrom B (fun s W => SortI key text base Bo Bl A n c A1 n1 k1 ts w (f s) W) := by
  intro s X Y row h hg hr
  have hr' : ∀ r, row = some r → ∃ o : Obj, X.heap[r]? = some o ∧ o.isCells = false := fun r e => (hr r e).2
  refine ⟨h.box.kept hg (fun e' => ?_), ?_, cell_grown hg hr' h.l, Sl.grown h.sp hg hr', ?_⟩
  · obtain ⟨o, ho, hc⟩ := hr' Bo e'.symm
    rw [show X.heap[Bo]? = _ from h.box] at ho; cases ho; cases hc
  · obtain ⟨d, hd, hs⟩ := h.row
    refine ⟨d, hd.kept hg ?_, hs⟩
    rcases hd.2 with ⟨hv, _⟩ | ⟨g, cap, cur, hv, _, hgb, _⟩
    · rw [hv]; exact .inl rfl
    · rw [hv]
      refine .inr fun e' => ?_
      obtain ⟨o, ho, hc⟩ := hr' g (by simpa [Value.ownBlock] using e'.symm)
      rw [hgb] at ho; cases ho; cases hc
  · exact h.bel.grown hg h.bel.size (fun k e => Nat.le_trans hB (hr k e).1)

theorem SortI.alloc {key : Int → Int} {text : List Int} {base Bo Bl : Nat} {A : Option Addr} {n c : Nat} {A1 : Option Addr} {n1 k1 : Nat} {ts : List Spn} {w W : World} {pre : List (Nat × Nat)} (h : SortI key text base Bo Bl A n c A1 n1 k1 ts w pre W) (o : Obj) : SortI key text base Bo Bl A n c A1 n1 k1 ts w pre (W.alloc o) :=
  OwnFrom.alloc (SortI.own (fun s : List (Nat × Nat) => s) (B := w.heap.size) (Nat.le_refl _)) (s := pre) o h

end Go.Proofs.YtpfbnikbebccjaaGreatDoor
/- The contract of slices.Reverse at ints, for a row that is owned. -/
namespace Go.Proofs.YtpfbnikbebccjaaGreatDoor
open Go.RowKit

/-- a list whose first and last i elements have been exchanged -/
def RvK (d d' : List Int) (i : Nat) : Prop := d'.length = d.length ∧ ∀ k, k < d.length → d'[k]? = if k < i ∨ d.length - 1 - k < i then d[d.length - 1 - k]? else d[k]?
theorem RvK.zero (d : List Int) : RvK d d 0 := ⟨rfl, fun k _ => by rw [if_neg (by omega)]⟩
theorem RvK.done {d d' : List Int} {i : Nat} (h : RvK d d' i) (hi : d.length ≤ 2 * i + 1) (_h2 : 2 * i ≤ d.length) : d' = d.reverse := by
  refine List.ext_getElem? fun k => ?_
  by_cases hk : k < d.length
  · rw [h.2 k hk, List.getElem?_reverse hk]
    split
    · rfl
    · congr 1; omega
  · rw [List.getElem?_eq_none (by rw [h.1]; omega), List.getElem?_eq_none (by rw [List.length_reverse]; omega)]
theorem RvK.step {d d' : List Int} {i j : Nat} (h : RvK d d' i) (hij : i < j) (hj : j = d.length - 1 - i) (h2 : 2 * i ≤ d.length) {x y : Int} (hx : d'[i]? = some x) (hy : d'[j]? = some y) : RvK d ((d'.set i y).set j x) (i + 1) := by
  have hl := h.1
  have hx' := h.2 i (by omega)
  have hy' := h.2 j (by omega)
  rw [if_neg (by omega)] at hx' hy'
  refine ⟨by simp [hl], fun k hk => ?_⟩
  rw [List.getElem?_set, List.length_set, hl]
  by_cases e1 : j = k
  · subst e1
    rw [if_pos rfl, if_pos (by omega), if_pos (by omega), ← hx, hx']
    congr 1; omega
  · rw [if_neg e1, List.getElem?_set, hl]
    by_cases e2 : i = k
    · subst e2
      rw [if_pos rfl, if_pos (by omega), if_pos (by omega), ← hy, hy']
      congr 1
    · rw [if_neg e2, h.2 k hk]
      by_cases c : k < i ∨ d.length - 1 - k < i
      · rw [if_pos c, if_pos (by omega)]
      · rw [if_neg c, if_neg (by omega)]

set_option maxRecDepth 100000 in
set_option maxHeartbeats 1600000 in
theorem rev_nil (A : Option Addr) (c : Nat) (w : World) : Calls Tryz.prog 144 #[.slice A 0 c] w (fun e w' => e = .returned (.tuple #[]) ∧ w = w') := by
  go_enter Tryz.func144, Tryz.ntmps144
  go_wp2_with fail
  go_loopw [2, 3] (fun u v wr => u = .int .i64 0 ∧ v = .int .i64 (-1) ∧ wr = w) (fun u _ _ => 0 - (intOf u).toNat)
  case atStart => exact ⟨rfl, rfl, rfl⟩
  case round =>
    obtain ⟨rfl, rfl, rfl⟩ := hrel
    go_wp2_with fail
    go_end0
    exact ⟨rfl, rfl⟩

set_option maxRecDepth 100000 in
set_option maxHeartbeats 6400000 in
theorem rev_row (b off c : Nat) (pre post : List Value) (d : List Int) (w : World) (h : Row w b off 3 pre post d) (hpos : 0 < d.length) (hbig : d.length ≤ 1099511627776) :
    Calls Tryz.prog 144 #[.slice (some ⟨b, off, none⟩) d.length c] w (fun e w' => e = .returned (.tuple #[]) ∧ Row w' b off 3 pre post d.reverse ∧ w.grownBy w' (some b)) := by
  have HR := Lib.hid h
  clear h
  have h0 : (d.length : Int) - 1 = ((d.length - 1 : Nat) : Int) := by omega
  go_enter Tryz.func144, Tryz.ntmps144
  go_wp2_with fail
  clear h0
  go_loopw [2, 3] (fun u v wr => ∃ (i j : Nat) (d' : List Int), 2 * i ≤ d.length ∧ j = d.length - 1 - i ∧ u = .int .i64 i ∧ v = .int .i64 j ∧ RvK d d' i ∧ Row wr b off 3 pre post d' ∧ w.grownBy wr (some b)) (fun u _ _ => d.length - (intOf u).toNat)
  case atStart => exact ⟨0, d.length - 1, d, by omega, by omega, rfl, rfl, RvK.zero d, HR.out, grownR_refl _ _⟩
  case round =>
    obtain ⟨i, j, d', hi, hj, rfl, rfl, hk, hr, hg⟩ := hrel
    have HJ := Lib.hid hj
    have hj1 : j ≤ d.length - 1 - i := by omega
    have hj2 : d.length - 1 - i ≤ j := by omega
    clear hj
    have HK := Lib.hid hk
    have HRr := Lib.hid hr
    have HL := Lib.hid hk.1
    clear hk hr
    by_cases hij : i < j
    · have hil : i < d'.length := by rw [HL.out]; omega
      have hjl : j < d'.length := by rw [HL.out]; omega
      have ci := HRr.out.cell (List.getElem?_eq_getElem hil)
      have cj := HRr.out.cell (List.getElem?_eq_getElem hjl)
      have fi := HRr.out.frozen (off + i)
      have fj := HRr.out.frozen (off + j)
      have HS := Lib.hid (HK.out.step hij HJ.out hi (List.getElem?_eq_getElem hil) (List.getElem?_eq_getElem hjl))
      have HW := Lib.hid (fun (x y : Int) => show Row ((wr.setCell ⟨b, off + i, none⟩ (.int .i64 y)).setCell ⟨b, off + j, none⟩ (.int .i64 x)) b off 3 pre post ((d'.set i y).set j x) from (HRr.out.set hil y).set (by rw [List.length_set]; exact hjl) x)
      have HW2 := Lib.hid (fun (x y : Int) => show Row ((wr.setCell ⟨b, off + j, none⟩ (.int .i64 x)).setCell ⟨b, off + i, none⟩ (.int .i64 y)) b off 3 pre post ((d'.set i y).set j x) from by
        have e : (d'.set i y).set j x = (d'.set j x).set i y := List.set_comm _ _ (by omega)
        rw [e]
        exact (HRr.out.set hjl x).set (by rw [List.length_set]; exact hil) y)
      generalize d'[i] = x at *
      generalize d'[j] = y at *
      have hne : ¬ off + i = off + j := by omega
      have hne2 : ¬ off + j = off + i := by omega
      clear hil hjl
      go_wp2_with fail
      go_region
      all_goals
        go_wp2_with fail
        go_roundw
        case rel =>
          first
            | exact ⟨i + 1, j - 1, _, by omega, by omega, by go_num, by go_num, HS.out, (HW.out x y).drew, grownR_drew (grownR_trans (grownR_trans hg (grown_set _ _ _)) (grown_set _ _ _))⟩
            | exact ⟨i + 1, j - 1, _, by omega, by omega, by go_num, by go_num, HS.out, (HW2.out x y).drew, grownR_drew (grownR_trans (grownR_trans hg (grown_set _ _ _)) (grown_set _ _ _))⟩
        case measure => simp [intOf]; omega
    · have HD := Lib.hid (HK.out.done (by omega) hi)
      go_wp2_with fail
      go_end0
      exact ⟨rfl, by rw [← HD.out]; exact HRr.out, hg⟩

theorem rev_own (A : Option Addr) (n c base : Nat) (d : List Int) (w : World) (h : w.ownsRow base 3 1 (.slice A n c) n (d.map (Value.int .i64))) (hn : d.length = n) (hbig : n ≤ 1099511627776) :
    Calls Tryz.prog 144 #[.slice A n c] w (fun e w' => e = .returned (.tuple #[]) ∧ w'.ownsRow base 3 1 (.slice A n c) n (d.reverse.map (Value.int .i64)) ∧ w.grownBy w' (Value.ownBlock (.slice A n c))) := by
  by_cases hz : n = 0
  · subst hz
    obtain rfl : d = [] := List.length_eq_zero_iff.1 hn
    exact (rev_nil A c w).mono (fun e w' ⟨he, hw⟩ => ⟨he, by rw [← hw]; exact h, by rw [← hw]; exact grownR_refl _ _⟩)
  · obtain ⟨g, post, rfl, h1, h2, h3, h4, h5⟩ := own_row h (by omega)
    subst hn
    exact (rev_row g 0 c [] post d w h2 (by omega) hbig).mono (fun e w' ⟨he, hr, hg⟩ => ⟨he, row_own hr h1 (by simp) h4 h5, hg⟩)
end Go.Proofs.YtpfbnikbebccjaaGreatDoor
/- Full decompositions: what replacing gives where it ends; rounds over all mappings find it. Plain. -/
namespace Go.Proofs.YtpfbnikbebccjaaGreatDoor
open Go.RowKit

section
variable (on : Int → Option (List Int))
/-- l is what replacing gives for c -/
inductive Full : Int → List Int → Prop
  | leaf {c : Int} : on c = none → Full c [c]
  | node {c : Int} {to : List Int} {vs : List (List Int)} : on c = some to → vs.length = to.length → (∀ i, (hi : i < to.length) → (hv : i < vs.length) → Full to[i] vs[i]) → Full c vs.flatten
end
section
variable {on : Int → Option (List Int)} {cap : Int}
theorem Full.func {c : Int} {l : List Int} (h : Full on c l) : ∀ {l'}, Full on c l' → l = l' := by
  induction h with
  | leaf h =>
    intro l' h'
    cases h' with
    | leaf _ => rfl
    | node h1 _ _ => rw [h] at h1; cases h1
  | node h1 h2 _ ih =>
    intro l' h'
    cases h' with
    | leaf h => rw [h] at h1; cases h1
    | @node _ to' vs' g1 g2 g3 =>
      rw [h1] at g1
      injection g1 with g1
      subst g1
      congr 1
      refine List.ext_getElem (by omega) fun i hi hi' => ?_
      exact ih i (by omega) hi (g3 i (by omega) hi')
theorem Full.done {c : Int} {l : List Int} (h : Full on c l) : ∀ e ∈ l, on e = none := by
  induction h with
  | leaf h => intro e he; simp at he; subst he; exact h
  | node h1 h2 _ ih =>
    intro e he
    obtain ⟨v, hv, he⟩ := List.mem_flatten.1 he
    obtain ⟨i, hi, rfl⟩ := List.getElem_of_mem hv
    exact ih i (by omega) hi e he
/-- replacing gives a list of the size that is known -/
theorem Sz.full {c v : Int} (h : Sz on cap c v) (hcap : 1 ≤ cap) : ∃ l, Full on c l ∧ (v < cap → (l.length : Int) ≤ v) := by
  induction h with
  | @leaf c h =>
    rcases h with h | h
    · exact ⟨[c], .leaf h, fun _ => by simp⟩
    · exact ⟨[], by simpa using Full.node (vs := []) h rfl (fun i hi => by simp at hi), fun _ => by simp⟩
  | @node c to vs h1 h2 h3 h4 ih =>
    have hch : ∀ i : Nat, ∃ l : List Int, ∀ (hi : i < to.length) (hv : i < vs.length), Full on to[i] l ∧ (vs[i] < cap → (l.length : Int) ≤ vs[i]) := fun i => by
      by_cases hi : i < to.length
      · obtain ⟨l, g1, g2⟩ := ih i hi (by omega)
        exact ⟨l, fun _ _ => ⟨g1, g2⟩⟩
      · exact ⟨[], fun h => absurd h hi⟩
    refine ⟨((List.range to.length).map (fun i => (hch i).choose)).flatten, .node h1 (by simp) (fun i h1 h2 => ?_), fun hv => ?_⟩
    · simp only [List.getElem_map, List.getElem_range]
      exact ((hch i).choose_spec h1 (by omega)).1
    · have hpos : ∀ v ∈ vs, 0 ≤ v := fun v hv => by
        obtain ⟨i, hi, rfl⟩ := List.getElem_of_mem hv
        have := (h4 i (by omega) hi).bd hcap
        omega
      rw [capSum_eq hpos (by omega)] at hv ⊢
      have hs : vs.sum < cap := by omega
      have key : ∀ (ls : List (List Int)) (vs : List Int), ls.length = vs.length → (∀ v ∈ vs, 0 ≤ v) → vs.sum < cap → (∀ i, (h1 : i < ls.length) → (h2 : i < vs.length) → vs[i] < cap → (ls[i].length : Int) ≤ vs[i]) → (ls.flatten.length : Int) ≤ vs.sum := by
        intro ls
        induction ls with
        | nil => intro vs hl _ _ _; cases vs with | nil => simp | cons _ _ => simp at hl
        | cons l ls ihl =>
          intro vs hl hp hs hle
          cases vs with
          | nil => simp at hl
          | cons v vs =>
            rw [List.sum_cons] at hs
            have hq : 0 ≤ vs.sum := sum_nonneg (fun v hv => hp v (by simp [hv]))
            have h0 := hle 0 (by simp) (by simp) (by simp only [List.getElem_cons_zero]; omega)
            simp only [List.getElem_cons_zero] at h0
            have hv0 := hp v (by simp)
            have h1 := ihl vs (by simpa using hl) (fun v hv => hp v (by simp [hv])) (by omega) (fun i g1 g2 g3 => by
              have := hle (i + 1) (by simp; omega) (by simp; omega)
              simp only [List.getElem_cons_succ] at this
              exact this g3)
            rw [List.flatten_cons, List.length_append, List.sum_cons]
            omega
      have := key ((List.range to.length).map (fun i => (hch i).choose)) vs (by simp [h3]) hpos hs (fun i g1 g2 g3 => by
        simp only [List.getElem_map, List.getElem_range]
        simp at g1
        exact ((hch i).choose_spec g1 g2).2 g3)
      omega
end

/-! rounds over all mappings -/
def replE (fnd : Int → Option Nat) (T : List (List Int)) (e : Int) : List Int := match fnd e with | none => Hg.decomp e | some m => T.getD m []
def replL (fnd : Int → Option Nat) (T : List (List Int)) (text : List Int) : List Int := text.flatMap (replE fnd T)
def tabStep (to : Nat → List Int) (fnd : Int → Option Nat) (skip : Nat → Bool) (T : List (List Int)) (i : Nat) : List (List Int) := if skip i = true then T else T.set i (replL fnd T (to i))
def tabR (to : Nat → List Int) (fnd : Int → Option Nat) (skip : Nat → Bool) (n : Nat) : Nat → List (List Int)
  | 0 => List.replicate n []
  | r + 1 => (List.range n).foldl (tabStep to fnd skip) (tabR to fnd skip n r)
section
variable {n : Nat} {frm : Nat → Int} {to : Nat → List Int} {fnd fnd' : Int → Option Nat} {on : Int → Option (List Int)} {skip : Nat → Bool}
theorem tabStep_len (T : List (List Int)) (i : Nat) : (tabStep to fnd skip T i).length = T.length := by unfold tabStep; split <;> simp
theorem tabFold_len (s : List Nat) : ∀ T : List (List Int), (s.foldl (tabStep to fnd skip) T).length = T.length := by
  induction s with
  | nil => intro T; rfl
  | cons x s ih => intro T; exact (ih _).trans (tabStep_len T x)
/-- how the mappings and what a number is replaced by hang together -/
structure MapsF (n : Nat) (frm : Nat → Int) (to : Nat → List Int) (fnd : Int → Option Nat) (on : Int → Option (List Int)) (skip : Nat → Bool) : Prop where
  at_ : ∀ i, i < n → skip i = false → on (frm i) = some (to i)
  fd : ∀ e m, fnd e = some m → m < n ∧ frm m = e ∧ skip m = false
  no : ∀ e, fnd e = none → Full on e (Hg.decomp e)
theorem flatten_map {l : List Int} {f : Int → List Int} : (l.map f).flatten = l.flatMap f := by rw [List.flatMap_def]
/-- where it is known that replacing ends, the list is right -/
theorem tab_sound (M : MapsF n frm to fnd on skip) (hsub : ∀ e m, fnd e = some m → fnd' e = some m) (s : List Nat) (hs : ∀ i ∈ s, i < n) :
    ∀ i, i < n → skip i = false → (s.foldl (endStep to fnd') (List.replicate n false)).getD i false = true → Full on (frm i) ((s.foldl (tabStep to fnd skip) (List.replicate n [])).getD i []) := by
  have hlenE : ∀ s : List Nat, (s.foldl (endStep to fnd') (List.replicate n false)).length = n := by
    intro s
    have : ∀ (s : List Nat) (T : List Bool), T.length = n → (s.foldl (endStep to fnd') T).length = n := by
      intro s
      induction s with
      | nil => intro T h; exact h
      | cons x s ih => intro T h; exact ih _ (by simp [endStep, h])
    exact this s _ (by simp)
  have key : ∀ k (s : List Nat), s.length = k → (∀ i ∈ s, i < n) → ∀ i, i < n → skip i = false → (s.foldl (endStep to fnd') (List.replicate n false)).getD i false = true → Full on (frm i) ((s.foldl (tabStep to fnd skip) (List.replicate n [])).getD i []) := by
    intro k
    induction k with
    | zero =>
      intro s hk _ i hi _ h
      have : s = [] := List.eq_nil_of_length_eq_zero hk
      subst this
      simp [List.getD, hi] at h
    | succ k ih =>
      intro s hk hs i hi hsk h
      obtain ⟨s', x, rfl⟩ : ∃ s' x, s = s' ++ [x] := ⟨s.dropLast, s.getLast (by rintro rfl; simp at hk), (List.dropLast_concat_getLast _).symm⟩
      have hs' : ∀ i ∈ s', i < n := fun j hj => hs j (by simp [hj])
      have hx : x < n := hs x (by simp)
      have IH := ih s' (by simpa using hk) hs'
      rw [List.foldl_append] at h ⊢
      simp only [List.foldl_cons, List.foldl_nil] at h ⊢
      have l1 := hlenE s'
      have l2 : (s'.foldl (tabStep to fnd skip) (List.replicate n [])).length = n := by rw [tabFold_len]; simp
      generalize s'.foldl (endStep to fnd') (List.replicate n false) = T at *
      generalize s'.foldl (tabStep to fnd skip) (List.replicate n []) = L at *
      by_cases e : x = i
      · subst e
        have hT : endE to fnd' T x = true := by
          simpa [endStep, List.getD, l1, hi] using h
        have hL : (tabStep to fnd skip L x).getD x [] = replL fnd L (to x) := by
          unfold tabStep
          rw [if_neg (by rw [hsk]; simp)]
          simp [List.getD, l2, hi]
        rw [hL]
        have hch : ∀ e ∈ to x, Full on e (replE fnd L e) := fun e he => by
          unfold replE
          cases hf : fnd e with
          | none => exact M.no e hf
          | some m =>
            obtain ⟨hm, hfm, hkm⟩ := M.fd e m hf
            have := List.all_eq_true.1 hT e he
            rw [hsub e m hf] at this
            have h1 := IH m hm hkm this
            rw [hfm] at h1
            exact h1
        unfold replL
        rw [← flatten_map]
        refine .node (M.at_ x hi hsk) (by simp) (fun j hj hv => ?_)
        simp only [List.getElem_map]
        exact hch _ (List.getElem_mem hj)
      · have hT : T.getD i false = true := by
          simpa [endStep, List.getD, List.getElem?_set, e] using h
        have h1 := IH i hi hsk hT
        have : (tabStep to fnd skip L x).getD i [] = L.getD i [] := by
          unfold tabStep
          split
          · rfl
          · simp [List.getD, e]
        rw [this]
        exact h1
  exact key s.length s rfl hs
/-- no list is ever longer than the one that is right -/
theorem tab_le (M : MapsF n frm to fnd on skip) (s : List Nat) (hs : ∀ i ∈ s, i < n) : ∀ (T : List (List Int)), T.length = n → (∀ i l, i < n → skip i = false → Full on (frm i) l → (T.getD i []).length ≤ l.length) →
    ∀ i l, i < n → skip i = false → Full on (frm i) l → ((s.foldl (tabStep to fnd skip) T).getD i []).length ≤ l.length := by
  induction s with
  | nil => intro T _ h; exact h
  | cons x s ih =>
    intro T hl h
    rw [List.foldl_cons]
    refine ih (fun i hi => hs i (by simp [hi])) _ (by rw [tabStep_len, hl]) (fun i l hi hsk hf => ?_)
    have hx := hs x (by simp)
    by_cases e : x = i
    · subst e
      have hL : (tabStep to fnd skip T x).getD x [] = replL fnd T (to x) := by
        unfold tabStep
        rw [if_neg (by rw [hsk]; simp)]
        simp [List.getD, hl, hi]
      rw [hL]
      cases hf with
      | leaf g => rw [M.at_ x hi hsk] at g; cases g
      | @node _ to' vs g1 g2 g3 =>
        rw [M.at_ x hi hsk] at g1
        injection g1 with g1
        subst g1
        have key : ∀ (to : List Int) (vs : List (List Int)), vs.length = to.length → (∀ i, (hi : i < to.length) → (hv : i < vs.length) → Full on to[i] vs[i]) → (replL fnd T to).length ≤ vs.flatten.length := by
          intro to
          induction to with
          | nil => intro vs _ _; simp [replL]
          | cons e to iht =>
            intro vs hvl hv
            cases vs with
            | nil => simp at hvl
            | cons v vs =>
              have h1 := iht vs (by simpa using hvl) (fun i g1 g2 => by have := hv (i + 1) (by simp; omega) (by simp; omega); simpa using this)
              have h0 := hv 0 (by simp) (by simp)
              simp only [List.getElem_cons_zero] at h0
              have h2 : (replE fnd T e).length ≤ v.length := by
                unfold replE
                cases hfe : fnd e with
                | none => rw [(M.no e hfe).func h0]; exact Nat.le_refl _
                | some m =>
                  obtain ⟨hm, hfm, hkm⟩ := M.fd e m hfe
                  exact h m v hm hkm (by rw [hfm]; exact h0)
              unfold replL at h1 ⊢
              rw [List.flatMap_cons, List.length_append, List.flatten_cons, List.length_append]
              omega
        exact key _ _ g2 g3
    · have : (tabStep to fnd skip T x).getD i [] = T.getD i [] := by
        unfold tabStep
        split
        · rfl
        · simp [List.getD, e]
      rw [this]
      exact h i l hi hsk hf
end

/-! at the mappings of data -/
def tabM (ms : List Mp) (compat : Bool) : List (List Int) := tabR (toM ms) (fndM ms compat) (skipM ms compat) ms.length ms.length
/-- the full decomposition of a number -/
def dcM (ms : List Mp) (compat : Bool) (c : Int) : List Int := replE (fndM ms compat) (tabM ms compat) c
section
variable {ms : List Mp}
theorem Full_no (hh : NoHg ms) (compat : Bool) {e : Int} (h : fndM ms compat e = none) : Full (onM ms compat) e (Hg.decomp e) := by
  by_cases h4 : 4 ≤ Hg.kind e
  · obtain ⟨d1, d2⟩ := decomp_kids h4
    have hon : onM ms compat e = some (Hg.decomp e) := if_pos h4
    have := Full.node (on := onM ms compat) (vs := (Hg.decomp e).map (fun x => [x])) hon (by simp) (fun i h1 h2 => by
      simp only [List.getElem_map]
      obtain ⟨_, g2, g3⟩ := d2 _ (List.getElem_mem h1)
      refine .leaf (onM_none_kind hh compat g3 ?_)
      unfold hk at g2
      split at g2
      · cases g2
      · omega)
    have e1 : ((Hg.decomp e).map (fun x => [x])).flatten = Hg.decomp e := by rw [← List.flatMap_def]; simp
    rw [e1] at this
    exact this
  · rw [decomp_no (by omega)]
    refine .leaf ?_
    unfold onM
    rw [if_neg h4, h]
    rfl
theorem mapsF (hs : StF ms) (hh : NoHg ms) (compat : Bool) : MapsF ms.length (frmM ms) (toM ms) (fndM ms compat) (onM ms compat) (skipM ms compat) := by
  refine ⟨fun i hi hk => ?_, fun e m h => ?_, fun e h => Full_no hh compat h⟩
  · rw [frmM_at hi, onM_frm hs hh compat hi, toM_at hi, if_pos]
    unfold skipM at hk
    cases compat <;> simp_all [List.getD]
  · obtain ⟨hi, h1, h2⟩ := fndM_at h
    refine ⟨hi, by rw [frmM_at hi]; exact h1, ?_⟩
    unfold skipM
    rcases h2 with h2 | h2
    · rw [h2]; rfl
    · simp [List.getD, hi, h2]
theorem all_full (hs : StF ms) (hh : NoHg ms) (he : endB ms = true) (hl : longB ms = false) (compat : Bool) : ∀ i, i < ms.length → ∃ l, Full (onM ms compat) (frmM ms i) l ∧ l.length ≤ 64 := by
  intro i hi
  have h1 := lensM_ok hs hh he compat i hi
  have hle : (lensM ms compat).getD i 0 ≤ 64 := by
    unfold longB at hl
    have := List.any_eq_false.1 hl i (List.mem_range.2 hi)
    simp at this
    cases compat
    · simpa using this.1
    · simpa using this.2
  obtain ⟨l, g1, g2⟩ := h1.full (by unfold capE; omega)
  rw [frmM_at hi]
  refine ⟨l, g1, ?_⟩
  have := g2 (by unfold capE; omega)
  omega
/-- the lists of a table that grows: right ones are not shorter -/
def TabLe (ms : List Mp) (compat : Bool) (T : List (List Int)) : Prop := T.length = ms.length ∧ ∀ i l, i < ms.length → skipM ms compat i = false → Full (onM ms compat) (frmM ms i) l → (T.getD i []).length ≤ l.length
theorem TabLe.start (ms : List Mp) (compat : Bool) : TabLe ms compat (List.replicate ms.length []) := ⟨by simp, fun i l hi _ _ => by simp [List.getD, hi]⟩
theorem TabLe.step (hs : StF ms) (hh : NoHg ms) {compat : Bool} {T : List (List Int)} (h : TabLe ms compat T) {i : Nat} (hi : i < ms.length) : TabLe ms compat (tabStep (toM ms) (fndM ms compat) (skipM ms compat) T i) :=
  ⟨by rw [tabStep_len]; exact h.1, tab_le (mapsF hs hh compat) [i] (fun j hj => by simp at hj; subst hj; exact hi) T h.1 h.2⟩
theorem TabLe.fold (hs : StF ms) (hh : NoHg ms) {compat : Bool} (s : List Nat) : ∀ {T : List (List Int)}, TabLe ms compat T → (∀ i ∈ s, i < ms.length) → TabLe ms compat (s.foldl (tabStep (toM ms) (fndM ms compat) (skipM ms compat)) T) := by
  induction s with
  | nil => intro T h _; exact h
  | cons x s ih => intro T h hx; exact ih (h.step hs hh (hx x (by simp))) (fun i hi => hx i (by simp [hi]))
theorem TabLe.rounds (hs : StF ms) (hh : NoHg ms) (compat : Bool) (r : Nat) : TabLe ms compat (tabR (toM ms) (fndM ms compat) (skipM ms compat) ms.length r) := by
  induction r with
  | zero => exact TabLe.start ms compat
  | succ r ih => exact ih.fold hs hh _ (fun i hi => List.mem_range.1 hi)
/-- skipped mappings have empty lists -/
def TabSk (ms : List Mp) (compat : Bool) (T : List (List Int)) : Prop := ∀ i, skipM ms compat i = true → T.getD i [] = []
theorem TabSk.step {compat : Bool} {T : List (List Int)} (h : TabSk ms compat T) (i : Nat) : TabSk ms compat (tabStep (toM ms) (fndM ms compat) (skipM ms compat) T i) := by
  intro j hj
  unfold tabStep
  split
  · exact h j hj
  · next hi =>
    have : i ≠ j := fun e => by subst e; exact hi hj
    have := h j hj
    simp_all [List.getD]
/-- at most 64 elements -/
theorem TabLe.le64 (hs : StF ms) (hh : NoHg ms) (he : endB ms = true) (hl : longB ms = false) {compat : Bool} {T : List (List Int)} (h : TabLe ms compat T) {i : Nat} (hi : i < ms.length) (hk : skipM ms compat i = false) : (T.getD i []).length ≤ 64 := by
  obtain ⟨l, h1, h2⟩ := all_full hs hh he hl compat i hi
  have := h.2 i l hi hk h1
  omega
theorem tabM_full (hs : StF ms) (hh : NoHg ms) (he : endB ms = true) (compat : Bool) {i : Nat} (hi : i < ms.length) (hk : skipM ms compat i = false) : Full (onM ms compat) ms[i].frm ((tabM ms compat).getD i []) := by
  have hfl : ∀ j ∈ (List.replicate ms.length (List.range ms.length)).flatten, j < ms.length := fun j hj => by
    obtain ⟨l, h1, h2⟩ := List.mem_flatten.1 hj
    rw [List.eq_of_mem_replicate h1] at h2
    exact List.mem_range.1 h2
  have h0 := tab_sound (mapsF hs hh compat) (fndM_sub hs compat) (List.replicate ms.length (List.range ms.length)).flatten hfl i hi hk
  have e1 := iter_flat (endStep (toM ms) (fndM ms true)) ms.length (rnds ms.length (toM ms) (fndM ms true)) (fun _ => rfl) ms.length
  have e2 := iter_flat (tabStep (toM ms) (fndM ms compat) (skipM ms compat)) ms.length (tabR (toM ms) (fndM ms compat) (skipM ms compat) ms.length) (fun _ => rfl) ms.length
  simp only [rnds, tabR] at e1 e2
  rw [e1, e2] at h0
  have hl := (rnds_ok ms.length (toM ms) (fndM ms true) ms.length).1
  have : (rnds ms.length (toM ms) (fndM ms true) ms.length).getD i false = true := by
    unfold endB at he
    have hi' : i < (rnds ms.length (toM ms) (fndM ms true) ms.length).length := by rw [hl]; exact hi
    have := List.all_eq_true.1 he _ (List.getElem_mem hi')
    simpa [List.getD, hi'] using this
  have h1 := h0 this
  rw [frmM_at hi] at h1
  exact h1
/-- dcM is the full decomposition -/
theorem dcM_full (hs : StF ms) (hh : NoHg ms) (he : endB ms = true) (compat : Bool) (c : Int) : Full (onM ms compat) c (dcM ms compat c) := by
  unfold dcM replE
  cases hf : fndM ms compat c with
  | none => exact Full_no hh compat hf
  | some m =>
    obtain ⟨hm, h1, _⟩ := fndM_at hf
    have hk := ((mapsF hs hh compat).fd c m hf).2.2
    have := tabM_full hs hh he compat hm hk
    rw [h1] at this
    exact this
theorem dcM_len (hs : StF ms) (hh : NoHg ms) (he : endB ms = true) (hl : longB ms = false) (compat : Bool) (c : Int) : (dcM ms compat c).length ≤ 64 := by
  unfold dcM replE
  cases hf : fndM ms compat c with
  | none =>
    by_cases h4 : 4 ≤ Hg.kind c
    · have := (decomp_kids h4).1; dsimp only; omega
    · dsimp only; rw [decomp_no (by omega)]; simp
  | some m =>
    obtain ⟨hm, h1, _⟩ := fndM_at hf
    have hk := ((mapsF hs hh compat).fd c m hf).2.2
    exact (TabLe.rounds hs hh compat ms.length).le64 hs hh he hl hm hk
theorem dcM_elem (hs : StF ms) (hh : NoHg ms) (he : endB ms = true) (compat : Bool) {c e : Int} (h : e ∈ dcM ms compat c) : dcM ms compat e = [e] :=
  (dcM_full hs hh he compat e).func (.leaf ((dcM_full hs hh he compat c).done e h))
end
end Go.Proofs.YtpfbnikbebccjaaGreatDoor
/- Contracts of the reference's find and ends over mappings. -/
namespace Go.Proofs.YtpfbnikbebccjaaGreatDoor
open Go.RowKit Go.Maps Go.WideMaps

/-! ends -/
theorem info_bool : (Tryz.prog.info? 4).map (fun i => (i.zero, i.size, i.bytes)) = some (some (.bool false), 1, 1) := by kernel_rfl
/-- n times v -/
def repV (n : Nat) (v : Value) : List Value := List.replicate n v
theorem made_rep (v : Value) (hv : v.cells = #[v]) (n : Nat) : madeCells v.cells n = (repV n v).toArray := by
  rw [hv]
  unfold repV
  apply Array.ext
  · simp [madeCells]
  · intro i h1 h2
    simp [madeCells, Nat.mod_one]
theorem mk_bools (n : Nat) (hn : n ≤ 1048576) (W : World) : (Instr.makeSlice 135 (.int .i64 n) (.int .i64 n)).run Tryz.prog W = .ok (.slice (some ⟨W.heap.size, 0, none⟩) n n) (W.alloc (.cells (repV n (Value.bool false)).toArray 4)) := by
  obtain ⟨i, hi, hz, hsize, hbytes⟩ := info_parts info_bool
  have := run_make (P := Tryz.prog) W 135 4 i (.bool false) Tryz.underlying135 hi hz .i64 .i64 n n (by omega) (by omega) (by rw [hbytes]; omega) (by omega)
  rw [this, hsize]
  simp only [Int.toNat_natCast, Nat.mul_one, made_rep (.bool false) rfl]
theorem mk_ints (n : Nat) (hn : n ≤ 1048576) (W : World) : (Instr.makeSlice 49 (.int .i64 n) (.int .i64 n)).run Tryz.prog W = .ok (.slice (some ⟨W.heap.size, 0, none⟩) n n) (W.alloc (.cells (repV n (Value.int .i64 0)).toArray 3)) := by
  obtain ⟨i, hi, hz, hsize, hbytes⟩ := info_parts info_int
  have := run_make (P := Tryz.prog) W 49 3 i (.int .i64 0) Tryz.underlying49 hi hz .i64 .i64 n n (by omega) (by omega) (by rw [hbytes]; omega) (by omega)
  rw [this, hsize]
  simp only [Int.toNat_natCast, Nat.mul_one, made_rep (.int .i64 0) rfl]
theorem Box.sl {w : World} {b : Nat} {t : TypeId} {cs : List Value} (h : Box w b t cs) : Sl w (some ⟨b, 0, none⟩) cs := fun _ => ⟨b, 0, rfl, fun j u hu => by rw [Nat.zero_add]; exact h.cell hu⟩
end Go.Proofs.YtpfbnikbebccjaaGreatDoor
/- Contracts of the reference's ends and lengths of mappings. -/
namespace Go.Proofs.YtpfbnikbebccjaaGreatDoor
open Go.RowKit Go.Maps Go.WideMaps

end Go.Proofs.YtpfbnikbebccjaaGreatDoor
/- The contract of the reference's lengths of mappings. -/
namespace Go.Proofs.YtpfbnikbebccjaaGreatDoor
open Go.RowKit Go.Maps Go.WideMaps

/-- a slice of ints is returned -/
def LenB (L : List Int) : Prop := ∀ x ∈ L, 0 ≤ x ∧ x ≤ 65
theorem LenB.getD {L : List Int} (h : LenB L) (i : Nat) : 0 ≤ L.getD i 0 ∧ L.getD i 0 ≤ 65 := by
  by_cases hi : i < L.length
  · have := h _ (List.getElem_mem hi)
    simpa [List.getD, hi] using this
  · simp [List.getD, Nat.le_of_not_lt hi]
theorem lenV_bd {L : List Int} {to : Nat → List Int} {fnd : Int → Option Nat} (i : Nat) : 0 ≤ lenV to fnd dlM capE L i ∧ lenV to fnd dlM capE L i ≤ 65 := by unfold lenV capE; omega
theorem LenB.step {L : List Int} (h : LenB L) (to : Nat → List Int) (fnd : Int → Option Nat) (skip : Nat → Bool) (i : Nat) : LenB (lenStep to fnd dlM capE skip L i) := by
  intro x hx
  unfold lenStep at hx
  rcases List.mem_or_eq_of_mem_set hx with hx | hx
  · exact h x hx
  · subst hx
    split
    · omega
    · exact lenV_bd i
theorem LenB.fold (to : Nat → List Int) (fnd : Int → Option Nat) (skip : Nat → Bool) (s : List Nat) : ∀ {L : List Int}, LenB L → LenB (s.foldl (lenStep to fnd dlM capE skip) L) := by
  induction s with
  | nil => intro L h; exact h
  | cons x s ih => intro L h; exact ih (h.step to fnd skip x)
end Go.Proofs.YtpfbnikbebccjaaGreatDoor
/- Contracts of the reference's replaced and table of decomposing. Written by gen_reffull.py. -/
namespace Go.Proofs.YtpfbnikbebccjaaGreatDoor
open Go.RowKit Go.Maps Go.WideMaps

/-- a slice of slices of ints -/
def RowsAt (w : World) (B : Option Addr) (T : List (List Int)) : Prop := ∃ vs : List Value, Sl w B vs ∧ vs.length = T.length ∧ ∀ i, (hi : i < T.length) → (hv : i < vs.length) → ∃ C c, vs[i] = .slice C T[i].length c ∧ T[i].length ≤ c ∧ Ints w C T[i]
theorem RowsAt.below {w w' : World} {B : Option Addr} {T : List (List Int)} (h : RowsAt w B T) (hb : Below w.heap.size w w') : RowsAt w' B T := by
  obtain ⟨vs, h1, h2, h3⟩ := h
  exact ⟨vs, h1.below hb, h2, fun i hi hv => by obtain ⟨C, c, e1, e2, e3⟩ := h3 i hi hv; exact ⟨C, c, e1, e2, e3.below hb⟩⟩
theorem RowsAt.at {w : World} {B : Option Addr} {T : List (List Int)} (h : RowsAt w B T) {m : Nat} (hm : m < T.length) : ∃ b o C c, B = some ⟨b, o, none⟩ ∧ w.cell? ⟨b, o + m, none⟩ = some (.slice C T[m].length c) ∧ T[m].length ≤ c ∧ Ints w C T[m] := by
  obtain ⟨vs, h1, h2, h3⟩ := h
  have hv : m < vs.length := by omega
  obtain ⟨C, c, e1, e2, e3⟩ := h3 m hm hv
  obtain ⟨b, o, hB, hc⟩ := h1.at hv
  exact ⟨b, o, C, c, hB, hc m _ (by rw [List.getElem?_eq_getElem hv, e1]), e2, e3⟩
/-- ints do not lie in a box without ints -/
theorem ints_off {W : World} {b i : Nat} {t : TypeId} {cs : List Value} {v : Value} {E : Option Addr} {R : List Int} (h : Ints W E R) (hX : Box W b t cs) (hv : ∀ (j : Nat) (z : Int), ¬ cs[j]? = some (Value.int .i64 z)) : Ints (W.setCell ⟨b, i, none⟩ v) E R := by
  intro hne
  obtain ⟨b', o, hA, hc⟩ := h hne
  refine ⟨b', o, hA, fun j u hu => ?_⟩
  have h1 := hc j u hu
  refine (World.cell?_setCell_far _ _ _ _ (fun e => ?_)).trans h1
  have e' : b = b' := e
  subst e'
  obtain ⟨z, rfl⟩ : ∃ z, u = .int .i64 z := by
    have hm := List.mem_of_getElem? hu
    obtain ⟨z, _, rfl⟩ := List.mem_map.1 hm
    exact ⟨z, rfl⟩
  unfold Box at hX
  simp [World.cell?, hX] at h1
  exact hv _ _ h1
/-- a box of slices of ints -/
def BoxRows (w : World) (b : Nat) (T : List (List Int)) : Prop := ∃ vs : List Value, Box w b 49 vs ∧ vs.length = T.length ∧ ∀ i, (hi : i < T.length) → (hv : i < vs.length) → ∃ C c, vs[i] = .slice C T[i].length c ∧ T[i].length ≤ c ∧ Ints w C T[i]
theorem BoxRows.lt {w : World} {b : Nat} {T : List (List Int)} (h : BoxRows w b T) : b < w.heap.size := by obtain ⟨vs, h1, _⟩ := h; exact h1.lt
theorem BoxRows.below {w w' : World} {b : Nat} {T : List (List Int)} (h : BoxRows w b T) (hb : Below w.heap.size w w') : BoxRows w' b T := by
  obtain ⟨vs, h1, h2, h3⟩ := h
  exact ⟨vs, h1.below hb h1.lt, h2, fun i hi hv => by obtain ⟨C, c, e1, e2, e3⟩ := h3 i hi hv; exact ⟨C, c, e1, e2, e3.below hb⟩⟩
theorem BoxRows.set {w : World} {b : Nat} {T : List (List Int)} (h : BoxRows w b T) {i : Nat} {E : Option Addr} {l : List Int} {d : Nat} (hd : l.length ≤ d) (hE : Ints w E l) : BoxRows (w.setCell ⟨b, i, none⟩ (.slice E l.length d)) b (T.set i l) := by
  obtain ⟨vs, h1, h2, h3⟩ := h
  have hno : ∀ (j : Nat) (z : Int), ¬ vs[j]? = some (Value.int .i64 z) := by
    intro j z e
    obtain ⟨hj, e2⟩ := List.getElem?_eq_some_iff.1 e
    obtain ⟨C, c, e1, _⟩ := h3 j (by omega) hj
    rw [e1] at e2
    cases e2
  refine ⟨_, h1.set i _, by simp [h2], fun j hj hv => ?_⟩
  rw [List.getElem_set, List.getElem_set]
  by_cases hij : i = j
  · subst hij
    rw [if_pos rfl, if_pos rfl]
    exact ⟨E, d, rfl, hd, ints_off hE h1 hno⟩
  · rw [if_neg hij, if_neg hij]
    simp only [List.length_set] at hj hv
    obtain ⟨C, c, e1, e2, e3⟩ := h3 j hj hv
    exact ⟨C, c, e1, e2, ints_off e3 h1 hno⟩
theorem BoxRows.cell {w : World} {b : Nat} {T : List (List Int)} (h : BoxRows w b T) {i : Nat} (hi : i < T.length) : (∃ v, w.cell? ⟨b, i, none⟩ = some v) ∧ w.frozen? ⟨b, i, none⟩ = false := by
  obtain ⟨vs, h1, h2, h3⟩ := h
  exact ⟨⟨_, h1.cell (List.getElem?_eq_getElem (by omega))⟩, h1.free i⟩
theorem BoxRows.new (w : World) (n : Nat) : BoxRows (w.alloc (.cells (repV n (Value.slice none 0 0)).toArray 49)) w.heap.size (List.replicate n []) := by
  refine ⟨_, Box.new w 49 (repV n (Value.slice none 0 0)) rfl, by simp [repV], fun i hi hv => ⟨none, 0, ?_, ?_, ?_⟩⟩
  · simp [repV]
  · simp
  · rw [List.getElem_replicate]; exact Sl.nil _ _
section
variable {fnd : Int → Option Nat} {T : List (List Int)}
end

/-- what is kept while the table grows -/
def TabOk (ms : List Mp) (compat : Bool) (T : List (List Int)) : Prop := TabLe ms compat T ∧ TabSk ms compat T
theorem TabOk.start (ms : List Mp) (compat : Bool) : TabOk ms compat (List.replicate ms.length []) := ⟨TabLe.start ms compat, fun i _ => by
  by_cases hi : i < ms.length
  · simp [List.getD, hi]
  · simp [List.getD, hi]⟩

end Go.Proofs.YtpfbnikbebccjaaGreatDoor
