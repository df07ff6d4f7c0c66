/- An element put behind a text in order and moved in front of those with greater classes; the runs of a text with one element more. Plain. -/
import Derived.Test.YthagfcdleapooaaDoorCanon
namespace Go.Proofs.YthagfcdleapooaaDoor.Can

section
variable {cl : Int → Int}

theorem inv_back (c : Int) (q : List Int) (hc : 0 < cl c) (h : ∀ y ∈ q, cl c < cl y) : Inv cl (q ++ [c]) (c :: q) := by
  induction q with
  | nil => exact Inv.refl _
  | cons y r ih =>
    have hy := h y (List.mem_cons_self ..)
    exact ((ih fun z hz => h z (List.mem_cons_of_mem _ hz)).cons y).trans (Inv.swap r (by omega) (by omega) (by omega))

theorem ok_ins (c : Int) (p q : List Int) (h : Ok cl (p ++ q)) (hq : ∀ y ∈ q, cl c < cl y) (hp : cl c = 0 ∨ ∀ x, p.getLast? = some x → cl x ≤ cl c) : Ok cl (p ++ c :: q) := by
  have base : ∀ q : List Int, Ok cl q → (∀ y ∈ q, cl c < cl y) → Ok cl (c :: q) := by
    intro q hq1 hq2
    cases q with
    | nil => trivial
    | cons y r => exact ⟨fun _ => by have := hq2 y (List.mem_cons_self ..); omega, hq1⟩
  induction p with
  | nil => exact base q h hq
  | cons x p ih =>
    cases p with
    | nil =>
      refine ⟨fun hne => ?_, base q h.tail hq⟩
      rcases hp with hp | hp
      · exact absurd hp hne
      · exact hp x rfl
    | cons x' p' => exact ⟨h.1, ih h.2 (by rcases hp with hp | hp; exact .inl hp; exact .inr fun z hz => hp z (by simpa [List.getLast?_cons_cons] using hz))⟩

/-- the element c behind a text in order, at its place -/
theorem srt_snoc (hcl : ∀ x, 0 ≤ cl x) {l p q : List Int} {c : Int} (h : srt cl l = p ++ q) (hq : q = [] ∨ 0 < cl c) (hq2 : ∀ y ∈ q, cl c < cl y) (hp : cl c = 0 ∨ ∀ x, p.getLast? = some x → cl x ≤ cl c) : p ++ c :: q = srt cl (l ++ [c]) := by
  refine srt_eq hcl ?_ (ok_ins c p q (by rw [← h]; exact srt_ok l) hq2 hp)
  have h1 : Inv cl (l ++ [c]) ((p ++ q) ++ [c]) := (show Inv cl l (p ++ q) by rw [← h]; exact srt_inv hcl l).append (Inv.refl [c])
  refine h1.trans ?_
  rw [List.append_assoc]
  refine (Inv.refl p).append ?_
  rcases hq with rfl | hq
  · exact Inv.refl _
  · exact inv_back c q hq hq2
end

end Go.Proofs.YthagfcdleapooaaDoor.Can

namespace Go.Proofs.YthagfcdleapooaaDoor

theorem rns_snoc0 (cl : Int → Int) (l : List Int) (c : Int) (i : Nat) (s : Option Nat) (h : cl c = 0) : rns cl (l ++ [c]) i s = rns cl l i s := by
  induction l generalizing i s with
  | nil => cases s <;> simp [rns, h]
  | cons x r ih =>
    cases s <;> simp only [List.cons_append, rns, ih]

theorem rns_snoc1 (cl : Int → Int) (l : List Int) (c : Int) (i : Nat) (s : Option Nat) (h : cl c ≠ 0) (ho : match l.getLast? with | none => s.isSome = true | some x => cl x ≠ 0) :
    ∃ pre a, rns cl l i s = pre ++ [(a, i + l.length)] ∧ rns cl (l ++ [c]) i s = pre ++ [(a, i + l.length + 1)] := by
  induction l generalizing i s with
  | nil =>
    cases s with
    | none => simp at ho
    | some s => exact ⟨[], s, by simp [rns], by simp [rns, h]⟩
  | cons x r ih =>
    have key : ∀ s', (match r.getLast? with | none => s'.isSome = true | some x => cl x ≠ 0) → ∃ pre a, rns cl r (i + 1) s' = pre ++ [(a, i + (x :: r).length)] ∧ rns cl (r ++ [c]) (i + 1) s' = pre ++ [(a, i + (x :: r).length + 1)] := by
      intro s' hs'
      obtain ⟨pre, a, h1, h2⟩ := ih (i + 1) s' hs'
      refine ⟨pre, a, ?_, ?_⟩
      · rw [h1]; simp; omega
      · rw [h2]; simp; omega
    have hr : r ≠ [] → ∀ s' : Option Nat, (match r.getLast? with | none => s'.isSome = true | some x => cl x ≠ 0) := by
      intro hne s'
      cases r with
      | nil => exact absurd rfl hne
      | cons y t =>
        have : (x :: y :: t).getLast? = (y :: t).getLast? := List.getLast?_cons_cons
        rw [this] at ho
        cases hg : (y :: t).getLast? with
        | none => simp at hg
        | some z => rw [hg] at ho; exact ho
    have hx : r = [] → cl x ≠ 0 := by rintro rfl; exact ho
    cases s with
    | none =>
      simp only [List.cons_append, rns]
      by_cases c0 : cl x = 0
      · rw [if_pos c0, if_pos c0]
        exact key none (hr (fun e => hx e c0) none)
      · rw [if_neg c0, if_neg c0]
        refine key (some i) ?_
        cases r with
        | nil => rfl
        | cons y t => exact hr (by simp) (some i)
    | some s =>
      simp only [List.cons_append, rns]
      by_cases c0 : cl x = 0
      · rw [if_pos c0, if_pos c0]
        obtain ⟨pre, a, h1, h2⟩ := key none (hr (fun e => hx e c0) none)
        exact ⟨(s, i) :: pre, a, by rw [h1]; rfl, by rw [h2]; rfl⟩
      · rw [if_neg c0, if_neg c0]
        refine key (some s) ?_
        cases r with
        | nil => rfl
        | cons y t => exact hr (by simp) (some s)

theorem rns_snoc2 (cl : Int → Int) (l : List Int) (c : Int) (i : Nat) (s : Option Nat) (h : cl c ≠ 0) (ho : match l.getLast? with | none => s = none | some x => cl x = 0) :
    rns cl (l ++ [c]) i s = rns cl l i s ++ [(i + l.length, i + l.length + 1)] := by
  induction l generalizing i s with
  | nil => obtain rfl : s = none := ho; simp [rns, h]
  | cons x r ih =>
    have key : ∀ s', (match r.getLast? with | none => s' = none | some x => cl x = 0) → rns cl (r ++ [c]) (i + 1) s' = rns cl r (i + 1) s' ++ [(i + (x :: r).length, i + (x :: r).length + 1)] := by
      intro s' hs'
      rw [ih (i + 1) s' hs']
      simp; omega
    have hr : r ≠ [] → ∀ s' : Option Nat, (match r.getLast? with | none => s' = none | some x => cl x = 0) := by
      intro hne s'
      cases r with
      | nil => exact absurd rfl hne
      | cons y t =>
        have : (x :: y :: t).getLast? = (y :: t).getLast? := List.getLast?_cons_cons
        rw [this] at ho
        cases hg : (y :: t).getLast? with
        | none => simp at hg
        | some z => rw [hg] at ho; exact ho
    have hx : r = [] → cl x = 0 := by rintro rfl; exact ho
    cases s with
    | none =>
      simp only [List.cons_append, rns]
      by_cases c0 : cl x = 0
      · rw [if_pos c0, if_pos c0]
        refine key none ?_
        cases r with
        | nil => rfl
        | cons y t => exact hr (by simp) none
      · rw [if_neg c0, if_neg c0]
        exact key (some i) (hr (fun e => c0 (hx e)) (some i))
    | some s =>
      simp only [List.cons_append, rns]
      by_cases c0 : cl x = 0
      · rw [if_pos c0, if_pos c0, List.cons_append]
        congr 1
        refine key none ?_
        cases r with
        | nil => rfl
        | cons y t => exact hr (by simp) none
      · rw [if_neg c0, if_neg c0]
        exact key (some s) (hr (fun e => c0 (hx e)) (some s))

/-- the runs of a text with one element more -/
theorem rns_take (cl : Int → Int) (l : List Int) (i : Nat) (hi : i < l.length) :
    (cl l[i] = 0 → rns cl (l.take (i + 1)) 0 none = rns cl (l.take i) 0 none) ∧
    (cl l[i] ≠ 0 → ∀ hp : 0 < i, cl (l[i - 1]'(by omega)) ≠ 0 → ∃ pre a, rns cl (l.take i) 0 none = pre ++ [(a, i)] ∧ rns cl (l.take (i + 1)) 0 none = pre ++ [(a, i + 1)]) ∧
    (cl l[i] ≠ 0 → (∀ hp : 0 < i, cl (l[i - 1]'(by omega)) = 0) → rns cl (l.take (i + 1)) 0 none = rns cl (l.take i) 0 none ++ [(i, i + 1)]) := by
  have ht : l.take (i + 1) = l.take i ++ [l[i]] := List.take_succ_eq_append_getElem hi
  have hl : (l.take i).length = i := by simp; omega
  have hg : ∀ hp : 0 < i, (l.take i).getLast? = some (l[i - 1]'(by omega)) := by
    intro hp
    rw [List.getLast?_eq_getElem?, hl, List.getElem?_take, if_pos (by omega), List.getElem?_eq_getElem (by omega)]
  rw [ht]
  refine ⟨fun h => rns_snoc0 cl _ _ 0 none h, fun h hp h2 => ?_, fun h h2 => ?_⟩
  · have := rns_snoc1 cl (l.take i) l[i] 0 none h (by rw [hg hp]; exact h2)
    simpa [hl] using this
  · have := rns_snoc2 cl (l.take i) l[i] 0 none h (by
      rcases Nat.eq_zero_or_pos i with h0 | h0
      · subst h0; rfl
      · rw [hg h0]; exact h2 h0)
    simpa [hl] using this

end Go.Proofs.YthagfcdleapooaaDoor
