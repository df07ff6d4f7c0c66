/- Which error the check of classes finds first. Plain. -/
import Derived.Test.YthagfcdleapooaaDoorSpans
namespace Go.Proofs.YthagfcdleapooaaDoor
open Go.RowKit

/-- a span or a value that is not permitted -/
def Bad1 (s : Spn) : Prop := s.lo < 0 ∨ 1114111 < s.hi ∨ s.hi < s.lo ∨ s.val < 1 ∨ 254 < s.val
/-- two neighbours that are not ascending, disjoint and maximal -/
def Bad2 (a b : Spn) : Prop := b.lo ≤ a.hi ∨ (b.lo = a.hi + 1 ∧ b.val = a.val)
/-- a span that holds a part or a syllable of Hangul -/
def Bad3 (s : Spn) : Prop := (s.lo ≤ 4370 ∧ 4352 ≤ s.hi) ∨ (s.lo ≤ 4469 ∧ 4449 ≤ s.hi) ∨ (s.lo ≤ 4546 ∧ 4520 ≤ s.hi) ∨ (s.lo ≤ 55203 ∧ 44032 ≤ s.hi)

instance (s : Spn) : Decidable (Bad1 s) := by unfold Bad1; exact inferInstance
instance (a b : Spn) : Decidable (Bad2 a b) := by unfold Bad2; exact inferInstance
instance (s : Spn) : Decidable (Bad3 s) := by unfold Bad3; exact inferInstance

def adj2 : List Spn → Bool
  | a :: b :: r => decide (Bad2 a b) || adj2 (b :: r)
  | _ => false

/-- the first error: 1 a range, 4 the order, 11 the data; 0 none -/
def chk (ss : List Spn) : Int := if (ss.any fun s => decide (Bad1 s)) = true then 1 else if adj2 ss = true then 4 else if (ss.any fun s => decide (Bad3 s)) = true then 11 else 0

theorem any_true {p : Spn → Bool} {ss : List Spn} {k : Nat} (hk : k < ss.length) (h : p ss[k] = true) : ss.any p = true := List.any_eq_true.2 ⟨ss[k], List.getElem_mem hk, h⟩
theorem any_false {p : Spn → Bool} {ss : List Spn} (h : ∀ t, (ht : t < ss.length) → p ss[t] = false) : ss.any p = false := by
  rw [List.any_eq_false]
  intro x hx
  obtain ⟨i, hi, rfl⟩ := List.getElem_of_mem hx
  rw [h i hi]; simp

theorem adj2_true {ss : List Spn} {k : Nat} (hk : k + 1 < ss.length) (h : Bad2 ss[k] ss[k + 1]) : adj2 ss = true := by
  induction ss generalizing k with
  | nil => simp at hk
  | cons a r ih =>
    cases r with
    | nil => simp at hk
    | cons b r =>
      cases k with
      | zero => simp only [List.getElem_cons_zero, List.getElem_cons_succ] at h; simp [adj2, h]
      | succ k =>
        simp only [adj2, Bool.or_eq_true]
        right
        exact ih (k := k) (by simpa using hk) (by simpa using h)

theorem adj2_false {ss : List Spn} (h : ∀ t, (ht : t + 1 < ss.length) → ¬ Bad2 ss[t] ss[t + 1]) : adj2 ss = false := by
  induction ss with
  | nil => rfl
  | cons a r ih =>
    cases r with
    | nil => rfl
    | cons b r =>
      have h0 := h 0 (by simp)
      simp only [List.getElem_cons_zero, List.getElem_cons_succ] at h0
      simp only [adj2, Bool.or_eq_false_iff]
      refine ⟨by simpa using h0, ih fun t ht => ?_⟩
      have := h (t + 1) (by simpa using ht)
      simpa using this

theorem chk_1 {ss : List Spn} {k : Nat} (hk : k < ss.length) (h : Bad1 ss[k]) : chk ss = 1 := by
  unfold chk; rw [if_pos (any_true hk (by simpa using h))]
theorem chk_4 {ss : List Spn} {k : Nat} (h1 : ∀ t, (ht : t < ss.length) → ¬ Bad1 ss[t]) (hk : k + 1 < ss.length) (h : Bad2 ss[k] ss[k + 1]) : chk ss = 4 := by
  unfold chk; rw [if_neg (by rw [any_false fun t ht => by simpa using h1 t ht]; simp), if_pos (adj2_true hk h)]
theorem chk_11 {ss : List Spn} {k : Nat} (h1 : ∀ t, (ht : t < ss.length) → ¬ Bad1 ss[t]) (h2 : ∀ t, (ht : t + 1 < ss.length) → ¬ Bad2 ss[t] ss[t + 1]) (hk : k < ss.length) (h : Bad3 ss[k]) : chk ss = 11 := by
  unfold chk; rw [if_neg (by rw [any_false fun t ht => by simpa using h1 t ht]; simp), if_neg (by rw [adj2_false h2]; simp), if_pos (any_true hk (by simpa using h))]
theorem chk_0 {ss : List Spn} (h1 : ∀ t, (ht : t < ss.length) → ¬ Bad1 ss[t]) (h2 : ∀ t, (ht : t + 1 < ss.length) → ¬ Bad2 ss[t] ss[t + 1]) (h3 : ∀ t, (ht : t < ss.length) → ¬ Bad3 ss[t]) : chk ss = 0 := by
  unfold chk; rw [if_neg (by rw [any_false fun t ht => by simpa using h1 t ht]; simp), if_neg (by rw [adj2_false h2]; simp), if_neg (by rw [any_false fun t ht => by simpa using h3 t ht]; simp)]

theorem all_succ {ss : List Spn} {P : Spn → Prop} {i : Nat} (hlt : i < ss.length) (h : ∀ t, (ht : t < ss.length) → t < i → ¬ P ss[t]) (hi : ¬ P ss[i]) : ∀ t, (ht : t < ss.length) → t < i + 1 → ¬ P ss[t] := by
  intro t ht g
  by_cases e : t < i
  · exact h t ht e
  · obtain rfl : t = i := by omega
    exact hi
theorem pair_succ {ss : List Spn} {P : Spn → Spn → Prop} {i : Nat} (hlt : i + 1 < ss.length) (h : ∀ t, (ht : t + 1 < ss.length) → t < i → ¬ P ss[t] ss[t + 1]) (hi : ¬ P ss[i] ss[i + 1]) : ∀ t, (ht : t + 1 < ss.length) → t < i + 1 → ¬ P ss[t] ss[t + 1] := by
  intro t ht g
  by_cases e : t < i
  · exact h t ht e
  · obtain rfl : t = i := by omega
    exact hi

theorem chk_ok {ss : List Spn} (h : chk ss = 0) : (∀ t, (ht : t < ss.length) → ¬ Bad1 ss[t]) ∧ (∀ t, (ht : t + 1 < ss.length) → ¬ Bad2 ss[t] ss[t + 1]) := by
  unfold chk at h
  split at h
  · omega
  · next h1 =>
    split at h
    · omega
    · next h2 =>
      refine ⟨fun t ht hb => h1 (any_true ht (by simpa using hb)), fun t ht hb => h2 (adj2_true ht hb)⟩

/-- valid spans ascend -/
theorem asc_of_ok {ss : List Spn} (h : chk ss = 0) : Asc ss := by
  obtain ⟨h1, h2⟩ := chk_ok h
  have step : ∀ d i, (hi : i < ss.length) → (hj : i + d + 1 < ss.length) → ss[i].hi < ss[i + d + 1].lo := by
    intro d
    induction d with
    | zero =>
      intro i hi hj
      have := h2 i (by omega)
      unfold Bad2 at this
      have : ¬ ss[i + 1].lo ≤ ss[i].hi := fun h => this (.inl h)
      simp only [Nat.add_zero]; omega
    | succ d ih =>
      intro i hi hj
      have a1 := ih i hi (by omega)
      have a2 := h2 (i + d + 1) (by omega)
      have a3 := h1 (i + d + 1) (by omega)
      unfold Bad2 at a2
      unfold Bad1 at a3
      have a4 : ¬ ss[i + d + 1 + 1].lo ≤ ss[i + d + 1].hi := fun h => a2 (.inl h)
      have : i + (d + 1) + 1 = i + d + 1 + 1 := by omega
      simp only [this]
      omega
  intro i j hi hj
  refine ⟨?_, fun hij => ?_⟩
  · have := h1 i hi
    unfold Bad1 at this
    omega
  · have := step (j - i - 1) i hi (by omega)
    have e : i + (j - i - 1) + 1 = j := by omega
    simp only [e] at this
    exact this

end Go.Proofs.YthagfcdleapooaaDoor
