/- Sorting range by range: what a chain of sorts of disjoint ranges leaves. Plain. -/
import Derived.Test.YthagfcdleapooaaDoorSortPlain2
namespace Go.Proofs.YthagfcdleapooaaDoor.Srt

/-- ranges sorted one after another -/
def Stp {α : Type} (key : α → Int) : List α → List (Nat × Nat) → List α → Prop
  | d, [], d' => d' = d
  | d, r :: rs, d' => ∃ d1, Done key d d1 r.1 r.2 ∧ Stp key d1 rs d'

theorem Stp.snoc {α : Type} {key : α → Int} {d d1 d2 : List α} {rs : List (Nat × Nat)} {r : Nat × Nat} (h : Stp key d rs d1) (hd : Done key d1 d2 r.1 r.2) : Stp key d (rs ++ [r]) d2 := by
  induction rs generalizing d with
  | nil => cases h; exact ⟨d2, hd, rfl⟩
  | cons a rs ih => obtain ⟨x, h1, h2⟩ := h; exact ⟨x, h1, ih h2⟩

theorem Stp.len {α : Type} {key : α → Int} {d d1 : List α} {rs : List (Nat × Nat)} (h : Stp key d rs d1) : d1.length = d.length := by
  induction rs generalizing d with
  | nil => cases h; rfl
  | cons a rs ih => obtain ⟨x, h1, h2⟩ := h; exact (ih h2).trans h1.1.1

/-- a sort of a part, seen in the whole -/
theorem Done.lift {α : Type} {key : α → Int} {p s s' q : List α} (h : Done key s s' 0 s.length) : Done key (p ++ s ++ q) (p ++ s' ++ q) p.length (p.length + s.length) := by
  obtain ⟨⟨hl, hs⟩, ht, ho⟩ := h
  refine ⟨⟨by simp [hl], fun t ht => ?_⟩, St.append (St.append (St.refl _) ht) (St.refl _), fun i j h1 h2 h3 => ?_⟩
  · simp only [List.getElem?_append, List.length_append, hl]
    by_cases c1 : t < p.length
    · rw [if_pos (by omega), if_pos c1, if_pos (by omega), if_pos c1]
    · rw [if_neg (by omega), if_neg (by omega)]
  · have e : ∀ t, p.length ≤ t → t < p.length + s.length → kf key (p ++ s' ++ q) t = kf key s' (t - p.length) := by
      intro t g1 g2
      unfold kf
      rw [List.append_assoc, List.getElem?_append_right g1, List.getElem?_append_left (by omega)]
    rw [e i h1 (by omega), e j (by omega) h3]
    exact ho _ _ (by omega) (by omega) (by omega)

end Go.Proofs.YthagfcdleapooaaDoor.Srt
