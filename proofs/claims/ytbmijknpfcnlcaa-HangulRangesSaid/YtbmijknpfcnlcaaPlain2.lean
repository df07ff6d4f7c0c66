/- Plain facts about the ranges of the syllables of a text. No program in sight. -/
import Derived.Test.YtbmijknpfcnlcaaLawsB
namespace Go.Proofs.Ytbmijknpfcnlcaa

theorem pl_zero {p q r : Int} (h : Hg.pl p q r = 0) : p < 4 := by
  unfold Hg.pl at h
  (repeat' split at h) <;> omega

theorem kd_at (l : List Int) (k : Nat) (h : k < l.length) : Hg.kd (l.drop k) 0 = Hg.kind l[k] := by
  unfold Hg.kd; simp [h]

theorem kd_next (l : List Int) (k j : Nat) (h : k + j < l.length) : Hg.kd (l.drop k) j = Hg.kind l[k + j] := by
  unfold Hg.kd; simp [h]

theorem kd_out (l : List Int) (k j : Nat) (h : l.length ≤ k + j) : Hg.kd (l.drop k) j = 0 := by
  unfold Hg.kd; simp [h]

theorem plen_zero (l : List Int) (k : Nat) (h : k < l.length) (h0 : Hg.plen (l.drop k) = 0) : Hg.kind l[k] < 4 := by
  unfold Hg.plen at h0
  have := pl_zero h0
  rw [kd_at l k h] at this
  exact this

/-- what a first range of sp says -/
theorem sp_cons (l : List Int) : ∀ (f p lo hi : Nat) (rest : List (Nat × Nat)), l.length - p ≤ f → Hg.sp l p = (lo, hi) :: rest →
    p ≤ lo ∧ lo < hi ∧ hi ≤ l.length ∧ rest = Hg.sp l hi ∧ hi = lo + Hg.plen (l.drop lo) ∧ ∀ k, p ≤ k → k < lo → Hg.plen (l.drop k) = 0
  | 0, p, lo, hi, rest, hf, h => by rw [Hg.sp_end l p (by omega)] at h; cases h
  | f + 1, p, lo, hi, rest, hf, h => by
    by_cases hp : p < l.length
    · by_cases h0 : 0 < Hg.plen (l.drop p)
      · rw [Hg.sp_yes l p hp h0] at h
        injection h with h1 h2
        injection h1 with h3 h4
        subst h3
        have := Hg.plen_le (l.drop p)
        rw [List.length_drop] at this
        refine ⟨Nat.le_refl _, by omega, by omega, by rw [← h4, h2], h4.symm, fun k _ _ => by omega⟩
      · rw [Hg.sp_no l p hp (by omega)] at h
        obtain ⟨g1, g2, g3, g4, g5, g6⟩ := sp_cons l f (p + 1) lo hi rest (by omega) h
        refine ⟨by omega, g2, g3, g4, g5, fun k hk hk2 => ?_⟩
        by_cases e : k = p
        · subst e; omega
        · exact g6 k (by omega) hk2
    · rw [Hg.sp_end l p (by omega)] at h; cases h

theorem sp_nil (l : List Int) : ∀ (f p : Nat), l.length - p ≤ f → Hg.sp l p = [] → ∀ k, p ≤ k → k < l.length → Hg.plen (l.drop k) = 0
  | 0, p, hf, _ => fun k hk hk2 => by omega
  | f + 1, p, hf, h => fun k hk hk2 => by
    by_cases h0 : 0 < Hg.plen (l.drop p)
    · rw [Hg.sp_yes l p (by omega) h0] at h; cases h
    · by_cases e : k = p
      · subst e; omega
      · rw [Hg.sp_no l p (by omega) (by omega)] at h
        exact sp_nil l f (p + 1) (by omega) h k (by omega) hk2

/-- what the elements from lo on compose to -/
def val (l : List Int) (lo : Nat) : Nat → Int
  | 0 => l.getD lo 0
  | j + 1 => (Hg.comp (val l lo j) (l.getD (lo + (j + 1)) 0)).1

theorem kind_comp_lv {a b : Int} (ha : Hg.kind a = 1) (hb : Hg.kind b = 2) : (Hg.comp a b).2 = true ∧ Hg.kind (Hg.comp a b).1 = 4 := by
  have ba := kind_is1 ha
  have bb := kind_is2 hb
  rw [comp_lv ha hb]
  exact ⟨rfl, Hg.kind4 (by simp only; omega) (by simp only; omega)⟩

theorem kind_comp_t {a b : Int} (ha : Hg.kind a = 4) (hb : Hg.kind b = 3) : (Hg.comp a b).2 = true ∧ Hg.kind (Hg.comp a b).1 = 5 := by
  have ba := kind_is4 ha
  have bb := kind_is3 hb
  rw [comp_t ha hb]
  exact ⟨rfl, Hg.kind5 (by simp only; omega) (by simp only; omega)⟩

theorem comp_not {a b : Int} (h1 : ¬ (Hg.kind a = 1 ∧ Hg.kind b = 2)) (h2 : ¬ (Hg.kind a = 4 ∧ Hg.kind b = 3)) : (Hg.comp a b).2 = false := by rw [comp_no h1 h2]

theorem getD_at (l : List Int) (k : Nat) (h : k < l.length) : l.getD k 0 = l[k] := by simp [List.getD, h]

/-- the three facts on the elements of a range -/
theorem range_facts (l : List Int) (lo : Nat) (hlo : lo < l.length) (hp : 0 < Hg.plen (l.drop lo)) :
    (∀ j, j + 1 < Hg.plen (l.drop lo) → (Hg.comp (val l lo j) (l.getD (lo + (j + 1)) 0)).2 = true) ∧
    4 ≤ Hg.kind (val l lo (Hg.plen (l.drop lo) - 1)) ∧
    (lo + Hg.plen (l.drop lo) < l.length → (Hg.comp (val l lo (Hg.plen (l.drop lo) - 1)) (l.getD (lo + Hg.plen (l.drop lo)) 0)).2 = false) := by
  have hle := Hg.plen_le (l.drop lo)
  rw [List.length_drop] at hle
  have k0 := kd_at l lo hlo
  have v0 : val l lo 0 = l[lo] := getD_at l lo hlo
  generalize hP : Hg.plen (l.drop lo) = P at *
  have hP' := hP
  unfold Hg.plen Hg.pl at hP'
  rw [k0] at hP'
  simp only [Bool.and_eq_true, beq_iff_eq] at hP'
  by_cases c1 : (Hg.kind l[lo] = 1 ∧ Hg.kd (l.drop lo) 1 = 2) ∧ Hg.kd (l.drop lo) 2 = 3
  · rw [if_pos c1] at hP'
    subst hP'
    have e1 : lo + 1 < l.length := by omega
    have e2 : lo + 2 < l.length := by omega
    have q1 := kd_next l lo 1 e1
    have q2 := kd_next l lo 2 e2
    have d1 := getD_at l (lo + 1) e1
    have d2 := getD_at l (lo + 2) e2
    have r1 := kind_comp_lv (a := l[lo]) (b := l[lo + 1]) c1.1.1 (by rw [← q1]; exact c1.1.2)
    have v1 : val l lo 1 = (Hg.comp l[lo] l[lo + 1]).1 := by simp only [val]; rw [show l.getD lo 0 = l[lo] from v0, show l.getD (lo + (0 + 1)) 0 = l[lo + 1] from d1]
    have r2 := kind_comp_t (a := (Hg.comp l[lo] l[lo + 1]).1) (b := l[lo + 2]) r1.2 (by rw [← q2]; exact c1.2)
    have v2 : val l lo 2 = (Hg.comp (Hg.comp l[lo] l[lo + 1]).1 l[lo + 2]).1 := by
      show (Hg.comp (val l lo 1) (l.getD (lo + 2) 0)).1 = _
      rw [v1, d2]
    refine ⟨fun j hj => ?_, ?_, fun _ => ?_⟩
    · match j, hj with
      | 0, _ => rw [v0]; show (Hg.comp _ (l.getD (lo + 1) 0)).2 = true; rw [d1]; exact r1.1
      | 1, _ => rw [v1]; show (Hg.comp _ (l.getD (lo + 2) 0)).2 = true; rw [d2]; exact r2.1
    · show 4 ≤ Hg.kind (val l lo 2); rw [v2]; omega
    · show (Hg.comp (val l lo 2) _).2 = false; rw [v2]; exact comp_not (by omega) (by omega)
  · rw [if_neg c1] at hP'
    by_cases c2 : Hg.kind l[lo] = 1 ∧ Hg.kd (l.drop lo) 1 = 2
    · rw [if_pos c2] at hP'
      subst hP'
      have e1 : lo + 1 < l.length := by omega
      have q1 := kd_next l lo 1 e1
      have d1 := getD_at l (lo + 1) e1
      have r1 := kind_comp_lv (a := l[lo]) (b := l[lo + 1]) c2.1 (by rw [← q1]; exact c2.2)
      have v1 : val l lo 1 = (Hg.comp l[lo] l[lo + 1]).1 := by simp only [val]; rw [show l.getD lo 0 = l[lo] from v0, show l.getD (lo + (0 + 1)) 0 = l[lo + 1] from d1]
      refine ⟨fun j hj => ?_, ?_, fun h2 => ?_⟩
      · match j, hj with
        | 0, _ => rw [v0]; show (Hg.comp _ (l.getD (lo + 1) 0)).2 = true; rw [d1]; exact r1.1
      · show 4 ≤ Hg.kind (val l lo 1); rw [v1]; omega
      · show (Hg.comp (val l lo 1) _).2 = false
        have q2 := kd_next l lo 2 h2
        rw [v1, getD_at l (lo + 2) h2]
        exact comp_not (by omega) (fun h => c1 ⟨c2, by rw [q2]; exact h.2⟩)
    · rw [if_neg c2] at hP'
      by_cases c3 : Hg.kind l[lo] = 4 ∧ Hg.kd (l.drop lo) 1 = 3
      · rw [if_pos c3] at hP'
        subst hP'
        have e1 : lo + 1 < l.length := by omega
        have q1 := kd_next l lo 1 e1
        have d1 := getD_at l (lo + 1) e1
        have r1 := kind_comp_t (a := l[lo]) (b := l[lo + 1]) c3.1 (by rw [← q1]; exact c3.2)
        have v1 : val l lo 1 = (Hg.comp l[lo] l[lo + 1]).1 := by simp only [val]; rw [show l.getD lo 0 = l[lo] from v0, show l.getD (lo + (0 + 1)) 0 = l[lo + 1] from d1]
        refine ⟨fun j hj => ?_, ?_, fun h2 => ?_⟩
        · match j, hj with
          | 0, _ => rw [v0]; show (Hg.comp _ (l.getD (lo + 1) 0)).2 = true; rw [d1]; exact r1.1
        · show 4 ≤ Hg.kind (val l lo 1); rw [v1]; omega
        · show (Hg.comp (val l lo 1) _).2 = false
          rw [v1]
          exact comp_not (by omega) (by omega)
      · rw [if_neg c3] at hP'
        by_cases c4 : 4 ≤ Hg.kind l[lo]
        · rw [if_pos c4] at hP'
          subst hP'
          refine ⟨fun j hj => by omega, ?_, fun h2 => ?_⟩
          · show 4 ≤ Hg.kind (val l lo 0); rw [v0]; exact c4
          · show (Hg.comp (val l lo 0) _).2 = false
            have q1 := kd_next l lo 1 h2
            rw [v0, getD_at l (lo + 1) h2]
            exact comp_not (by omega) (fun h => c3 ⟨h.1, by rw [q1]; exact h.2⟩)
        · rw [if_neg c4] at hP'
          omega

end Go.Proofs.Ytbmijknpfcnlcaa
