/- Where the runs of a text lie, and that each is sorted by itself; what a text in order keeps of the text. Plain. -/
import Derived.Test.YthagfcdleapooaaDoorCanonB
namespace Go.Proofs.YthagfcdleapooaaDoor.Can

section
variable {cl : Int → Int}

/-- the class at a place, 0 outside the text -/
def clAt (cl : Int → Int) (text : List Int) (j : Nat) : Int := match text[j]? with | some x => cl x | none => 0

theorem clAt_lt {text : List Int} {j : Nat} (h : j < text.length) : clAt cl text j = cl text[j] := by simp [clAt, h]
theorem clAt_ge {text : List Int} {j : Nat} (h : text.length ≤ j) : clAt cl text j = 0 := by simp [clAt, h]

theorem rns_ge (cl : Int → Int) (l : List Int) (i : Nat) (s : Option Nat) (m : Nat) (hi : m ≤ i) (hs : ∀ a, s = some a → m ≤ a) : ∀ r ∈ rns cl l i s, m ≤ r.1 := by
  induction l generalizing i s with
  | nil =>
    cases s with
    | none => intro r hr; simp [rns] at hr
    | some a => intro r hr; simp only [rns, List.mem_singleton] at hr; subst hr; exact hs a rfl
  | cons c t ih =>
    cases s with
    | none =>
      intro r hr
      simp only [rns] at hr
      split at hr
      · exact ih (i + 1) none (by omega) (fun a h => by cases h) r hr
      · exact ih (i + 1) (some i) (by omega) (fun a h => by injection h with h; omega) r hr
    | some a =>
      have ha := hs a rfl
      intro r hr
      simp only [rns] at hr
      split at hr
      · rcases List.mem_cons.1 hr with rfl | hr
        · exact ha
        · exact ih (i + 1) none (by omega) (fun a h => by cases h) r hr
      · exact ih (i + 1) (some a) (by omega) (fun a' h => by injection h with h; omega) r hr

theorem rns_where (text : List Int) (l : List Int) (i : Nat) (s : Option Nat) (hl : text.drop i = l) (hi : i ≤ text.length) (h0 : s = none → i = 0 ∨ clAt cl text (i - 1) = 0) (h1 : ∀ a, s = some a → a < i ∧ (a = 0 ∨ clAt cl text (a - 1) = 0)) :
    (∀ r ∈ rns cl l i s, (s = none → i ≤ r.1) ∧ r.1 < r.2 ∧ r.2 ≤ text.length ∧ (r.1 = 0 ∨ clAt cl text (r.1 - 1) = 0) ∧ clAt cl text r.2 = 0) ∧ (rns cl l i s).Pairwise (fun r r' => r.2 < r'.1) := by
  induction l generalizing i s with
  | nil =>
    have hle : text.length ≤ i := by have := congrArg List.length hl; simp at this; omega
    obtain rfl : i = text.length := by omega
    cases s with
    | none => exact ⟨fun r hr => by simp [rns] at hr, by simp [rns]⟩
    | some a =>
      obtain ⟨h2, h3⟩ := h1 a rfl
      refine ⟨fun r hr => ?_, by simp [rns]⟩
      simp only [rns, List.mem_singleton] at hr
      subst hr
      exact ⟨fun h => (by cases h), h2, Nat.le_refl _, h3, clAt_ge (Nat.le_refl _)⟩
  | cons c t ih =>
    have hlt : i < text.length := by
      rcases Nat.lt_or_ge i text.length with h | h
      · exact h
      · rw [List.drop_eq_nil_of_le h] at hl; cases hl
    have hc : clAt cl text i = cl c := by
      rw [List.drop_eq_getElem_cons hlt] at hl
      injection hl with hl _
      rw [clAt_lt hlt, hl]
    have ht : text.drop (i + 1) = t := by
      rw [List.drop_eq_getElem_cons hlt] at hl
      injection hl
    have key0 : cl c = 0 → _ := fun hz => ih (i + 1) none ht hlt (fun _ => .inr (by rw [Nat.add_sub_cancel, hc, hz])) (fun a h => by cases h)
    have keyS : ∀ a, a < i + 1 → (a = 0 ∨ clAt cl text (a - 1) = 0) → _ := fun a ha1 ha2 => ih (i + 1) (some a) ht hlt (fun h => by cases h) (fun a' h => by injection h with h; subst h; exact ⟨ha1, ha2⟩)
    cases s with
    | none =>
      simp only [rns]
      by_cases hz : cl c = 0
      · rw [if_pos hz]
        obtain ⟨g1, g2⟩ := key0 hz
        exact ⟨fun r hr => ⟨fun _ => by have := (g1 r hr).1 rfl; omega, (g1 r hr).2⟩, g2⟩
      · rw [if_neg hz]
        obtain ⟨g1, g2⟩ := keyS i (by omega) (h0 rfl)
        refine ⟨fun r hr => ⟨fun _ => ?_, (g1 r hr).2⟩, g2⟩
        exact rns_ge cl t (i + 1) (some i) i (by omega) (fun a h => by injection h with h; omega) r hr
    | some a =>
      obtain ⟨h2, h3⟩ := h1 a rfl
      simp only [rns]
      by_cases hz : cl c = 0
      · rw [if_pos hz]
        obtain ⟨g1, g2⟩ := key0 hz
        refine ⟨fun r hr => ⟨fun h => (by cases h), ?_⟩, List.pairwise_cons.2 ⟨fun r hr => ?_, g2⟩⟩
        · rcases List.mem_cons.1 hr with rfl | hr
          · exact ⟨h2, by simp only; omega, h3, by rw [hc]; exact hz⟩
          · exact (g1 r hr).2
        · have := (g1 r hr).1 rfl; simp only; omega
      · rw [if_neg hz]
        obtain ⟨g1, g2⟩ := keyS a (by omega) h3
        exact ⟨fun r hr => ⟨fun h => (by cases h), (g1 r hr).2⟩, g2⟩

/-- a text whose last element is a starter, in front of another -/
theorem Ok.append_left {a b : List Int} (hcl : ∀ x, 0 ≤ cl x) (ha : Ok cl a) (hb : Ok cl b) (h : ∀ x, a.getLast? = some x → cl x = 0) : Ok cl (a ++ b) := by
  induction a with
  | nil => exact hb
  | cons x a ih =>
    cases a with
    | nil =>
      cases b with
      | nil => trivial
      | cons y t => exact ⟨fun _ => by rw [h x rfl]; exact hcl y, hb⟩
    | cons x' a' => exact ⟨ha.1, ih ha.2 (fun z hz => h z (by simpa [List.getLast?_cons_cons] using hz))⟩

theorem srt_last (hcl : ∀ x, 0 ≤ cl x) (a : List Int) (h : ∀ x, a.getLast? = some x → cl x = 0) : ∀ x, (srt cl a).getLast? = some x → cl x = 0 := by
  intro x hx
  have hz := srt_z hcl a
  have h1 := congrArg List.getLast? hz
  unfold Z at h1
  rw [List.getLast?_map, List.getLast?_map, hx] at h1
  cases hg : a.getLast? with
  | none => rw [hg] at h1; simp at h1
  | some y =>
    rw [hg] at h1
    simp only [Option.map_some, Option.some.injEq, if_pos (h y hg)] at h1
    by_cases hc : cl x = 0
    · exact hc
    · rw [if_neg hc] at h1; cases h1

theorem srt_join_left (hcl : ∀ x, 0 ≤ cl x) (a b : List Int) (h : ∀ x, a.getLast? = some x → cl x = 0) : srt cl (a ++ b) = srt cl a ++ srt cl b :=
  (srt_eq hcl ((srt_inv hcl a).append (srt_inv hcl b)) ((srt_ok a).append_left hcl (srt_ok b) (srt_last hcl a h))).symm

/-- a run is sorted by itself -/
theorem srt_run (hcl : ∀ x, 0 ≤ cl x) (text : List Int) (lo hi : Nat) (h1 : lo < hi) (h2 : hi ≤ text.length) (h3 : lo = 0 ∨ clAt cl text (lo - 1) = 0) (h4 : clAt cl text hi = 0) :
    srt cl ((text.drop lo).take (hi - lo)) = ((srt cl text).drop lo).take (hi - lo) := by
  have ht : text = text.take lo ++ ((text.drop lo).take (hi - lo) ++ text.drop hi) := by
    have e1 : (text.drop lo).drop (hi - lo) = text.drop hi := by rw [List.drop_drop]; congr 1; omega
    rw [← e1, List.take_append_drop, List.take_append_drop]
  have hp : ∀ x, (text.take lo).getLast? = some x → cl x = 0 := by
    intro x hx
    rcases h3 with rfl | h3
    · simp at hx
    · have hlo : 0 < lo := by rcases Nat.eq_zero_or_pos lo with h | h; subst h; simp at hx; exact h
      rw [List.getLast?_eq_getElem?, List.length_take, Nat.min_eq_left (by omega), List.getElem?_take, if_pos (by omega)] at hx
      unfold clAt at h3
      rw [hx] at h3
      exact h3
  have hq : ∀ y t, text.drop hi = y :: t → cl y = 0 := by
    intro y t e
    have hlt : hi < text.length := by
      rcases Nat.lt_or_ge hi text.length with h | h
      · exact h
      · rw [List.drop_eq_nil_of_le h] at e; cases e
    rw [List.drop_eq_getElem_cons hlt] at e
    injection e with e _
    rw [clAt_lt hlt, e] at h4
    exact h4
  have hs : srt cl text = srt cl (text.take lo) ++ (srt cl ((text.drop lo).take (hi - lo)) ++ srt cl (text.drop hi)) := by
    conv => lhs; rw [ht]
    rw [srt_join_left hcl _ _ hp, srt_join hcl _ _ hq]
  have hl1 : (srt cl (text.take lo)).length = lo := by rw [srt_len, List.length_take]; omega
  have hl2 : (srt cl ((text.drop lo).take (hi - lo))).length = hi - lo := by rw [srt_len, List.length_take, List.length_drop]; omega
  rw [hs]
  generalize srt cl (text.take lo) = P at *
  generalize srt cl ((text.drop lo).take (hi - lo)) = S at *
  generalize srt cl (text.drop hi) = Q at *
  rw [← hl2]
  conv => rhs; rw [← hl1]
  simp

theorem run_class (hcl : ∀ x, 0 ≤ cl x) (text : List Int) (lo hi : Nat) (h1 : lo < hi) (h2 : hi ≤ text.length) (h3 : lo = 0 ∨ clAt cl text (lo - 1) = 0) (h4 : clAt cl text hi = 0) (k : Int) :
    ((text.drop lo).take (hi - lo)).filter (fun x => cl x == k) = (((srt cl text).drop lo).take (hi - lo)).filter (fun x => cl x == k) := by
  rw [← srt_run hcl text lo hi h1 h2 h3 h4]
  exact inv_class (srt_inv hcl _) k

/-- what a text in order keeps -/
theorem srt_keeps (hcl : ∀ x, 0 ≤ cl x) (text : List Int) (i : Nat) (h : i < text.length) (h' : i < (srt cl text).length) :
    (cl text[i] = 0 ↔ cl (srt cl text)[i] = 0) ∧ (cl text[i] = 0 → (srt cl text)[i] = text[i]) := by
  have hz := srt_z hcl text
  have h1 := congrArg (·[i]?) hz
  simp only [Z, List.getElem?_map, List.getElem?_eq_getElem h, List.getElem?_eq_getElem h', Option.map_some, Option.some.injEq] at h1
  by_cases c1 : cl text[i] = 0
  · rw [if_pos c1] at h1
    by_cases c2 : cl (srt cl text)[i] = 0
    · rw [if_pos c2] at h1
      exact ⟨⟨fun _ => c2, fun _ => c1⟩, fun _ => by injection h1⟩
    · rw [if_neg c2] at h1; cases h1
  · rw [if_neg c1] at h1
    by_cases c2 : cl (srt cl text)[i] = 0
    · rw [if_pos c2] at h1; cases h1
    · exact ⟨⟨fun e => absurd e c1, fun e => absurd e c2⟩, fun e => absurd e c1⟩

theorem ok_at {l : List Int} (h : Ok cl l) (i : Nat) (hi : i + 1 < l.length) (hz : cl l[i + 1] ≠ 0) : cl l[i] ≤ cl l[i + 1] := by
  induction l generalizing i with
  | nil => simp at hi
  | cons x l ih =>
    cases l with
    | nil => simp at hi
    | cons y r =>
      cases i with
      | zero => exact h.1 hz
      | succ i => exact ih h.2 i (by simpa using hi) hz
end
end Go.Proofs.YthagfcdleapooaaDoor.Can
