/- More plain facts about stable sorting: the search of the symmetric merge, its halves, blocks that are merged in pairs. No program in sight. -/
import Derived.Test.YthagfcdleapooaaDoorSortPlain
namespace Go.Proofs.YthagfcdleapooaaDoor.Srt
section
variable {α : Type} {key : α → Int}

theorem SortedOn.le {d : List α} {a b i j : Nat} (h : SortedOn key d a b) (h1 : a ≤ i) (h2 : i ≤ j) (h3 : j < b) : kf key d i ≤ kf key d j := by
  by_cases e : i = j
  · subst e; exact Int.le_refl _
  · exact h i j h1 (by omega) h3

/-- the search of the symmetric merge: s0 and r0 are where it began, st is where it ended -/
theorem found_of {d : List α} {a m b st s0 r0 : Nat} (ham : a < m) (h1 : SortedOn key d a m) (h2 : SortedOn key d m b)
    (hs : ((a + b) / 2 < m ∧ s0 = (a + b) / 2 + m - b ∧ r0 = (a + b) / 2) ∨ (m ≤ (a + b) / 2 ∧ s0 = a ∧ r0 = m))
    (hlo : s0 ≤ st) (hhi : st ≤ r0) (hyes : ∀ c, s0 ≤ c → c < st → kf key d c ≤ kf key d ((a + b) / 2 + m - 1 - c)) (hno : ∀ c, st ≤ c → c < r0 → kf key d ((a + b) / 2 + m - 1 - c) < kf key d c) :
    Found key d a m b st := by
  generalize hM : (a + b) / 2 = M at *
  have hM1 : 2 * M ≤ a + b := by omega
  have hM2 : a + b ≤ 2 * M + 1 := by omega
  have e1 : a ≤ st := by omega
  have e2 : st ≤ m := by omega
  have e3 : st ≤ M := by omega
  have e4 : M + m - st ≤ b := by omega
  refine ⟨e1, e2, ?_, ?_, ?_, ?_, ?_⟩
  · rw [hM]; omega
  · rw [hM]; exact e4
  · rw [hM]; exact e3
  · intro i j g1 g2 g3 g4
    rw [hM] at g3
    by_cases e : s0 < st
    · have k1 := hyes (st - 1) (by omega) (by omega)
      rw [show M + m - 1 - (st - 1) = M + m - st by omega] at k1
      have k2 := h1.le (i := i) (j := st - 1) g1 (by omega) (by omega)
      have k3 := h2.le (i := M + m - st) (j := j) (by omega) g3 g4
      omega
    · omega
  · intro i j g1 g2 g3 g4
    rw [hM] at g4
    by_cases e : st < r0
    · have k1 := hno st (Nat.le_refl _) e
      have k2 := h1.le (i := st) (j := i) e1 g1 g2
      have k3 := h2.le (i := j) (j := M + m - 1 - st) g3 (by omega) (by omega)
      omega
    · omega

theorem rot_triv {d : List α} {a m b : Nat} (h1 : a ≤ m) (h2 : m ≤ b) (h : a = m ∨ m = b) : Rot d d a m b := by
  refine ⟨rfl, fun t => ?_⟩
  (repeat' split) <;> first | rfl | (congr 1; omega)

/-- elements of a segment come from the segment -/
theorem seg_mem {d d' : List α} {a b : Nat} (hs : Same d d' a b) (ht : St key d d') (hab : a ≤ b) (hb : b ≤ d.length) {i : Nat} (h1 : a ≤ i) (h2 : i < b) :
    ∃ i', a ≤ i' ∧ i' < b ∧ d'[i]? = d[i']? := by
  have p1 := parts d a a b (Nat.le_refl _) hab
  have p2 := parts d' a a b (Nat.le_refl _) hab
  simp only [Nat.sub_self, List.take_zero, List.nil_append] at p1 p2
  have t1 : d'.take a = d.take a := by
    apply List.ext_getElem?
    intro t
    simp only [List.getElem?_take]
    split
    · exact hs.2 t (by omega)
    · rfl
  have t2 : d'.drop b = d.drop b := by
    apply List.ext_getElem?
    intro t
    simp only [List.getElem?_drop]
    exact hs.2 _ (by omega)
  rw [t1, t2] at p2
  have hlen : i < d'.length := by rw [hs.1]; omega
  obtain ⟨x, hx⟩ : ∃ x, d'[i]? = some x := ⟨_, List.getElem?_eq_getElem hlen⟩
  have hf := ht (key x)
  rw [p1, p2] at hf
  simp only [List.filter_append, List.append_assoc, List.append_cancel_left_eq, List.append_cancel_right_eq] at hf
  have hmem : x ∈ ((d'.drop a).take (b - a)).filter (fun y => key y == key x) := by
    rw [List.mem_filter]
    refine ⟨?_, by simp⟩
    rw [List.mem_iff_getElem?]
    refine ⟨i - a, ?_⟩
    rw [List.getElem?_take, if_pos (by omega), List.getElem?_drop, show a + (i - a) = i by omega, hx]
  rw [hf, List.mem_filter] at hmem
  obtain ⟨q, hq⟩ := List.mem_iff_getElem?.1 hmem.1
  rw [List.getElem?_take] at hq
  split at hq
  · rw [List.getElem?_drop] at hq
    exact ⟨a + q, by omega, by omega, by rw [hx, hq]⟩
  · cases hq

theorem seg_kf {d d' : List α} {a b : Nat} (hs : Same d d' a b) (ht : St key d d') (hab : a ≤ b) (hb : b ≤ d.length) {i : Nat} (h1 : a ≤ i) (h2 : i < b) :
    ∃ i', a ≤ i' ∧ i' < b ∧ kf key d' i = kf key d i' := by
  obtain ⟨i', g1, g2, g3⟩ := seg_mem hs ht hab hb h1 h2
  exact ⟨i', g1, g2, by unfold kf; rw [g3]⟩

theorem Done.refl_of {d : List α} {a b : Nat} (h : SortedOn key d a b) : Done key d d a b := ⟨Same.refl _ _ _, St.refl _, h⟩

/-- the left half after the first recursion -/
theorem left_done {d1 d2 : List α} {a st M : Nat} (h1 : SortedOn key d1 a st) (h2 : SortedOn key d1 st M) (g1 : a < st ∧ st < M → Done key d1 d2 a M) (g2 : ¬ (a < st ∧ st < M) → d2 = d1) (hast : a ≤ st) (hstM : st ≤ M) : Done key d1 d2 a M := by
  by_cases h : a < st ∧ st < M
  · exact g1 h
  · rw [g2 h]
    refine Done.refl_of ?_
    by_cases e : a = st
    · subst e; exact h2
    · obtain rfl : st = M := by omega
      exact h1

/-- both halves sorted, nothing in the left one greater than anything in the right one: all sorted -/
theorem both_done {d d1 d2 d3 : List α} {a M b : Nat} (haM : a ≤ M) (hMb : M ≤ b) (hb : b ≤ d.length) (h0 : Same d d1 a b) (t0 : St key d d1)
    (hx : ∀ i j, a ≤ i → i < M → M ≤ j → j < b → kf key d1 i ≤ kf key d1 j) (hl : Done key d1 d2 a M) (hr : Done key d2 d3 M b) : Done key d d3 a b := by
  refine ⟨(h0.trans (hl.1.mono (Nat.le_refl _) hMb)).trans (hr.1.mono haM (Nat.le_refl _)), (t0.trans hl.2.1).trans hr.2.1, ?_⟩
  refine SortedOn.join (hl.2.2.same hr.1 (.inl (Nat.le_refl _))) hr.2.2 ?_
  intro i j g1 g2 g3 g4
  rw [hr.1.kf (t := i) (by omega)]
  obtain ⟨i', a1, a2, a3⟩ := seg_kf hl.1 hl.2.1 haM (by rw [h0.1]; omega) g1 g2
  obtain ⟨j', b1, b2, b3⟩ := seg_kf hr.1 hr.2.1 hMb (by rw [hl.1.1, h0.1]; omega) g3 g4
  rw [a3, b3, hl.1.kf (t := j') (by omega)]
  exact hx i' j' a1 a2 b1 b2

/-- blocks of a size are sorted, from a place on, up to n -/
def Bl (key : α → Int) (d : List α) (bs s n : Nat) : Prop := ∀ r, SortedOn key d (s + r * bs) (min (s + (r + 1) * bs) n)

theorem Bl.first {d : List α} {bs s n : Nat} (h : Bl key d bs s n) : SortedOn key d s (min (s + bs) n) := by
  have := h 0
  simpa using this
theorem Bl.next {d : List α} {bs s n : Nat} (h : Bl key d bs s n) : Bl key d bs (s + bs) n := by
  intro r
  have := h (r + 1)
  rw [show s + bs + r * bs = s + (r + 1) * bs by rw [Nat.add_mul]; omega, show s + bs + (r + 1) * bs = s + (r + 1 + 1) * bs by rw [Nat.add_mul (r + 1)]; omega]
  exact this
theorem Bl.same {d d' : List α} {bs s n x y : Nat} (h : Bl key d bs s n) (hs : Same d d' x y) (hd : y ≤ s) : Bl key d' bs s n := fun r => (h r).same hs (.inr (by omega))
theorem Bl.all {d : List α} {bs n : Nat} (h : Bl key d bs 0 n) (hn : n ≤ bs) : SortedOn key d 0 n := by
  have := h.first
  rw [Nat.zero_add, Nat.min_eq_right hn] at this
  exact this

/-- the blocks in front of a place are sorted -/
def Pf (key : α → Int) (d : List α) (bs q : Nat) : Prop := ∀ r, r < q → SortedOn key d (r * bs) (r * bs + bs)

theorem Pf.zero {d : List α} {bs : Nat} : Pf key d bs 0 := fun r h => by omega
theorem Pf.succ {d d' : List α} {bs q : Nat} (h : Pf key d bs q) (hs : Same d d' (q * bs) (q * bs + bs)) (hn : SortedOn key d' (q * bs) (q * bs + bs)) : Pf key d' bs (q + 1) := by
  intro r hr
  by_cases e : r = q
  · subst e; exact hn
  · refine (h r (by omega)).same hs (.inl ?_)
    have := Nat.mul_le_mul_right bs (show r + 1 ≤ q by omega)
    rw [Nat.add_mul] at this; omega

/-- the whole: the blocks in front, then a last one that may be short -/
theorem Bl.of_pf {d d' : List α} {bs q n : Nat} (h : Pf key d bs q) (hq : q * bs ≤ n) (hn : n < q * bs + bs) (hs : Same d d' (q * bs) n) (hl : SortedOn key d' (q * bs) n) : Bl key d' bs 0 n := by
  intro r
  rw [Nat.zero_add, Nat.zero_add]
  by_cases e : r < q
  · have h1 := Nat.mul_le_mul_right bs (show r + 1 ≤ q by omega)
    rw [Nat.min_eq_left (by omega), Nat.add_mul]
    rw [Nat.add_mul] at h1
    rw [Nat.one_mul]
    exact (h r e).same hs (.inl (by omega))
  · by_cases e2 : r = q
    · subst e2
      rw [Nat.min_eq_right (by rw [Nat.add_mul]; omega)]
      exact hl
    · have h1 := Nat.mul_le_mul_right bs (show q + 1 ≤ r by omega)
      rw [Nat.add_mul] at h1
      intro i j g1 g2 g3
      omega

/-- insertion moves one element over one place -/
theorem rot_snoc {d d1 : List α} {a k : Nat} {x y : α} (h : Rot d d1 a (a + 1) (k + 1)) (hak : a ≤ k) (hx : d1[k]? = some x) (hy : d1[k + 1]? = some y) : Rot d (swp d1 k (k + 1) x y) a (a + 1) (k + 2) := by
  refine ⟨(swp_len _ _ _ _ _).trans h.1, fun t => ?_⟩
  rw [swp_get d1 k (k + 1) t x y hx hy (by omega), h.2, h.2, h.2]
  (repeat' split) <;> first | rfl | omega | (congr 1; omega)

theorem rot_cons {d d1 : List α} {k m : Nat} {x y : α} (h : Rot d d1 (k + 1) m (m + 1)) (hkm : k + 1 ≤ m) (hx : d1[k]? = some x) (hy : d1[k + 1]? = some y) : Rot d (swp d1 k (k + 1) x y) k m (m + 1) := by
  refine ⟨(swp_len _ _ _ _ _).trans h.1, fun t => ?_⟩
  rw [swp_get d1 k (k + 1) t x y hx hy (by omega), h.2, h.2, h.2]
  (repeat' split) <;> first | rfl | omega | (congr 1; omega)

theorem rot_len {d d' : List α} {a m b : Nat} (h : Rot d d' a m b) : d'.length = d.length := h.1
end
end Go.Proofs.YthagfcdleapooaaDoor.Srt
