/- Plain facts about stable sorting by a key: stable rearrangements, adjacent swaps, rotations, insertion, symmetric merging. No program in sight. -/
namespace Go.Proofs.Ytpamkbbmbeeheaa.Srt

section
variable {α : Type} (key : α → Int)

/-- the key at an index (0 where there is no element) -/
def kf (d : List α) (i : Nat) : Int := (d[i]?.map key).getD 0

/-- d' is d rearranged so that elements of one key keep their order -/
def St (d d' : List α) : Prop := ∀ k : Int, d'.filter (fun x => key x == k) = d.filter (fun x => key x == k)

/-- the keys ascend from a to b -/
def SortedOn (d : List α) (a b : Nat) : Prop := ∀ i j, a ≤ i → i < j → j < b → kf key d i ≤ kf key d j

/-- outside of [a, b) nothing has changed -/
def Same (d d' : List α) (a b : Nat) : Prop := d'.length = d.length ∧ ∀ t, t < a ∨ b ≤ t → d'[t]? = d[t]?

variable {key}
theorem St.refl (d : List α) : St key d d := fun _ => rfl
theorem St.trans {a b c : List α} (h : St key a b) (g : St key b c) : St key a c := fun k => (g k).trans (h k)
theorem St.append {a a' b b' : List α} (h : St key a a') (g : St key b b') : St key (a ++ b) (a' ++ b') := fun k => by
  rw [List.filter_append, List.filter_append, h k, g k]

theorem St.flip {u v : List α} (h : ∀ x ∈ u, ∀ y ∈ v, key x ≠ key y) : St key (u ++ v) (v ++ u) := fun k => by
  rw [List.filter_append, List.filter_append]
  by_cases hu : u.filter (fun x => key x == k) = []
  · rw [hu]; simp
  · have hv : v.filter (fun x => key x == k) = [] := by
      rw [List.filter_eq_nil_iff]
      intro y hy hk
      rw [List.filter_eq_nil_iff] at hu
      apply hu
      intro x hx hk2
      exact h x hx y hy (by rw [eq_of_beq hk2, eq_of_beq hk])
    rw [hv]; simp

theorem Same.refl (d : List α) (a b : Nat) : Same d d a b := ⟨rfl, fun _ _ => rfl⟩
theorem Same.trans {x y z : List α} {a b : Nat} (h : Same x y a b) (g : Same y z a b) : Same x z a b := ⟨g.1.trans h.1, fun t ht => (g.2 t ht).trans (h.2 t ht)⟩
theorem Same.mono {x y : List α} {a b a' b' : Nat} (h : Same x y a b) (ha : a' ≤ a) (hb : b ≤ b') : Same x y a' b' := ⟨h.1, fun t ht => h.2 t (by omega)⟩
theorem Same.kf {x y : List α} {a b t : Nat} (h : Same x y a b) (ht : t < a ∨ b ≤ t) : kf key y t = kf key x t := by unfold Srt.kf; rw [h.2 t ht]

/-- the element at i goes to j and the other way round -/
def swp (d : List α) (i j : Nat) (x y : α) : List α := (d.set i y).set j x

/-- pointwise: d' is d with the blocks [a, m) and [m, b) exchanged -/
def Rot (d d' : List α) (a m b : Nat) : Prop :=
  d'.length = d.length ∧ ∀ t, d'[t]? = if a ≤ t ∧ t < a + (b - m) then d[t + (m - a)]? else if a + (b - m) ≤ t ∧ t < b then d[t - (b - m)]? else d[t]?

theorem Rot.same {d d' : List α} {a m b : Nat} (h : Rot d d' a m b) (h1 : a ≤ m) (h2 : m ≤ b) : Same d d' a b :=
  ⟨h.1, fun t ht => by rw [h.2 t, if_neg (by omega), if_neg (by omega)]⟩

theorem parts (d : List α) (a m b : Nat) (h1 : a ≤ m) (h2 : m ≤ b) : d = d.take a ++ ((d.drop a).take (m - a) ++ (d.drop m).take (b - m)) ++ d.drop b := by
  apply List.ext_getElem?
  intro t
  simp only [List.getElem?_append, List.length_append, List.length_take, List.length_drop, List.getElem?_take, List.getElem?_drop]
  by_cases hb : b ≤ d.length
  · (repeat' split) <;> first | rfl | omega | (congr 1; omega)
  · by_cases ht : t < d.length
    · (repeat' split) <;> first | rfl | omega | (congr 1; omega)
    · rw [List.getElem?_eq_none (by omega)]
      (repeat' split) <;> first | rfl | omega | (rw [List.getElem?_eq_none (by omega)])

theorem Rot.parts {d d' : List α} {a m b : Nat} (h : Rot d d' a m b) (h1 : a ≤ m) (h2 : m ≤ b) (hb : b ≤ d.length) :
    d' = d.take a ++ ((d.drop m).take (b - m) ++ (d.drop a).take (m - a)) ++ d.drop b := by
  apply List.ext_getElem?
  intro t
  rw [h.2 t]
  simp only [List.getElem?_append, List.length_append, List.length_take, List.length_drop, List.getElem?_take, List.getElem?_drop]
  (repeat' split) <;> first | rfl | omega | (congr 1; omega)

/-- exchanging two blocks whose keys are all different is stable -/
theorem Rot.st {d d' : List α} {a m b : Nat} (h : Rot d d' a m b) (h1 : a ≤ m) (h2 : m ≤ b) (hb : b ≤ d.length)
    (hk : ∀ i j, a ≤ i → i < m → m ≤ j → j < b → kf key d i ≠ kf key d j) : St key d d' := by
  rw [h.parts h1 h2 hb]
  conv => lhs; rw [Srt.parts d a m b h1 h2]
  refine St.append (St.append (St.refl _) (St.flip fun x hx y hy => ?_)) (St.refl _)
  obtain ⟨i, hi⟩ := List.mem_iff_getElem?.1 hx
  obtain ⟨j, hj⟩ := List.mem_iff_getElem?.1 hy
  rw [List.getElem?_take] at hi hj
  split at hi
  · split at hj
    · rw [List.getElem?_drop] at hi hj
      have := hk (a + i) (m + j) (by omega) (by omega) (by omega) (by omega)
      unfold Srt.kf at this
      rw [hi, hj] at this
      exact this
    · cases hj
  · cases hi

theorem swp_get (d : List α) (i j t : Nat) (x y : α) (hx : d[i]? = some x) (hy : d[j]? = some y) (hij : i ≠ j) :
    (swp d i j x y)[t]? = if t = i then d[j]? else if t = j then d[i]? else d[t]? := by
  have hi : i < d.length := (List.getElem?_eq_some_iff.1 hx).1
  have hj : j < d.length := (List.getElem?_eq_some_iff.1 hy).1
  unfold swp
  simp only [List.getElem?_set, List.length_set]
  (repeat' split) <;> first | rfl | omega | (subst_vars; simp_all)

theorem swp_len (d : List α) (i j : Nat) (x y : α) : (swp d i j x y).length = d.length := by simp [swp]

theorem swp_rot (d : List α) (i : Nat) (x y : α) (hx : d[i]? = some x) (hy : d[i + 1]? = some y) : Rot d (swp d i (i + 1) x y) i (i + 1) (i + 2) := by
  refine ⟨swp_len _ _ _ _ _, fun t => ?_⟩
  rw [swp_get d i (i + 1) t x y hx hy (by omega)]
  by_cases e1 : t = i
  · subst e1; rw [if_pos rfl, if_pos (by omega)]; congr 1; omega
  · rw [if_neg e1]
    by_cases e2 : t = i + 1
    · subst e2; rw [if_pos rfl, if_neg (by omega), if_pos (by omega)]; congr 1; omega
    · rw [if_neg e2, if_neg (by omega), if_neg (by omega)]

theorem kf_some {d : List α} {i : Nat} {x : α} (h : d[i]? = some x) : kf key d i = key x := by unfold kf; rw [h]; rfl

theorem swp_kf (d : List α) (i j t : Nat) (x y : α) (hx : d[i]? = some x) (hy : d[j]? = some y) (hij : i ≠ j) :
    kf key (swp d i j x y) t = if t = i then kf key d j else if t = j then kf key d i else kf key d t := by
  unfold kf
  rw [swp_get d i j t x y hx hy hij]
  (repeat' split) <;> rfl

/-- insertion: the element at j is on its way down -/
def Ins (key : α → Int) (d : List α) (a i j : Nat) : Prop :=
  (∀ p q, a ≤ p → p < q → q ≤ i → p ≠ j → q ≠ j → kf key d p ≤ kf key d q) ∧ (∀ q, j < q → q ≤ i → kf key d j ≤ kf key d q)

theorem Ins.start {d : List α} {a i : Nat} (h : SortedOn key d a i) : Ins key d a i i :=
  ⟨fun p q hp hpq hq _ hqj => h p q hp hpq (by omega), fun q h1 h2 => by omega⟩

theorem Ins.step {d : List α} {a i j : Nat} {x y : α} (h : Ins key d a i (j + 1)) (hj : a ≤ j) (hji : j + 1 ≤ i) (hx : d[j]? = some x) (hy : d[j + 1]? = some y) (hlt : key y < key x) :
    Ins key (swp d j (j + 1) x y) a i j := by
  have kx := kf_some (key := key) hx
  have ky := kf_some (key := key) hy
  refine ⟨fun p q hp hpq hq hpj hqj => ?_, fun q h1 h2 => ?_⟩
  · rw [swp_kf d j (j + 1) p x y hx hy (by omega), swp_kf d j (j + 1) q x y hx hy (by omega)]
    rw [if_neg hpj, if_neg hqj]
    by_cases e1 : p = j + 1
    · rw [if_pos e1]
      rw [if_neg (by omega)]
      exact h.1 j q hj (by omega) hq (by omega) (by omega)
    · rw [if_neg e1]
      by_cases e2 : q = j + 1
      · rw [if_pos e2]
        exact h.1 p j hp (by omega) (by omega) e1 (by omega)
      · rw [if_neg e2]
        exact h.1 p q hp hpq hq e1 e2
  · rw [swp_kf d j (j + 1) j x y hx hy (by omega), swp_kf d j (j + 1) q x y hx hy (by omega)]
    rw [if_pos rfl, if_neg (by omega)]
    by_cases e2 : q = j + 1
    · rw [if_pos e2]; omega
    · rw [if_neg e2]
      exact h.2 q (by omega) h2

theorem Ins.stop {d : List α} {a i j : Nat} (h : Ins key d a i j) (hj : a ≤ j) (hji : j ≤ i) (hend : j = a ∨ kf key d (j - 1) ≤ kf key d j) : SortedOn key d a (i + 1) := by
  intro p q hp hpq hq
  by_cases e1 : p = j
  · subst e1; exact h.2 q hpq (by omega)
  · by_cases e2 : q = j
    · subst e2
      rcases hend with he | he
      · omega
      · by_cases e3 : p = q - 1
        · subst e3; exact he
        · have := h.1 p (q - 1) hp (by omega) (by omega) (by omega) (by omega)
          omega
    · exact h.1 p q hp hpq (by omega) e1 e2

/-- what a sort of [a, b) leaves -/
def Done (key : α → Int) (d d' : List α) (a b : Nat) : Prop := Same d d' a b ∧ St key d d' ∧ SortedOn key d' a b

theorem SortedOn.short {d : List α} {a b : Nat} (h : b ≤ a + 1) : SortedOn key d a b := fun i j h1 h2 h3 => by omega
theorem SortedOn.sub {d : List α} {a b a' b' : Nat} (h : SortedOn key d a b) (ha : a ≤ a') (hb : b' ≤ b) : SortedOn key d a' b' := fun i j h1 h2 h3 => h i j (by omega) h2 (by omega)
theorem SortedOn.same {d d' : List α} {a b x y : Nat} (h : SortedOn key d a b) (hs : Same d d' x y) (hd : b ≤ x ∨ y ≤ a) : SortedOn key d' a b := fun i j h1 h2 h3 => by
  rw [hs.kf (by omega), hs.kf (by omega)]; exact h i j h1 h2 h3

theorem SortedOn.join {d : List α} {a m b : Nat} (h1 : SortedOn key d a m) (h2 : SortedOn key d m b) (h : ∀ i j, a ≤ i → i < m → m ≤ j → j < b → kf key d i ≤ kf key d j) : SortedOn key d a b := by
  intro i j hi hij hj
  by_cases e1 : j < m
  · exact h1 i j hi hij e1
  · by_cases e2 : m ≤ i
    · exact h2 i j e2 hij hj
    · exact h i j hi (by omega) (by omega) hj

theorem Rot.kf {d d' : List α} {a m b : Nat} (h : Rot d d' a m b) (t : Nat) :
    kf key d' t = if a ≤ t ∧ t < a + (b - m) then kf key d (t + (m - a)) else if a + (b - m) ≤ t ∧ t < b then kf key d (t - (b - m)) else kf key d t := by
  unfold Srt.kf
  rw [h.2 t]
  (repeat' split) <;> rfl

/-- an element goes behind the smaller ones that follow it -/
theorem Done.left {d d' : List α} {a i b : Nat} (h : Rot d d' a (a + 1) i) (hi : a + 1 ≤ i) (hib : i ≤ b) (hb : b ≤ d.length) (hs : SortedOn key d (a + 1) b)
    (hlo : ∀ t, a + 1 ≤ t → t < i → kf key d t < kf key d a) (hhi : ∀ t, i ≤ t → t < b → kf key d a ≤ kf key d t) : Done key d d' a b := by
  refine ⟨(h.same (by omega) (by omega)).mono (Nat.le_refl _) hib, h.st (by omega) hi (by omega) (fun p q h1 h2 h3 h4 => ?_), ?_⟩
  · obtain rfl : p = a := by omega
    have := hlo q h3 h4; omega
  · intro p q hp hpq hq
    rw [h.kf, h.kf]
    by_cases c1 : p < a + (i - (a + 1))
    · rw [if_pos (by omega)]
      by_cases c2 : q < a + (i - (a + 1))
      · rw [if_pos (by omega)]; exact hs _ _ (by omega) (by omega) (by omega)
      · rw [if_neg (by omega)]
        by_cases c3 : q < i
        · rw [if_pos (by omega)]
          have := hlo (p + (a + 1 - a)) (by omega) (by omega)
          rw [show q - (i - (a + 1)) = a by omega]; omega
        · rw [if_neg (by omega)]; exact hs _ _ (by omega) (by omega) (by omega)
    · rw [if_neg (by omega)]
      by_cases c3 : p < i
      · rw [if_pos (by omega), if_neg (by omega), if_neg (by omega)]
        rw [show p - (i - (a + 1)) = a by omega]
        exact hhi q (by omega) hq
      · rw [if_neg (by omega), if_neg (by omega), if_neg (by omega)]
        exact hs _ _ (by omega) hpq hq

/-- an element goes in front of the greater ones that precede it -/
theorem Done.right {d d' : List α} {a i m : Nat} (h : Rot d d' i m (m + 1)) (hi : i ≤ m) (hai : a ≤ i) (hb : m + 1 ≤ d.length) (hs : SortedOn key d a m)
    (hlo : ∀ t, a ≤ t → t < i → kf key d t ≤ kf key d m) (hhi : ∀ t, i ≤ t → t < m → kf key d m < kf key d t) : Done key d d' a (m + 1) := by
  refine ⟨(h.same hi (by omega)).mono hai (Nat.le_refl _), h.st hi (by omega) hb (fun p q h1 h2 h3 h4 => ?_), ?_⟩
  · obtain rfl : q = m := by omega
    have := hhi p h1 h2; omega
  · intro p q hp hpq hq
    rw [h.kf, h.kf]
    by_cases c1 : p < i
    · rw [if_neg (by omega), if_neg (by omega)]
      by_cases c2 : q < i
      · rw [if_neg (by omega), if_neg (by omega)]; exact hs _ _ hp hpq (by omega)
      · by_cases c3 : q = i
        · rw [if_pos (by omega), show q + (m - i) = m by omega]; exact hlo p hp c1
        · rw [if_neg (by omega), if_pos (by omega)]; exact hs _ _ hp (by omega) (by omega)
    · by_cases c3 : p = i
      · rw [if_pos (by omega), if_neg (by omega), if_pos (by omega), show p + (m - i) = m by omega]
        have := hhi (q - (m + 1 - m)) (by omega) (by omega); omega
      · rw [if_neg (by omega), if_pos (by omega), if_neg (by omega), if_pos (by omega)]
        exact hs _ _ (by omega) (by omega) (by omega)

/-- what the search of a symmetric merge has found: st is the first index whose mirror is smaller -/
structure Found (key : α → Int) (d : List α) (a m b st : Nat) : Prop where
  lo : a ≤ st
  hi : st ≤ m
  en : m ≤ (a + b) / 2 + m - st
  en2 : (a + b) / 2 + m - st ≤ b
  mid : st ≤ (a + b) / 2
  yes : ∀ i j, a ≤ i → i < st → (a + b) / 2 + m - st ≤ j → j < b → kf key d i ≤ kf key d j
  no : ∀ i j, st ≤ i → i < m → m ≤ j → j < (a + b) / 2 + m - st → kf key d j < kf key d i

/-- the two halves after the rotation -/
theorem Found.halves {d d1 : List α} {a m b st : Nat} (f : Found key d a m b st) (hb : b ≤ d.length) (h1 : SortedOn key d a m) (h2 : SortedOn key d m b) (h : Rot d d1 st m ((a + b) / 2 + m - st)) :
    Same d d1 a b ∧ St key d d1 ∧ SortedOn key d1 a st ∧ SortedOn key d1 st ((a + b) / 2) ∧ SortedOn key d1 ((a + b) / 2) ((a + b) / 2 + m - st) ∧ SortedOn key d1 ((a + b) / 2 + m - st) b ∧
      ∀ i j, a ≤ i → i < (a + b) / 2 → (a + b) / 2 ≤ j → j < b → kf key d1 i ≤ kf key d1 j := by
  obtain ⟨f1, f2, f3, f4, f5, f6, f7⟩ := f
  generalize hM : (a + b) / 2 = M at *
  have hMb : a ≤ M ∧ M ≤ b := by omega
  generalize hE : M + m - st = E at *
  refine ⟨(h.same f2 f3).mono f1 f4, h.st f2 f3 (by omega) (fun p q g1 g2 g3 g4 => by have := f7 p q g1 g2 g3 g4; omega), ?_, ?_, ?_, ?_, ?_⟩
  · intro p q g1 g2 g3
    rw [h.kf, h.kf, if_neg (by omega), if_neg (by omega), if_neg (by omega), if_neg (by omega)]
    exact h1 _ _ g1 g2 (by omega)
  · intro p q g1 g2 g3
    rw [h.kf, h.kf, if_pos (by omega), if_pos (by omega)]
    exact h2 _ _ (by omega) (by omega) (by omega)
  · intro p q g1 g2 g3
    rw [h.kf, h.kf, if_neg (by omega), if_pos (by omega), if_neg (by omega), if_pos (by omega)]
    exact h1 _ _ (by omega) (by omega) (by omega)
  · intro p q g1 g2 g3
    rw [h.kf, h.kf, if_neg (by omega), if_neg (by omega), if_neg (by omega), if_neg (by omega)]
    exact h2 _ _ (by omega) g2 g3
  · intro p q g1 g2 g3 g4
    rw [h.kf, h.kf]
    by_cases c1 : p < st
    · rw [if_neg (by omega), if_neg (by omega)]
      by_cases c2 : q < E
      · rw [if_neg (by omega), if_pos (by omega)]; exact h1 _ _ g1 (by omega) (by omega)
      · rw [if_neg (by omega), if_neg (by omega)]; exact f6 _ _ g1 c1 (by omega) g4
    · rw [if_pos (by omega)]
      by_cases c2 : q < E
      · rw [if_neg (by omega), if_pos (by omega)]; exact Int.le_of_lt (f7 _ _ (by omega) (by omega) (by omega) (by omega))
      · rw [if_neg (by omega), if_neg (by omega)]; exact h2 _ _ (by omega) (by omega) g4

/-- an adjacent pair out of order is exchanged -/
theorem swp_done {d : List α} {j : Nat} {x y : α} (hx : d[j]? = some x) (hy : d[j + 1]? = some y) (hlt : key y < key x) : St key d (swp d j (j + 1) x y) :=
  (swp_rot d j x y hx hy).st (by omega) (by omega) (by have := (List.getElem?_eq_some_iff.1 hy).1; omega) (fun p q h1 h2 h3 h4 => by
    obtain rfl : p = j := by omega
    obtain rfl : q = p + 1 := by omega
    rw [kf_some hx, kf_some hy]; omega)

theorem swp_same {d : List α} {i j a b : Nat} {x y : α} (hx : d[i]? = some x) (hy : d[j]? = some y) (hij : i ≠ j) (h1 : a ≤ i) (h2 : i < b) (h3 : a ≤ j) (h4 : j < b) : Same d (swp d i j x y) a b :=
  ⟨swp_len _ _ _ _ _, fun t ht => by rw [swp_get d i j t x y hx hy hij, if_neg (by omega), if_neg (by omega)]⟩

end
end Go.Proofs.Ytpamkbbmbeeheaa.Srt
