/- The plain mathematics of Hangul syllables: kinds, parts, pairs, the lengths of syllables. No program in sight. -/
namespace Go.Proofs.Ytbmijknpfcnlcaa.Hg

def kind (c : Int) : Int :=
  if 0x1100 ≤ c ∧ c ≤ 0x1112 then 1
  else if 0x1161 ≤ c ∧ c ≤ 0x1175 then 2
  else if 0x11A8 ≤ c ∧ c ≤ 0x11C2 then 3
  else if 0xAC00 ≤ c ∧ c ≤ 0xD7A3 then (if (c - 0xAC00) % 28 = 0 then 4 else 5)
  else 0

theorem kind1 {c : Int} (h : 0x1100 ≤ c ∧ c ≤ 0x1112) : kind c = 1 := by unfold kind; rw [if_pos h]
theorem kind2 {c : Int} (h : 0x1161 ≤ c ∧ c ≤ 0x1175) : kind c = 2 := by unfold kind; rw [if_neg (by omega), if_pos h]
theorem kind3 {c : Int} (h : 0x11A8 ≤ c ∧ c ≤ 0x11C2) : kind c = 3 := by unfold kind; rw [if_neg (by omega), if_neg (by omega), if_pos h]
theorem kind4 {c : Int} (h : 0xAC00 ≤ c ∧ c ≤ 0xD7A3) (h' : (c - 0xAC00) % 28 = 0) : kind c = 4 := by unfold kind; rw [if_neg (by omega), if_neg (by omega), if_neg (by omega), if_pos h, if_pos h']
theorem kind5 {c : Int} (h : 0xAC00 ≤ c ∧ c ≤ 0xD7A3) (h' : ¬ (c - 0xAC00) % 28 = 0) : kind c = 5 := by unfold kind; rw [if_neg (by omega), if_neg (by omega), if_neg (by omega), if_pos h, if_neg h']
theorem kind0 {c : Int} (h1 : ¬ (0x1100 ≤ c ∧ c ≤ 0x1112)) (h2 : ¬ (0x1161 ≤ c ∧ c ≤ 0x1175)) (h3 : ¬ (0x11A8 ≤ c ∧ c ≤ 0x11C2)) (h4 : ¬ (0xAC00 ≤ c ∧ c ≤ 0xD7A3)) : kind c = 0 := by
  unfold kind; rw [if_neg h1, if_neg h2, if_neg h3, if_neg h4]

/-- the six cases of a number -/
theorem cases6 (c : Int) : (0x1100 ≤ c ∧ c ≤ 0x1112 ∧ kind c = 1) ∨ (0x1161 ≤ c ∧ c ≤ 0x1175 ∧ kind c = 2) ∨ (0x11A8 ≤ c ∧ c ≤ 0x11C2 ∧ kind c = 3) ∨ (0xAC00 ≤ c ∧ c ≤ 0xD7A3 ∧ (c - 0xAC00) % 28 = 0 ∧ kind c = 4) ∨
    (0xAC00 ≤ c ∧ c ≤ 0xD7A3 ∧ ¬ (c - 0xAC00) % 28 = 0 ∧ kind c = 5) ∨ (¬ (0x1100 ≤ c ∧ c ≤ 0x1112) ∧ ¬ (0x1161 ≤ c ∧ c ≤ 0x1175) ∧ ¬ (0x11A8 ≤ c ∧ c ≤ 0x11C2) ∧ ¬ (0xAC00 ≤ c ∧ c ≤ 0xD7A3) ∧ kind c = 0) := by
  by_cases h1 : 0x1100 ≤ c ∧ c ≤ 0x1112
  · exact .inl ⟨h1.1, h1.2, kind1 h1⟩
  by_cases h2 : 0x1161 ≤ c ∧ c ≤ 0x1175
  · exact .inr (.inl ⟨h2.1, h2.2, kind2 h2⟩)
  by_cases h3 : 0x11A8 ≤ c ∧ c ≤ 0x11C2
  · exact .inr (.inr (.inl ⟨h3.1, h3.2, kind3 h3⟩))
  by_cases h4 : 0xAC00 ≤ c ∧ c ≤ 0xD7A3
  · by_cases h5 : (c - 0xAC00) % 28 = 0
    · exact .inr (.inr (.inr (.inl ⟨h4.1, h4.2, h5, kind4 h4 h5⟩)))
    · exact .inr (.inr (.inr (.inr (.inl ⟨h4.1, h4.2, h5, kind5 h4 h5⟩))))
  · exact .inr (.inr (.inr (.inr (.inr ⟨h1, h2, h3, h4, kind0 h1 h2 h3 h4⟩))))

theorem kind_range (c : Int) : 0 ≤ kind c ∧ kind c ≤ 5 := by
  rcases cases6 c with h | h | h | h | h | h <;> omega

def decomp (c : Int) : List Int :=
  if kind c < 4 then [c]
  else if (c - 0xAC00) % 28 = 0 then [0x1100 + (c - 0xAC00) / 28 / 21, 0x1161 + (c - 0xAC00) / 28 % 21]
  else [0x1100 + (c - 0xAC00) / 28 / 21, 0x1161 + (c - 0xAC00) / 28 % 21, 0x11A8 + (c - 0xAC00) % 28 - 1]

def comp (a b : Int) : Int × Bool :=
  if kind a = 1 ∧ kind b = 2 then (0xAC00 + (21 * (a - 0x1100) + b - 0x1161) * 28, true)
  else if kind a = 4 ∧ kind b = 3 then (a + b - 0x11A8 + 1, true)
  else (0, false)

/-- the length of the syllable that begins with elements of these kinds -/
def pl (p q r : Int) : Nat :=
  if (p == 1 && q == 2 && r == 3) = true then 3 else if (p == 1 && q == 2) = true then 2 else if (p == 4 && q == 3) = true then 2 else if 4 ≤ p then 1 else 0

/-- the kind of the element at an index, 0 if there is none -/
def kd (l : List Int) (j : Nat) : Int := (l[j]?.map kind).getD 0

/-- the length of the longest syllable at the beginning of a list, 0 if there is none -/
def plen (l : List Int) : Nat := pl (kd l 0) (kd l 1) (kd l 2)

theorem pl_le (p q r : Int) : pl p q r ≤ 3 := by unfold pl; (repeat' split) <;> omega
theorem plen_le3 (l : List Int) : plen l ≤ 3 := pl_le _ _ _
theorem plen_le (l : List Int) : plen l ≤ l.length := by
  unfold plen
  rcases l with _ | ⟨a, _ | ⟨b, _ | ⟨c, t⟩⟩⟩
  · simp [kd, pl]
  · simp only [kd, pl]; simp; split <;> omega
  · simp only [kd, pl]; simp; (repeat' split) <;> omega
  · have := pl_le (kd (a :: b :: c :: t) 0) (kd (a :: b :: c :: t) 1) (kd (a :: b :: c :: t) 2); simp; omega

/-- the ranges of the syllables from a position on, with fuel -/
def spl (l : List Int) : Nat → Nat → List (Nat × Nat)
  | 0, _ => []
  | f + 1, i => if i < l.length then (if 0 < plen (l.drop i) then (i, i + plen (l.drop i)) :: spl l f (i + plen (l.drop i)) else spl l f (i + 1)) else []

theorem spl_done (l : List Int) (f i : Nat) (h : l.length ≤ i) : spl l f i = [] := by
  cases f with
  | zero => rfl
  | succ f => rw [spl, if_neg (by omega)]

theorem spl_fuel (l : List Int) : ∀ (f g i : Nat), l.length - i ≤ f → l.length - i ≤ g → spl l f i = spl l g i
  | 0, g, i, hf, _ => by rw [spl_done l g i (by omega), spl_done l 0 i (by omega)]
  | f + 1, 0, i, _, hg => by rw [spl_done l (f + 1) i (by omega), spl_done l 0 i (by omega)]
  | f + 1, g + 1, i, hf, hg => by
    simp only [spl]
    split
    · split
      · rw [spl_fuel l f g _ (by omega) (by omega)]
      · rw [spl_fuel l f g _ (by omega) (by omega)]
    · rfl

/-- the ranges of the syllables from a position on -/
def sp (l : List Int) (i : Nat) : List (Nat × Nat) := spl l (l.length - i) i

theorem sp_end (l : List Int) (i : Nat) (h : l.length ≤ i) : sp l i = [] := spl_done l _ i h
theorem sp_yes (l : List Int) (i : Nat) (h : i < l.length) (hp : 0 < plen (l.drop i)) : sp l i = (i, i + plen (l.drop i)) :: sp l (i + plen (l.drop i)) := by
  unfold sp
  obtain ⟨f, hf⟩ : ∃ f, l.length - i = f + 1 := ⟨l.length - i - 1, by omega⟩
  rw [hf, spl, if_pos h, if_pos hp, spl_fuel l f (l.length - (i + plen (l.drop i))) _ (by omega) (by omega)]
theorem sp_no (l : List Int) (i : Nat) (h : i < l.length) (hp : plen (l.drop i) = 0) : sp l i = sp l (i + 1) := by
  unfold sp
  obtain ⟨f, hf⟩ : ∃ f, l.length - i = f + 1 := ⟨l.length - i - 1, by omega⟩
  rw [hf, spl, if_pos h, if_neg (by omega), spl_fuel l f (l.length - (i + 1)) _ (by omega) (by omega)]
theorem sp_len (l : List Int) (i : Nat) : (sp l i).length ≤ l.length - i := by
  suffices h : ∀ f i, (spl l f i).length ≤ f from h _ _
  intro f
  induction f with
  | zero => intro i; simp [spl]
  | succ f ih =>
    intro i
    rw [spl]
    split
    · split
      · have := ih (i + plen (l.drop i)); simp; omega
      · have := ih (i + 1); omega
    · simp

end Go.Proofs.Ytbmijknpfcnlcaa.Hg
