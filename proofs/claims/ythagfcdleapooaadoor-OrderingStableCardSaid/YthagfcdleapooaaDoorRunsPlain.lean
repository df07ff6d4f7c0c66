/- The runs of a text: where elements that are no starters follow each other. Plain. -/
namespace Go.Proofs.YthagfcdleapooaaDoor

/-- the runs of a text from position i on; s: where the run began that is open -/
def rns (cl : Int → Int) : List Int → Nat → Option Nat → List (Nat × Nat)
  | [], _, none => []
  | [], i, some s => [(s, i)]
  | c :: r, i, none => if cl c = 0 then rns cl r (i + 1) none else rns cl r (i + 1) (some i)
  | c :: r, i, some s => if cl c = 0 then (s, i) :: rns cl r (i + 1) none else rns cl r (i + 1) (some s)

theorem rns_len (cl : Int → Int) (l : List Int) (i : Nat) (s : Option Nat) : (rns cl l i s).length ≤ l.length + 1 := by
  induction l generalizing i s with
  | nil => cases s <;> simp [rns]
  | cons c r ih =>
    cases s with
    | none =>
      simp only [rns]
      split
      · have := ih (i + 1) none; simp; omega
      · have := ih (i + 1) (some i); simp; omega
    | some s =>
      simp only [rns]
      split
      · have := ih (i + 1) none; simp; omega
      · have := ih (i + 1) (some s); simp; omega

theorem rns_len0 (cl : Int → Int) (l : List Int) (i : Nat) : (rns cl l i none).length ≤ l.length := by
  induction l generalizing i with
  | nil => simp [rns]
  | cons c r ih =>
    simp only [rns]
    split
    · have := ih (i + 1); simp; omega
    · have := rns_len cl r (i + 1) (some i); simp; omega

/-- the value of the variable that holds the beginning of a run -/
def stv : Option Nat → Int
  | none => -1
  | some s => s

theorem rns_step (cl : Int → Int) (l : List Int) (k : Nat) (h : k < l.length) (s : Option Nat) :
    rns cl (l.drop k) k s = match s with
      | none => if cl l[k] = 0 then rns cl (l.drop (k + 1)) (k + 1) none else rns cl (l.drop (k + 1)) (k + 1) (some k)
      | some s => if cl l[k] = 0 then (s, k) :: rns cl (l.drop (k + 1)) (k + 1) none else rns cl (l.drop (k + 1)) (k + 1) (some s) := by
  rw [List.drop_eq_getElem_cons h]
  cases s <;> rfl

theorem rns_end (cl : Int → Int) (l : List Int) (k : Nat) (h : l.length ≤ k) (s : Option Nat) : rns cl (l.drop k) k s = match s with | none => [] | some s => [(s, k)] := by
  rw [List.drop_eq_nil_of_le h]
  cases s <;> rfl

end Go.Proofs.YthagfcdleapooaaDoor
