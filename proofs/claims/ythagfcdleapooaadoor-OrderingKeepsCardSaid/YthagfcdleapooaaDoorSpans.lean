/- Spans as a slice of structs in memory; the class of a number; which spans are valid. Plain. -/
import Derived.Test.YthagfcdleapooaaDoorWords
namespace Go.Proofs.YthagfcdleapooaaDoor
open Go.RowKit

/-- a span: from lo to hi a value -/
structure Spn where
  lo : Int
  hi : Int
  val : Int

/-- the cells of spans -/
def flat3 (ss : List Spn) : List Value := ss.flatMap fun s => [.int .i64 s.lo, .int .i64 s.hi, .int .i64 s.val]

theorem flat3_len (ss : List Spn) : (flat3 ss).length = ss.length * 3 := by
  induction ss with
  | nil => rfl
  | cons r rs ih => simp only [flat3, List.flatMap_cons, List.length_append, List.length_cons, List.length_nil] at *; omega

theorem flat3_get (ss : List Spn) (k : Nat) (hk : k < ss.length) :
    (flat3 ss)[k * 3]? = some (.int .i64 ss[k].lo) ∧ (flat3 ss)[k * 3 + 1]? = some (.int .i64 ss[k].hi) ∧ (flat3 ss)[k * 3 + 2]? = some (.int .i64 ss[k].val) := by
  induction ss generalizing k with
  | nil => simp at hk
  | cons r rs ih =>
    cases k with
    | zero => simp [flat3]
    | succ k =>
      have := ih k (by simpa using hk)
      simp only [flat3, List.flatMap_cons, List.cons_append, List.nil_append, List.getElem_cons_succ] at *
      rw [show (k + 1) * 3 = k * 3 + 1 + 1 + 1 by omega]
      simpa using this

/-- the slice at A holds the spans ss -/
def Spans (w : World) (A : Option Addr) (ss : List Spn) : Prop := Sl w A (flat3 ss)

theorem Spans.at {w : World} {A : Option Addr} {ss : List Spn} (h : Spans w A ss) {k : Nat} (hk : k < ss.length) :
    ∃ b o, A = some ⟨b, o, none⟩ ∧ b < w.heap.size ∧ ∀ j, (hj : j < ss.length) → w.cell? ⟨b, o + j * 3, none⟩ = some (.int .i64 ss[j].lo) ∧ w.cell? ⟨b, o + j * 3 + 1, none⟩ = some (.int .i64 ss[j].hi) ∧
      w.cell? ⟨b, o + j * 3 + 2, none⟩ = some (.int .i64 ss[j].val) := by
  obtain ⟨b, o, rfl, hc⟩ := Sl.at h (k := k * 3) (by rw [flat3_len]; omega)
  refine ⟨b, o, rfl, World.block_lt_of_cell? w _ (hc _ _ (flat3_get ss k hk).1), fun j hj => ⟨?_, ?_, ?_⟩⟩
  · exact hc _ _ (flat3_get ss j hj).1
  · exact hc _ _ (flat3_get ss j hj).2.1
  · exact hc _ _ (flat3_get ss j hj).2.2

theorem Spans.below {w w' : World} {A : Option Addr} {ss : List Spn} (h : Spans w A ss) (hb : Below w.heap.size w w') : Spans w' A ss := Sl.below h hb
theorem Spans.keep {w w' : World} {A : Option Addr} {ss : List Spn} (h : Spans w A ss) (hb : ∀ p : Addr, p.block < w.heap.size → w'.cell? p = w.cell? p) : Spans w' A ss := Sl.keep h hb

/-- the class of a number: the value of the first span that holds it -/
def cls (ss : List Spn) (c : Int) : Int :=
  match ss with
  | [] => 0
  | s :: r => if s.lo ≤ c ∧ c ≤ s.hi then s.val else cls r c

/-- the spans ascend and are disjoint -/
def Asc (ss : List Spn) : Prop := ∀ i j, (hi : i < ss.length) → (hj : j < ss.length) → (ss[i].lo ≤ ss[i].hi) ∧ (i < j → ss[i].hi < ss[j].lo)

theorem cls_at (ss : List Spn) (c : Int) (i : Nat) (hi : i < ss.length) (h : Asc ss) (h1 : ss[i].lo ≤ c) (h2 : c ≤ ss[i].hi) : cls ss c = ss[i].val := by
  induction ss generalizing i with
  | nil => simp at hi
  | cons s r ih =>
    cases i with
    | zero => simp only [List.getElem_cons_zero] at *; unfold cls; rw [if_pos ⟨h1, h2⟩]
    | succ i =>
      have hlt := (h 0 (i + 1) (by simp) hi).2 (by omega)
      simp only [List.getElem_cons_zero, List.getElem_cons_succ] at *
      unfold cls
      rw [if_neg (by omega)]
      refine ih i (by simpa using hi) (fun a b ha hb => ?_) h1 h2
      have := h (a + 1) (b + 1) (by simpa using ha) (by simpa using hb)
      simp only [List.getElem_cons_succ] at this
      exact ⟨this.1, fun hab => this.2 (by omega)⟩

theorem cls_none (ss : List Spn) (c : Int) (h : ∀ i, (hi : i < ss.length) → ¬ (ss[i].lo ≤ c ∧ c ≤ ss[i].hi)) : cls ss c = 0 := by
  induction ss with
  | nil => rfl
  | cons s r ih =>
    unfold cls
    have h0 := h 0 (by simp)
    simp only [List.getElem_cons_zero] at h0
    rw [if_neg h0]
    exact ih fun i hi => by
      have := h (i + 1) (by simpa using hi)
      simpa using this

theorem Asc.nil : Asc [] := fun i _ hi => by simp at hi

end Go.Proofs.YthagfcdleapooaaDoor
