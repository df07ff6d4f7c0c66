/- A row of ints inside a block that may be written: its cells, a store into it, what else is kept. No program in sight. -/
import Derived.Test.YthagfcdleapooaaDoorWords
import Derived.Test.YthagfcdleapooaaDoorSortPlain
namespace Go.Proofs.YthagfcdleapooaaDoor
open Go.RowKit

/-- block b holds pre, then the cells cs, then post; nothing of it is frozen -/
def Blk (w : World) (b : Nat) (e : TypeId) (pre cs post : List Value) : Prop := w.heap[b]? = some (.cells (pre ++ cs ++ post).toArray e (0, 0))

/-- the ints d lie in block b from offset off on -/
def Row (w : World) (b off : Nat) (e : TypeId) (pre post : List Value) (d : List Int) : Prop := pre.length = off ∧ Blk w b e pre (d.map (Value.int .i64)) post

section
variable {w w' : World} {b off : Nat} {e : TypeId} {pre post : List Value} {d : List Int}

theorem Blk.lt {cs : List Value} (h : Blk w b e pre cs post) : b < w.heap.size := (Array.getElem?_eq_some_iff.1 h).1
theorem Row.lt (h : Row w b off e pre post d) : b < w.heap.size := Blk.lt h.2

theorem Row.cell (h : Row w b off e pre post d) {i : Nat} {x : Int} (hi : d[i]? = some x) : w.cell? ⟨b, off + i, none⟩ = some (.int .i64 x) := by
  rw [cell_of_row w b (off + i) _ e (0, 0) h.2]
  have hl : i < d.length := (List.getElem?_eq_some_iff.1 hi).1
  rw [List.getElem?_toArray, List.append_assoc, List.getElem?_append_right (by have := h.1; omega), List.getElem?_append_left (by simp; have := h.1; omega), List.getElem?_map]
  rw [show off + i - pre.length = i by have := h.1; omega, hi]
  rfl

theorem Row.frozen (h : Row w b off e pre post d) (i : Nat) : w.frozen? ⟨b, i, none⟩ = false := by
  have h2 := h.2
  unfold Blk at h2
  simp [World.frozen?, h2]

theorem Row.set (h : Row w b off e pre post d) {i : Nat} (hi : i < d.length) (v : Int) : Row (w.setCell ⟨b, off + i, none⟩ (.int .i64 v)) b off e pre post (d.set i v) := by
  refine ⟨h.1, ?_⟩
  have h2 := h.2
  have h1 := h.1
  unfold Blk at h2 ⊢
  simp only [World.setCell, Array.getElem?_modify, h2]
  simp only [if_true, Option.map_some, Option.some.injEq, Obj.cells.injEq, and_true]
  apply Array.ext'
  simp only [Option.isSome_none, Bool.false_eq_true, if_false, Array.toList_setIfInBounds, List.map_set]
  rw [List.append_assoc, List.set_append_right _ _ (by omega), List.set_append_left _ _ (by simp; omega), show off + i - pre.length = i by omega, ← List.append_assoc]

theorem Row.keep (h : Row w b off e pre post d) (hb : w'.heap[b]? = w.heap[b]?) : Row w' b off e pre post d := ⟨h.1, hb.trans h.2⟩
theorem Row.drewN (h : Row w b off e pre post d) (n : Nat) : Row (w.drewN n) b off e pre post d := h
theorem Row.drew (h : Row w b off e pre post d) : Row w.drew b off e pre post d := h
theorem Row.below (h : Row w b off e pre post d) (hb : Below w.heap.size w w') : Row w' b off e pre post d := h.keep (hb.block b h.lt)

theorem grown_refl (w : World) (r : Option Nat) : w.grownBy w r := ⟨rfl, rfl, rfl, Nat.le_refl _, fun _ _ _ => rfl⟩
theorem grown_trans {a c : World} {r : Option Nat} (h : a.grownBy w r) (g : w.grownBy c r) : a.grownBy c r :=
  ⟨g.os.trans h.os, g.tape.trans h.tape, g.output.trans h.output, Nat.le_trans h.size g.size, fun k hk hne => (g.block k (Nat.lt_of_lt_of_le hk h.size) hne).trans (h.block k hk hne)⟩
theorem grown_below {a : World} {r : Option Nat} (h : a.grownBy w r) (g : Below w.heap.size w w') : a.grownBy w' r :=
  grown_trans h ⟨g.os, g.tape, g.output, g.size, fun k hk _ => g.block k hk⟩
theorem grown_drewN {a : World} {r : Option Nat} (h : a.grownBy w r) (n : Nat) : a.grownBy (w.drewN n) r := grown_below h (below_of_drewN w n)
theorem grown_drew {a : World} {r : Option Nat} (h : a.grownBy w r) : a.grownBy w.drew r := grown_below h (below_of_drewN w 1)
theorem grown_set {a : World} (h : a.grownBy w (some b)) (i : Nat) (v : Value) : a.grownBy (w.setCell ⟨b, i, none⟩ v) (some b) :=
  grown_trans h ⟨rfl, rfl, rfl, by simp [World.setCell], fun k _ hne => Below.heap_setCell _ _ _ _ (by rintro rfl; exact hne rfl)⟩
end

end Go.Proofs.YthagfcdleapooaaDoor
