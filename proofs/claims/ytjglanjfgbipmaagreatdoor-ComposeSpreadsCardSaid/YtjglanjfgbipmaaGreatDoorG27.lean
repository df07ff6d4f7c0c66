/- Texts that are merged into one file: Cut. -/
import Derived.Test.YtjglanjfgbipmaaGreatDoorG06
/- Parts of slices of ints. -/
namespace Go.Proofs.YtjglanjfgbipmaaGreatDoor
open Go.RowKit

/-- the address of a part of a slice -/
def subA (A : Option Addr) (a lo : Nat) : Option Addr := if a = lo then A else A.map (fun x => x.add lo)
theorem Ints.sub {w : World} {A : Option Addr} {t : List Int} (h : Ints w A t) {a lo hi : Nat} (h1 : lo ≤ hi) (h2 : hi ≤ t.length) (h3 : t.length ≤ a) : Ints w (subA A a lo) ((t.take hi).drop lo) := by
  unfold subA
  by_cases e : a = lo
  · rw [if_pos e]
    have : (t.take hi).drop lo = [] := List.drop_of_length_le (by simp; omega)
    rw [this]
    exact Sl.nil _ _
  · rw [if_neg e]
    by_cases hl : lo < hi
    · obtain ⟨b, o, rfl, hc⟩ := h.at (k := lo) (by omega)
      intro _
      refine ⟨b, o + lo, ?_, fun j u hu => ?_⟩
      · simp only [Option.map_some, Addr.add]
        split
        · next h0 => subst h0; rfl
        · rfl
      · have hj : j < hi - lo := by
          have := (List.getElem?_eq_some_iff.1 hu).1
          simp at this
          omega
        have hu2 : u = .int .i64 (t[lo + j]'(by omega)) := by
          rw [List.getElem?_map, List.getElem?_drop, List.getElem?_take, if_pos (by omega), List.getElem?_eq_getElem (by omega)] at hu
          simpa using hu.symm
        rw [hu2, Nat.add_assoc]
        exact hc (lo + j) (by omega)
    · have : (t.take hi).drop lo = [] := List.drop_of_length_le (by simp; omega)
      rw [this]
      exact Sl.nil _ _
theorem run_cut (A : Option Addr) (n a lo hi : Nat) (h1 : lo ≤ hi) (h2 : hi ≤ a) (W : World) : (Instr.sliceAt 38 (.slice A n a) (some (.int .i64 lo)) (some (.int .i64 hi)) none).run Tryz.prog W = .ok (.slice (subA A a lo) (hi - lo) (a - lo)) W := by
  have hu := Tryz.underlying38
  have he : Tryz.prog.elem 38 = 3 := by kernel_rfl
  obtain ⟨i, hi', _, hs, _⟩ := info_parts info_int
  rw [run_sliceAt_slice (h := by rw [he]; exact hu), run_slice_lh (ht := by rw [he]; exact hu) (h0 := by omega) (h1 := by omega) (h2 := by omega)]
  simp [sizeOf, typeInfo, he, hi', hs, sliced, subA]
theorem run_cutTo (A : Option Addr) (n a hi : Nat) (h2 : hi ≤ a) (W : World) : (Instr.sliceAt 38 (.slice A n a) none (some (.int .i64 hi)) none).run Tryz.prog W = .ok (.slice (subA A a 0) (hi - 0) (a - 0)) W := by
  have hu := Tryz.underlying38
  have he : Tryz.prog.elem 38 = 3 := by kernel_rfl
  obtain ⟨i, hi', _, hs, _⟩ := info_parts info_int
  rw [run_sliceAt_slice (h := by rw [he]; exact hu), run_slice_h (ht := by rw [he]; exact hu) (h0 := by omega) (h2 := by omega)]
  simp [sizeOf, typeInfo, he, hi', hs, sliced, subA]
theorem run_cutFrom (A : Option Addr) (n a lo : Nat) (h1 : lo ≤ n) (W : World) : (Instr.sliceAt 38 (.slice A n a) (some (.int .i64 lo)) none none).run Tryz.prog W = .ok (.slice (subA A a lo) (n - lo) (a - lo)) W := by
  have hu := Tryz.underlying38
  have he : Tryz.prog.elem 38 = 3 := by kernel_rfl
  obtain ⟨i, hi', _, hs, _⟩ := info_parts info_int
  rw [run_sliceAt_slice (h := by rw [he]; exact hu), run_slice_l (ht := by rw [he]; exact hu) (h0 := by omega) (h1 := by omega)]
  simp [sizeOf, typeInfo, he, hi', hs, sliced, subA]

end Go.Proofs.YtjglanjfgbipmaaGreatDoor
