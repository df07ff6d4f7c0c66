/- The contract of awake: the chapter's example holds, so it returns true; nothing that was there has changed. -/
import Derived.Test.YtbmijknpfcnlcaaSplits
import Derived.Test.YtbmijknpfcnlcaaDecs
import Derived.Test.YtbmijknpfcnlcaaCompare
import Derived.Outline
namespace Go.Proofs.Ytbmijknpfcnlcaa
open Go.RowKit

/-- true is returned; nothing that was there has changed -/
def RetTrue (w : World) (e : Ending) (w' : World) : Prop := e = .returned (.bool true) ∧ Below w.heap.size w w'

theorem sp_example : Hg.sp [0x1100, 0x1161, 0x11A8, 0x41, 0xAC00] 0 = [(0, 3), (4, 5)] := by decide
theorem comp_example : Hg.comp 0x1100 0x1161 = (0xAC00, true) := by decide
theorem decomp_example : Hg.decomp 0xAC01 = [0x1100, 0x1161, 0x11A8] := by decide
theorem kind_example : Hg.kind 0xAC01 = 5 := by decide

set_option maxHeartbeats 800000 in
theorem awake_any (w : World) : Calls Try.prog 15 #[] w (RetTrue w) := by
  have C1 := Lib.hid (Compose_any 0x1100 0x1161)
  rw [comp_example] at C1
  have C3 := Lib.hid (Decompose_any 0xAC01)
  rw [decomp_example] at C3
  have C4 := Lib.hid (Kind_any 0xAC01)
  rw [kind_example] at C4
  go_enter Try.func15, Try.ntmps15
  go_wp2_with fail
  refine (C1.out _).mono ?_
  rintro e w1 ⟨rfl, hb1⟩
  go_wp2_with fail
  have C2 := Split_any (some ⟨w1.heap.size, 0, none⟩) 5 5 [0x1100, 0x1161, 0x11A8, 0x41, 0xAC00] _ (Ints_new w1 [0x1100, 0x1161, 0x11A8, 0x41, 0xAC00] 3 rfl) rfl (Nat.le_refl _) (by omega)
  rw [sp_example] at C2
  refine C2.mono ?_
  clear C2
  rintro e w2 ⟨A, c, rfl, hc, hA, hb2⟩
  obtain ⟨b, o, rfl, hcell⟩ := hA (by simp [flat2])
  have x1 := hcell 1 _ rfl
  have x2 := hcell 2 _ rfl
  have hlt : b < w2.heap.size := World.block_lt_of_cell? w2 _ x1
  clear hcell hA
  have B2 : Below w.heap.size w w2 := (hb1.alloc hb1.size _).trans (hb2.mono (by have := hb1.size; simp; omega))
  clear hb1 hb2
  go_wp2_with fail
  refine (C3.out _).mono ?_
  rintro e w3 ⟨A3, c3, rfl, hc3, hA3, hb3⟩
  have y1 := (hb3.cell (p := ⟨b, o + 1, none⟩) hlt).trans x1
  have y2 := (hb3.cell (p := ⟨b, o + 2, none⟩) hlt).trans x2
  have hlt3 : b < w3.heap.size := World.block_lt_of_cell? w3 _ y1
  have B3 : Below w.heap.size w w3 := B2.trans (hb3.mono B2.size)
  clear x1 x2 hlt hb3 B2
  go_wp2_with fail
  refine (Equal_any A3 (some ⟨w3.heap.size, 0, none⟩) 3 3 c3 3 [0x1100, 0x1161, 0x11A8] [0x1100, 0x1161, 0x11A8] _ (Sl.alloc hA3 _) (Ints_new w3 [0x1100, 0x1161, 0x11A8] 3 rfl) rfl rfl (by omega) (by omega)).mono ?_
  rintro e w4 ⟨rfl, q, rfl⟩
  go_wp2_with fail
  refine (C4.out _).mono ?_
  rintro e w5 ⟨rfl, rfl⟩
  go_wp2_with fail
  go_ret
  exact ⟨rfl, below_drewN (B3.alloc B3.size _) q⟩

end Go.Proofs.Ytbmijknpfcnlcaa
