/- The contract of SameRanges on equal ranges, and of alive: the chapter's examples hold. -/
import Derived.Test.YthagfcdleapooaaDoorSortC
import Derived.Test.YthagfcdleapooaaDoorCompare
namespace Go.Proofs.YthagfcdleapooaaDoor
open Go.RowKit

/-- true is returned; nothing that was there has changed -/
def RetTrue (w : World) (e : Ending) (w' : World) : Prop := e = .returned (.bool true) ∧ Below w.heap.size w w'

theorem flat2_get (rs : List (Nat × Nat)) (k : Nat) (hk : k < rs.length) : (flat2 rs)[k * 2]? = some (.int .i64 (rs[k].1 : Int)) ∧ (flat2 rs)[k * 2 + 1]? = some (.int .i64 (rs[k].2 : Int)) := by
  induction rs generalizing k with
  | nil => simp at hk
  | cons r rs ih =>
    cases k with
    | zero => simp [flat2]
    | succ k =>
      have := ih k (by simpa using hk)
      simp only [flat2, List.flatMap_cons, List.cons_append, List.nil_append, List.getElem_cons_succ] at *
      rw [show (k + 1) * 2 = k * 2 + 1 + 1 by omega]
      simpa using this

/-- the cells of a range of a slice of ranges -/
theorem Sl.range {w : World} {A : Option Addr} {rs : List (Nat × Nat)} (h : Sl w A (flat2 rs)) {k : Nat} (hk : k < rs.length) :
    ∃ b o, A = some ⟨b, o, none⟩ ∧ b < w.heap.size ∧ ∀ j, (hj : j < rs.length) → w.cell? ⟨b, o + j * 2, none⟩ = some (.int .i64 (rs[j].1 : Int)) ∧ w.cell? ⟨b, o + j * 2 + 1, none⟩ = some (.int .i64 (rs[j].2 : Int)) := by
  obtain ⟨b, o, rfl, hc⟩ := Sl.at h (k := k * 2) (by rw [flat2_len]; omega)
  refine ⟨b, o, rfl, World.block_lt_of_cell? w _ (hc _ _ (flat2_get rs k hk).1), fun j hj => ⟨?_, ?_⟩⟩
  · exact hc _ _ (flat2_get rs j hj).1
  · exact hc _ _ (flat2_get rs j hj).2

set_option maxHeartbeats 800000 in
theorem SameRanges_same (A1 A2 : Option Addr) (n c1 c2 : Nat) (rs : List (Nat × Nat)) (w : World) (h1 : Sl w A1 (flat2 rs)) (h2 : Sl w A2 (flat2 rs)) (hn : rs.length = n) (hb : n ≤ 1048576) :
    Calls Tryd.prog 17 #[.slice A1 n c1, .slice A2 n c2] w (fun e w' => e = .returned (.bool true) ∧ Qt w w') := by
  subst hn
  go_enter Tryd.func17, Tryd.ntmps17
  go_wp2_with fail
  go_loopw [5] (fun i wr => ∃ k : Nat, k ≤ rs.length ∧ i = .int .i64 k ∧ Qt w wr) (fun i _ => rs.length - (intOf i).toNat)
  case atStart => exact ⟨0, Nat.zero_le _, rfl, Qt.refl _⟩
  case round =>
    obtain ⟨k, hk, rfl, q, rfl⟩ := hrel
    by_cases hlt : k < rs.length
    · obtain ⟨b1, o1, rfl, hl1, hcell1⟩ := h1.range hlt
      obtain ⟨b2, o2, rfl, hl2, hcell2⟩ := h2.range hlt
      obtain ⟨x1, x2⟩ := hcell1 k hlt
      obtain ⟨y1, y2⟩ := hcell2 k hlt
      clear hcell1 hcell2
      generalize rs[k].1 = p at *
      generalize rs[k].2 = p' at *
      go_wp2
      go_quiet (fail)
      go_wp2
      go_roundw
      case rel => exact ⟨k + 1, by omega, by go_num, by repeat (first | exact Qt.refl _ | refine Qt.drewN ?_ _)⟩
      case measure => simp [intOf]; omega
    · go_wp2_with fail
      go_ret
      exact ⟨rfl, by repeat (first | exact Qt.refl _ | refine Qt.drewN ?_ _)⟩

/-- the spans of the chapter's examples -/
def exS : List Spn := [⟨0x301, 0x302, 230⟩, ⟨0x323, 0x323, 220⟩]
theorem ex_sort1 : Can.srt (clz exS) [0x61, 0x301, 0x323] = [0x61, 0x323, 0x301] := by decide
theorem ex_sort2 : Can.srt (clz exS) [0x302, 0x301, 0x323] = [0x323, 0x302, 0x301] := by decide
theorem ex_class : clz exS 0x302 = 230 := by decide
theorem ex_runs : rns (clz exS) [0x61, 0x301, 0x323] 0 none = [(1, 3)] := by decide

set_option maxRecDepth 100000 in
set_option maxHeartbeats 1600000 in
theorem alive_any (w : World) (hL : Laid w) : Calls Tryd.prog 15 #[] w (RetTrue w) := by
  have C1 := Lib.hid (fun (W : World) B x hS hT hL => Sort_any (some ⟨B, 0, none⟩) 2 2 exS (some ⟨x, 0, none⟩) 3 3 [0x61, 0x301, 0x323] W hS hT rfl rfl (by omega) (by omega) hL)
  rw [ex_sort1] at C1
  have C2 := Lib.hid (fun (W : World) B x hS hT hL => Sort_any (some ⟨B, 0, none⟩) 2 2 exS (some ⟨x, 0, none⟩) 3 3 [0x302, 0x301, 0x323] W hS hT rfl rfl (by omega) (by omega) hL)
  rw [ex_sort2] at C2
  have C3 := Lib.hid (fun (W : World) B hS hL => Class_any (some ⟨B, 0, none⟩) 2 2 exS 0x302 W hS rfl (by omega) hL)
  rw [ex_class] at C3
  have C4 := Lib.hid (fun (W : World) B x hS hT hL => Runs_any (some ⟨B, 0, none⟩) 2 2 exS (some ⟨x, 0, none⟩) 3 3 [0x61, 0x301, 0x323] W hS hT rfl rfl (by omega) (by omega) hL)
  rw [ex_runs] at C4
  go_enter Tryd.func15, Tryd.ntmps15
  go_wp2_with fail
  have hS1 : Spans (w.alloc (.cells #[.int .i64 0x301, .int .i64 0x302, .int .i64 230, .int .i64 0x323, .int .i64 0x323, .int .i64 220] 44)) (some ⟨w.heap.size, 0, none⟩) exS := Sl_new w (flat3 exS) _ rfl
  have B1 : Below w.heap.size w (w.alloc (.cells #[.int .i64 0x301, .int .i64 0x302, .int .i64 230, .int .i64 0x323, .int .i64 0x323, .int .i64 220] 44)) := (Below.refl _ _).alloc (Nat.le_refl _) _
  have hL1 := hL.below B1
  obtain ⟨w1, hw1⟩ : ∃ w1, w.alloc (.cells #[.int .i64 0x301, .int .i64 0x302, .int .i64 230, .int .i64 0x323, .int .i64 0x323, .int .i64 220] 44) = w1 := ⟨_, rfl⟩
  have hz1 : w.heap.size + 1 = w1.heap.size := by rw [← hw1]; simp
  simp only [hw1] at hS1 B1 hL1 ⊢
  rw [hz1]
  clear hw1 hL
  have alw : ∀ (W : World) (o : Obj), Below W.heap.size W (W.alloc o) := fun W o => (Below.refl _ _).alloc (Nat.le_refl _) _
  have hT1 : Ints (w1.alloc (.cells #[.int .i64 0x61, .int .i64 0x301, .int .i64 0x323] 3)) (some ⟨w1.heap.size, 0, none⟩) [0x61, 0x301, 0x323] := Ints_new w1 [0x61, 0x301, 0x323] 3 rfl
  have hSa := Sl.alloc hS1 (.cells #[.int .i64 0x61, .int .i64 0x301, .int .i64 0x323] 3)
  have hLa := hL1.below (alw w1 (.cells #[.int .i64 0x61, .int .i64 0x301, .int .i64 0x323] 3))
  have C1' := C1.out _ w.heap.size w1.heap.size hSa hT1 hLa
  refine C1'.mono ?_
  rintro e w2 ⟨A2, c2, rfl, hc2, hA2, hb2⟩
  have B2 : Below w1.heap.size w1 w2 := (alw _ _).trans (hb2.mono (by simp))
  clear hb2
  go_wp2_with fail
  refine (Equal_any A2 (some ⟨w2.heap.size, 0, none⟩) 3 3 c2 3 [0x61, 0x323, 0x301] [0x61, 0x323, 0x301] _ (Sl.alloc hA2 _) (Ints_new w2 [0x61, 0x323, 0x301] 3 rfl) rfl rfl (by omega) (by omega)).mono ?_
  rintro e w3 ⟨rfl, hq3⟩
  have B3 : Below w1.heap.size w1 w3 := B2.trans (((alw _ _).trans (hq3.below.mono (by simp))).mono B2.size)
  clear hq3 hA2 hc2 B2
  go_wp2_with fail
  refine (C2.out _ w.heap.size w3.heap.size (Sl.alloc (Sl.below hS1 B3) _) (Ints_new w3 [0x302, 0x301, 0x323] 3 rfl) ((hL1.below B3).below (alw _ _))).mono ?_
  rintro e w4 ⟨A4, c4, rfl, hc4, hA4, hb4⟩
  have B4 : Below w1.heap.size w1 w4 := B3.trans (((alw _ _).trans (hb4.mono (by simp))).mono B3.size)
  clear hb4 B3
  go_wp2_with fail
  refine (Equal_any A4 (some ⟨w4.heap.size, 0, none⟩) 3 3 c4 3 [0x323, 0x302, 0x301] [0x323, 0x302, 0x301] _ (Sl.alloc hA4 _) (Ints_new w4 [0x323, 0x302, 0x301] 3 rfl) rfl rfl (by omega) (by omega)).mono ?_
  rintro e w5 ⟨rfl, hq5⟩
  have B5 : Below w1.heap.size w1 w5 := B4.trans (((alw _ _).trans (hq5.below.mono (by simp))).mono B4.size)
  clear hq5 hA4 hc4 B4
  go_wp2_with fail
  refine (C3.out _ w.heap.size (Sl.below hS1 B5) (hL1.below B5)).mono ?_
  rintro e w6 ⟨rfl, hb6⟩
  have B6 : Below w1.heap.size w1 w6 := B5.trans (hb6.mono B5.size)
  clear hb6 B5
  go_wp2_with fail
  refine (C4.out _ w.heap.size w6.heap.size (Sl.alloc (Sl.below hS1 B6) _) (Ints_new w6 [0x61, 0x301, 0x323] 3 rfl) ((hL1.below B6).below (alw _ _))).mono ?_
  rintro e w7 ⟨A7, c7, rfl, hc7, hA7, hb7⟩
  have B7 : Below w1.heap.size w1 w7 := B6.trans (((alw _ _).trans (hb7.mono (by simp))).mono B6.size)
  clear hb7 B6
  go_wp2_with fail
  refine (SameRanges_same A7 (some ⟨w7.heap.size, 0, none⟩) 1 c7 1 [(1, 3)] _ (Sl.alloc hA7 _) (Sl_new w7 (flat2 [(1, 3)]) _ rfl) rfl (by omega)).mono ?_
  rintro e w8 ⟨rfl, hq8⟩
  have B8 : Below w1.heap.size w1 w8 := B7.trans (((alw _ _).trans (hq8.below.mono (by simp))).mono B7.size)
  clear hq8 hA7 hc7 B7
  go_wp2_with fail
  go_ret
  exact ⟨rfl, B1.trans (B8.mono B1.size)⟩

end Go.Proofs.YthagfcdleapooaaDoor
