/- Texts that are merged into one file: LaySortR, SetG, CpSec. -/
import Derived.Test.YtjglanjfgbipmaaGreatDoorG17
import Derived.Test.YtjglanjfgbipmaaGreatDoorG23
import Derived.Test.YtjglanjfgbipmaaGreatDoorG25
import Derived.Test.YtjglanjfgbipmaaGreatDoorG31
import Derived.Shelf.SlSortCmp.WholeK
import Derived.Test.YtjglanjfgbipmaaGreatDoorProg
/- The laying of laySortR at this program (its numbers by name). Written by gen_lay.py. -/
namespace Go.Proofs.YtjglanjfgbipmaaGreatDoor
open Go.Shelf Go.RowKit

def laySortR_ren : Ren := ⟨fun | 6 => 68 | 15 => 55 | 14 => 96 | 28 => 85 | 29 => 86 | 20 => 113 | 21 => 114 | 22 => 115 | 23 => 116 | 24 => 117 | 25 => 118 | 26 => 119 | 27 => 120 | 46 => 129 | 47 => 105 | 48 => 106 | 49 => 130 | 50 => 131 | 57 => 134 | n => n, fun | 22 => 24 | 24 => 69 | 25 => 90 | 3 => 3 | 39 => 74 | 0 => 0 | 53 => 102 | 55 => 104 | 4 => 4 | 46 => 96 | 45 => 95 | 50 => 31 | 5 => 5 | 9 => 9 | 66 => 126 | 70 => 130 | 76 => 146 | 77 => 147 | n => n, fun n => n⟩
set_option maxRecDepth 100000 in
theorem laySortR : SlLaysF0.n6 Tryz.prog laySortR_ren := {
  mixed := by kernel_rfl,
  f6 := ⟨Tryz.f68.name, by decide, Tryz.func68.trans (congrArg some (by kernel_rfl))⟩,
  f14 := ⟨Tryz.f96.name, by decide, Tryz.func96.trans (congrArg some (by kernel_rfl))⟩,
  f15 := Tryz.func55.trans (congrArg some (by kernel_rfl)),
  f20 := ⟨Tryz.f113.name, by decide, Tryz.func113.trans (congrArg some (by kernel_rfl))⟩,
  f21 := ⟨Tryz.f114.name, by decide, Tryz.func114.trans (congrArg some (by kernel_rfl))⟩,
  f22 := ⟨Tryz.f115.name, by decide, Tryz.func115.trans (congrArg some (by kernel_rfl))⟩,
  f23 := ⟨Tryz.f116.name, by decide, Tryz.func116.trans (congrArg some (by kernel_rfl))⟩,
  f24 := ⟨Tryz.f117.name, by decide, Tryz.func117.trans (congrArg some (by kernel_rfl))⟩,
  f25 := ⟨Tryz.f118.name, by decide, Tryz.func118.trans (congrArg some (by kernel_rfl))⟩,
  f26 := ⟨Tryz.f119.name, by decide, Tryz.func119.trans (congrArg some (by kernel_rfl))⟩,
  f27 := ⟨Tryz.f120.name, by decide, Tryz.func120.trans (congrArg some (by kernel_rfl))⟩,
  f28 := Tryz.func85.trans (congrArg some (by kernel_rfl)),
  f29 := Tryz.func86.trans (congrArg some (by kernel_rfl)),
  f46 := ⟨Tryz.f129.name, by decide, Tryz.func129.trans (congrArg some (by kernel_rfl))⟩,
  f47 := Tryz.func105.trans (congrArg some (by kernel_rfl)),
  f48 := Tryz.func106.trans (congrArg some (by kernel_rfl)),
  f49 := ⟨Tryz.f130.name, by decide, Tryz.func130.trans (congrArg some (by kernel_rfl))⟩,
  f50 := ⟨Tryz.f131.name, by decide, Tryz.func131.trans (congrArg some (by kernel_rfl))⟩,
  f57 := ⟨Tryz.f134.name, by decide, Tryz.func134.trans (congrArg some (by kernel_rfl))⟩,
  t0 := Tryz.underlying0,
  a0 := Tryz.isAgg0,
  z0 := Tryz.sizeOf0,
  v0 := Tryz.zeroValue0,
  t3 := Tryz.underlying3,
  a3 := Tryz.isAgg3,
  z3 := Tryz.sizeOf3,
  v3 := Tryz.zeroValue3,
  t4 := Tryz.underlying4,
  a4 := Tryz.isAgg4,
  z4 := Tryz.sizeOf4,
  v4 := Tryz.zeroValue4,
  t5 := Tryz.underlying5,
  a5 := Tryz.isAgg5,
  z5 := Tryz.sizeOf5,
  v5 := Tryz.zeroValue5,
  t9 := Tryz.underlying9,
  a9 := Tryz.isAgg9,
  z9 := Tryz.sizeOf9,
  v9 := Tryz.zeroValue9,
  t22 := Tryz.underlying24,
  a22 := Tryz.isAgg24,
  z22 := Tryz.sizeOf24,
  v22 := Tryz.zeroValue24,
  t25 := Tryz.underlying90,
  a25 := Tryz.isAgg90,
  z25 := Tryz.sizeOf90,
  v25 := Tryz.zeroValue90,
  t39 := Tryz.underlying74,
  a39 := Tryz.isAgg74,
  z39 := Tryz.sizeOf74,
  v39 := Tryz.zeroValue74,
  t45 := Tryz.underlying95,
  a45 := Tryz.isAgg95,
  z45 := Tryz.sizeOf95,
  v45 := Tryz.zeroValue95,
  t46 := Tryz.underlying96,
  a46 := Tryz.isAgg96,
  z46 := Tryz.sizeOf96,
  v46 := Tryz.zeroValue96,
  t50 := Tryz.underlying31,
  a50 := Tryz.isAgg31,
  z50 := Tryz.sizeOf31,
  v50 := Tryz.zeroValue31,
  t53 := Tryz.underlying102,
  a53 := Tryz.isAgg102,
  z53 := Tryz.sizeOf102,
  v53 := Tryz.zeroValue102,
  t55 := Tryz.underlying104,
  a55 := Tryz.isAgg104,
  z55 := Tryz.sizeOf104,
  v55 := Tryz.zeroValue104,
  t66 := Tryz.underlying126,
  a66 := Tryz.isAgg126,
  z66 := Tryz.sizeOf126,
  v66 := Tryz.zeroValue126,
  t70 := Tryz.underlying130,
  a70 := Tryz.isAgg130,
  z70 := Tryz.sizeOf130,
  v70 := Tryz.zeroValue130,
  t76 := Tryz.underlying146,
  a76 := Tryz.isAgg146,
  z76 := Tryz.sizeOf146,
  v76 := Tryz.zeroValue146,
  t77 := Tryz.underlying147,
  a77 := Tryz.isAgg147,
  z77 := Tryz.sizeOf147,
  v77 := Tryz.zeroValue147 }
end Go.Proofs.YtjglanjfgbipmaaGreatDoor
/- The contract of cpset.Make for lists of any length. Written by gen_setg.py. -/
namespace Go.Proofs.YtjglanjfgbipmaaGreatDoor
open Go.RowKit Go.Maps Go.WideMaps Go.Shelf

def cmpR (a b : Rg) : Int := orI (cmpI a.lo b.lo) (cmpI a.hi b.hi)
theorem cmpR_lt (a b : Rg) : cmpR a b < 0 ↔ (a.lo < b.lo ∨ (a.lo = b.lo ∧ a.hi < b.hi)) := by
  unfold cmpR orI cmpI
  by_cases h1 : a.lo < b.lo
  · simp [h1]
  · by_cases h2 : b.lo < a.lo
    · simp [h1, h2]; omega
    · by_cases h3 : a.hi < b.hi
      · simp [h1, h2, h3]; omega
      · by_cases h4 : b.hi < a.hi
        · simp [h1, h2, h3, h4]
        · simp [h1, h2, h3, h4]
theorem ltR (a b : Rg) : ltOf cmpR a b = true ↔ (a.lo < b.lo ∨ (a.lo = b.lo ∧ a.hi < b.hi)) := by unfold ltOf; rw [decide_eq_true_eq, cmpR_lt]
theorem ltR_no (a b : Rg) : ltOf cmpR a b = false ↔ ¬ (a.lo < b.lo ∨ (a.lo = b.lo ∧ a.hi < b.hi)) := by rw [← ltR, Bool.not_eq_true]
theorem swoR : Go.Sort.SWO (ltOf cmpR) where
  irrefl x := by rw [ltR_no]; omega
  trans x y z h1 h2 := by rw [ltR] at *; omega
  ntrans x y z h1 h2 := by rw [ltR_no] at *; omega
theorem totR : ∀ x y, ltOf cmpR x y = false → ltOf cmpR y x = false → x = y := by
  rintro ⟨a, b⟩ ⟨a', b'⟩ h1 h2
  rw [ltR_no] at h1 h2
  dsimp only at h1 h2
  have e1 : a = a' := by omega
  have e2 : b = b' := by omega
  rw [e1, e2]
theorem srt_lo (l : List Rg) : (l.mergeSort fun x y => !(ltOf cmpR) y x).Pairwise (fun a b => a.lo ≤ b.lo) := by
  refine (List.pairwise_mergeSort (le := fun x y => !(ltOf cmpR) y x) ?_ ?_ l).imp ?_
  · intro a b c h1 h2
    simp only [Bool.not_eq_true', ltR_no] at *
    omega
  · intro a b
    simp only [Bool.or_eq_true, Bool.not_eq_true', ltR_no]
    omega
  · intro a b h
    simp only [Bool.not_eq_true', ltR_no] at h
    omega
theorem one_rg (x : Rg) : ∀ v ∈ Rg.cells x, v.oneCell' = true := by
  intro v hv
  simp only [Rg.cells, List.mem_cons, List.not_mem_nil, or_false] at hv
  rcases hv with rfl | rfl <;> rfl
theorem canR_ofM {rs ds out : List Rg} {b : Int} (hst : ∀ r, r ∈ ds ↔ r ∈ clipL rs) (hm : Mg ds out b) : out = canR rs :=
  canR_unique hm.ok (fun c c0 c1 => by
    rw [hm.any c, anyR_congr (ys := clipL rs) hst c]
    exact clipL_any c0 c1)

set_option maxRecDepth 100000 in
set_option maxHeartbeats 3200000 in
theorem mkCmpL_any (a b : Rg) (w : World) :
    Calls Tryz.prog 69 #[.agg (Rg.cells a).toArray, .agg (Rg.cells b).toArray] w (fun e w' => e = .returned (.int .i64 (cmpR a b)) ∧ Lays w w') := by
  unfold cmpR Rg.cells
  have L0 : Lays w ((w.alloc (.cells #[.int .i64 a.lo, .int .i64 a.hi] 69)).alloc (.cells #[.int .i64 b.lo, .int .i64 b.hi] 69)) := ((Lays.refl w).alloc _).alloc _
  have s0 : ((w.alloc (.cells #[.int .i64 a.lo, .int .i64 a.hi] 69)).alloc (.cells #[.int .i64 b.lo, .int .i64 b.hi] 69)).heap.size = w.heap.size + 2 := by simp
  have hS0 : (fun W' : World => W'.cell? ⟨w.heap.size, 0, none⟩ = some (.int .i64 a.lo) ∧ W'.cell? ⟨w.heap.size, 1, none⟩ = some (.int .i64 a.hi) ∧ W'.cell? ⟨w.heap.size + 1, 0, none⟩ = some (.int .i64 b.lo) ∧ W'.cell? ⟨w.heap.size + 1, 1, none⟩ = some (.int .i64 b.hi)) ((w.alloc (.cells #[.int .i64 a.lo, .int .i64 a.hi] 69)).alloc (.cells #[.int .i64 b.lo, .int .i64 b.hi] 69)) := by refine ⟨?_, ?_, ?_, ?_⟩ <;> simp
  have W0E : ∃ W0, ((w.alloc (.cells #[.int .i64 a.lo, .int .i64 a.hi] 69)).alloc (.cells #[.int .i64 b.lo, .int .i64 b.hi] 69)) = W0 := ⟨_, rfl⟩
  obtain ⟨al, ah⟩ := a
  obtain ⟨bl', bh⟩ := b
  dsimp only at *
  go_enter Tryz.func69, Tryz.ntmps69
  go_wp2_with fail
  obtain ⟨W0, hW0⟩ := W0E
  rw [hW0] at L0 s0 hS0 ⊢
  clear hW0
  have hx0 : w.heap.size < W0.heap.size := by omega
  have hx1 : w.heap.size + 1 < W0.heap.size := by omega
  refine wp_region_held_drew (S := fun W' => W'.cell? ⟨w.heap.size, 0, none⟩ = some (.int .i64 al) ∧ W'.cell? ⟨w.heap.size, 1, none⟩ = some (.int .i64 ah) ∧ W'.cell? ⟨w.heap.size + 1, 0, none⟩ = some (.int .i64 bl') ∧ W'.cell? ⟨w.heap.size + 1, 1, none⟩ = some (.int .i64 bh)) (by kernel_rfl) hS0 (fun hHeld => ?_)
  refine anyH_take (i := 0) (v := ?_) (some 5) rfl rfl (by kernel_rfl) (by kernel_rfl) (by kernel_rfl) (fun _ _ _ h => h) (by rfl) (by assumption) ?_ ?_
  rotate_left
  · intro w hSw; (try dsimp only at hSw); go_split_ands; go_simp; try (with_reducible rfl)
  try simp only [Act.put, List.setIfInBounds_toArray, List.set_cons_zero, List.set_cons_succ]
  refine anyH_take (i := 1) (v := ?_) (some 6) rfl rfl (by kernel_rfl) (by kernel_rfl) (by kernel_rfl) (fun _ _ _ h => h) (by rfl) (by assumption) ?_ ?_
  rotate_left
  · intro w hSw; (try dsimp only at hSw); go_split_ands; go_simp; try (with_reducible rfl)
  try simp only [Act.put, List.setIfInBounds_toArray, List.set_cons_zero, List.set_cons_succ]
  refine anyH_take (i := 2) (v := ?_) (some 7) rfl rfl (by kernel_rfl) (by kernel_rfl) (by kernel_rfl) (fun _ _ _ h => h) (by rfl) (by assumption) ?_ ?_
  rotate_left
  · intro w hSw; (try dsimp only at hSw); go_split_ands; go_simp; try (with_reducible rfl)
  try simp only [Act.put, List.setIfInBounds_toArray, List.set_cons_zero, List.set_cons_succ]
  refine anyH_take (i := 3) (v := ?_) (some 8) rfl rfl (by kernel_rfl) (by kernel_rfl) (by kernel_rfl) (fun _ _ _ h => h) (by rfl) (by assumption) ?_ ?_
  rotate_left
  · intro w hSw; (try dsimp only at hSw); go_split_ands; go_simp; try (with_reducible rfl)
  try simp only [Act.put, List.setIfInBounds_toArray, List.set_cons_zero, List.set_cons_succ]
  refine anyH_take (i := 5) (v := ?_) (some 10) rfl rfl (by kernel_rfl) (by kernel_rfl) (by kernel_rfl) (fun _ _ _ h => h) (by rfl) (by assumption) ?_ ?_
  rotate_left
  · intro w hSw; (try dsimp only at hSw); go_split_ands; go_simp; try (with_reducible rfl)
  try simp only [Act.put, List.setIfInBounds_toArray, List.set_cons_zero, List.set_cons_succ]
  refine anyH_take (i := 6) (v := ?_) (some 11) rfl rfl (by kernel_rfl) (by kernel_rfl) (by kernel_rfl) (fun _ _ _ h => h) (by rfl) (by assumption) ?_ ?_
  rotate_left
  · intro w hSw; (try dsimp only at hSw); go_split_ands; go_simp; try (with_reducible rfl)
  try simp only [Act.put, List.setIfInBounds_toArray, List.set_cons_zero, List.set_cons_succ]
  refine anyH_take (i := 7) (v := ?_) (some 12) rfl rfl (by kernel_rfl) (by kernel_rfl) (by kernel_rfl) (fun _ _ _ h => h) (by rfl) (by assumption) ?_ ?_
  rotate_left
  · intro w hSw; (try dsimp only at hSw); go_split_ands; go_simp; try (with_reducible rfl)
  try simp only [Act.put, List.setIfInBounds_toArray, List.set_cons_zero, List.set_cons_succ]
  refine anyH_take (i := 8) (v := ?_) (some 13) rfl rfl (by kernel_rfl) (by kernel_rfl) (by kernel_rfl) (fun _ _ _ h => h) (by rfl) (by assumption) ?_ ?_
  rotate_left
  · intro w hSw; (try dsimp only at hSw); go_split_ands; go_simp; try (with_reducible rfl)
  try simp only [Act.put, List.setIfInBounds_toArray, List.set_cons_zero, List.set_cons_succ]
  refine anyH_callR (R := fun W' => W0.drew = W') (i := 4) (some 9) rfl rfl (by kernel_rfl) (by rfl) (by go_simp) ((cmpCompare_any al bl' W0.drew).mono (R' := fun e w' => e = .returned (.int .i64 (cmpI al bl')) ∧ _ ∧ W0.drew = w') (fun e w' ⟨he, hw⟩ => ⟨he, by subst hw; exact hHeld, hw⟩)) (fun w6 hS6 hR6 => ?_)
  subst hR6
  clear hS6
  try simp only [Act.put, List.setIfInBounds_toArray, List.set_cons_zero, List.set_cons_succ]
  refine anyH_callR (R := fun W' => W0.drew = W') (i := 9) (some 14) rfl rfl (by kernel_rfl) (by rfl) (by go_simp) ((cmpCompare_any ah bh W0.drew).mono (R' := fun e w' => e = .returned (.int .i64 (cmpI ah bh)) ∧ _ ∧ W0.drew = w') (fun e w' ⟨he, hw⟩ => ⟨he, by subst hw; exact hHeld, hw⟩)) (fun w6 hS6 hR6 => ?_)
  subst hR6
  clear hS6
  try simp only [Act.put, List.setIfInBounds_toArray, List.set_cons_zero, List.set_cons_succ]
  generalize hxx : cmpI al bl' = x at *
  generalize hyy : cmpI ah bh = y at *
  have B1 : Below W0.heap.size W0 (W0.drew.alloc (.cells #[.int .i64 x, .int .i64 y] 3)) := ((Below.refl _ _).drew).alloc (Nat.le_refl _) _
  have hS1 : (fun W' : World => W'.cell? ⟨w.heap.size, 0, none⟩ = some (.int .i64 al) ∧ W'.cell? ⟨w.heap.size, 1, none⟩ = some (.int .i64 ah) ∧ W'.cell? ⟨w.heap.size + 1, 0, none⟩ = some (.int .i64 bl') ∧ W'.cell? ⟨w.heap.size + 1, 1, none⟩ = some (.int .i64 bh)) (W0.drew.alloc (.cells #[.int .i64 x, .int .i64 y] 3)) := ⟨(B1.cell (p := ⟨w.heap.size, 0, none⟩) hx0).trans hHeld.1, (B1.cell (p := ⟨w.heap.size, 1, none⟩) hx0).trans hHeld.2.1, (B1.cell (p := ⟨w.heap.size + 1, 0, none⟩) hx1).trans hHeld.2.2.1, (B1.cell (p := ⟨w.heap.size + 1, 1, none⟩) hx1).trans hHeld.2.2.2⟩
  have I1 := Ints_new W0.drew [x, y] 3 rfl
  refine anyH_val (w' := W0.drew.alloc (.cells #[.int .i64 x, .int .i64 y] 3)) (v := .slice (some ⟨W0.drew.heap.size, 0, none⟩) 2 2) (i := 10) (some 15) rfl rfl (by kernel_rfl) (by rfl) (by go_simp) hS1 ?_
  try simp only [Act.put, List.setIfInBounds_toArray, List.set_cons_zero, List.set_cons_succ]
  refine anyH_callR (R := fun W' => W0.drew.alloc (.cells #[.int .i64 x, .int .i64 y] 3) = W') (i := 11) (some 16) rfl rfl (by kernel_rfl) (by rfl) (by go_simp) ((or2_any _ 2 x y _ I1).mono (R' := fun e w' => e = .returned (.int .i64 (orI x y)) ∧ _ ∧ W0.drew.alloc (.cells #[.int .i64 x, .int .i64 y] 3) = w') (fun e w' ⟨he, hw⟩ => ⟨he, by subst hw; exact hS1, hw⟩)) (fun w6 hS6 hR6 => ?_)
  subst hR6
  try simp only [Act.put, List.setIfInBounds_toArray, List.set_cons_zero, List.set_cons_succ]
  refine anyH_take (i := 12) (v := ?_) (some 4) rfl rfl (by kernel_rfl) (by kernel_rfl) (by kernel_rfl) (fun _ _ _ h => h) (by rfl) (by assumption) ?_ ?_
  rotate_left
  · intro w hSw; (try dsimp only at hSw); go_split_ands; go_simp; try (with_reducible rfl)
  try simp only [Act.put, List.setIfInBounds_toArray, List.set_cons_zero, List.set_cons_succ]
  refine wpAnyH_done (by kernel_rfl) ?_ _
  go_wp2_with fail
  go_ret
  subst hxx
  subst hyy
  exact ⟨rfl, L0.drew.alloc _⟩

set_option maxRecDepth 100000 in
set_option maxHeartbeats 12800000 in
theorem cpMakeN_any (A : Option Addr) (n a : Nat) (rs : List Rg) (w : World) (hA : Rgs w A rs) (hn : rs.length = n) (hz : n ≤ 1048576) :
    Calls Tryz.prog 48 #[.slice A n a] w (RetSet (canR rs) w) := by
  subst hn
  have B0 : Below w.heap.size w (w.alloc (.cells #[.slice none 0 0] 26)) := (Below.refl _ _).alloc (Nat.le_refl _) _
  have X0 : Box (w.alloc (.cells #[.slice none 0 0] 26)) w.heap.size 26 [.slice none 0 0] := Box.new _ _ _ rfl
  have s0 : (w.alloc (.cells #[.slice none 0 0] 26)).heap.size = w.heap.size + 1 := by simp
  have W0E : ∃ W0, (w.alloc (.cells #[.slice none 0 0] 26)) = W0 := ⟨_, rfl⟩
  have HA := Lib.hid hA
  have HCO := Lib.hid (fun ds out b h1 h2 => canR_ofM (rs := rs) (ds := ds) (out := out) (b := b) h1 h2)
  have HCL := Lib.hid (clipL_ok rs)
  have hcl := clipL_len rs
  generalize canR rs = R at *
  clear hA
  go_enter Tryz.func48, Tryz.ntmps48
  go_wp2_with fail
  obtain ⟨W0, hW0⟩ := W0E
  rw [hW0] at B0 X0 s0 ⊢
  clear hW0
  have HNIL := Lib.hid (show W0.ownsRow W0.heap.size 69 2 (.slice none 0 0) 0 ([] : List Value) from World.ownsRow_nil _ _ _ _)
  have C0 := Lib.hid (show clipL (rs.take 0) = [] from rfl)
  go_loopw [3, 13] (fun v u wr => ∃ (i : Nat) (S : Option Addr) (k : Nat), i ≤ rs.length ∧ u = .int .i64 i ∧ v = .slice S (clipL (rs.take i)).length k ∧ wr.ownsRow W0.heap.size 69 2 (.slice S (clipL (rs.take i)).length k) (clipL (rs.take i)).length (flatK Rg.cells (clipL (rs.take i))) ∧ Below W0.heap.size W0 wr) (fun _ u _ => rs.length - (intOf u).toNat)
  case atStart => exact ⟨0, none, 0, Nat.zero_le _, rfl, by rw [C0.out]; rfl, by rw [C0.out]; exact HNIL.out, Below.refl _ _⟩
  case round =>
    obtain ⟨i, S, k, hi, rfl, rfl, hown, hbr⟩ := hrel
    have HOWN := Lib.hid hown
    clear hown HNIL C0
    have hbw := B0.trans (hbr.mono B0.size)
    have hcli : (clipL (rs.take i)).length ≤ i := Nat.le_trans (clipL_len _) (List.length_take_le _ _)
    by_cases hlt : i < rs.length
    · obtain ⟨b1, o1, rfl, hbl, hcell⟩ := (HA.out.below hbw).at hlt
      obtain ⟨c1, c2⟩ := hcell i hlt
      have CT := Lib.hid (clipL_take hlt)
      have CP := Lib.hid (show clip1 rs[i] = ⟨max rs[i].lo 0, min rs[i].hi 1114111⟩ from rfl)
      clear hcell
      generalize hcc : clip1 rs[i] = cr at *
      clear hcc
      generalize rs[i] = ri at *
      generalize hL0 : clipL (rs.take i) = L0 at *
      clear hL0
      obtain ⟨rlo, rhi⟩ := ri
      obtain ⟨pl, ph⟩ := cr
      dsimp only at *
      have e0 := CP.out
      injection e0 with e1 e2
      have em : (if rlo < 0 then (0 : Int) else rlo) = pl := by rw [e1]; split <;> omega
      have eM : (if 1114111 < rhi then (1114111 : Int) else rhi) = ph := by rw [e2]; split <;> omega
      have em2 : max rlo 0 = pl := by omega
      have eM2 : min rhi 1114111 = ph := by omega
      clear e1 e2 CP
      have hn1 : ¬ b1 = wr.heap.size := by omega
      have Bp : Below wr.heap.size wr ((wr.alloc (.cells #[.int .i64 rlo, .int .i64 rhi] 69)).alloc (.cells #[.int .i64 pl, .int .i64 ph] 69)) := ((Below.refl _ _).alloc (Nat.le_refl _) _).alloc (by simp) _
      by_cases hp : pl ≤ ph
      · have q1 : decide (pl ≤ ph) = true := by simpa using hp
        have ct := CT.out
        rw [if_pos hp] at ct
        have HCT := Lib.hid ct
        have Bq : Below wr.heap.size wr (((wr.alloc (.cells #[.int .i64 rlo, .int .i64 rhi] 69)).alloc (.cells #[.int .i64 pl, .int .i64 ph] 69)).alloc (.cells #[.int .i64 pl, .int .i64 ph] 69)) := Bp.alloc Bp.size _
        have HOP := Lib.hid (own_keep HOWN.out Bq)
        have szp : W0.heap.size ≤ (((wr.alloc (.cells #[.int .i64 rlo, .int .i64 rhi] 69)).alloc (.cells #[.int .i64 pl, .int .i64 ph] 69)).alloc (.cells #[.int .i64 pl, .int .i64 ph] 69)).heap.size := Nat.le_trans hbr.size Bq.size
        have hb9 := hbr.trans (Bq.mono hbr.size)
        clear CT ct HOWN Bp Bq
        go_wp2_with (at_builtin; refine wpList_app _ _ 24 69 (.agg #[.int .i64 0, .int .i64 0]) 2 16 rfl rfl Tryz.underlying24 info_rg rfl (by decide) (by decide) rfl HOP.out rfl (Sl_new _ (Rg.cells ⟨pl, ph⟩) _ (by simp)) rfl (oneCell_rg _) (by omega) szp ?_; intro A7 c7 w7 hown7 hc7 hb7 _ _; have HO7 := Lib.hid hown7; clear hown7)
        go_roundw
        case rel => exact ⟨i + 1, A7, c7, by omega, by go_num, by rw [HCT.out, List.length_append]; rfl, by rw [HCT.out, List.length_append, flatK_append]; exact HO7.out, hb9.trans hb7⟩
        case measure => simp [intOf]; omega
      · have q1 : decide (pl ≤ ph) = false := by simpa using hp
        have ct := CT.out
        rw [if_neg hp, List.append_nil] at ct
        have HCT := Lib.hid ct
        have HOP := Lib.hid (own_keep HOWN.out Bp)
        have hb9 := hbr.trans (Bp.mono hbr.size)
        clear CT ct HOWN Bp
        go_wp2_with fail
        go_roundw
        case rel => exact ⟨i + 1, S, k, by omega, by go_num, by rw [HCT.out], by rw [HCT.out]; exact HOP.out, hb9⟩
        case measure => simp [intOf]; omega
    · rw [List.take_of_length_le (show rs.length ≤ i by omega)] at HOWN ⊢
      clear hcli
      have SRT := Lib.hid (show Calls Tryz.prog 68 #[.slice S (clipL rs).length k, .func (.func 69) #[] #[]] wr (fun e w' => e = .returned (.tuple #[]) ∧ ∃ ds, ds.length = (clipL rs).length ∧ (∀ r, r ∈ ds ↔ r ∈ clipL rs) ∧ ds.Pairwise (fun a b => a.lo ≤ b.lo) ∧ Rgs w' S ds ∧ Below W0.heap.size W0 w') by
        have : Inhabited Rg := ⟨⟨0, 0⟩⟩
        refine (sort_own (k := 2) laySortR Tryz.isAgg69 Tryz.sizeOf69 (fun _ => rfl) (by decide) one_rg cmpR swoR totR 69 #[] (enters_of Tryz.func69 (by kernel_rfl) rfl) (fun W x y => mkCmpL_any x y W) W0.heap.size 69 S k (clipL rs) wr HOWN.out (by omega)).mono (fun e w' ⟨he, ho, hg⟩ => ⟨he, _, List.length_mergeSort _, fun r => List.mem_mergeSort, srt_lo _, Sl.of_own ho, ?_⟩)
        exact hbr.grown hg hbr.size (fun b hb => ((HOWN.out).lt b hb).1))
      clear HOWN
      generalize hcl0 : clipL rs = cl at *
      clear hcl0
      go_wp2_with fail
      with_reducible refine SRT.out.mono ?_
      rintro e W2 ⟨rfl, ds, hdl, hst, hso, hds, hb2⟩
      have HDS := Lib.hid hds
      have HST := Lib.hid hst
      have HDL := Lib.hid hdl
      have HOK := Lib.hid (show ∀ r ∈ ds, clipOk r from fun r hr => HCL.out r ((hst r).1 hr))
      have HLO := Lib.hid (show ∀ i t, (hit : i < t) → (ht : t < ds.length) → (ds[i]'(by omega)).lo ≤ ds[t].lo from fun i t hit ht => List.pairwise_iff_getElem.1 hso i t (by omega) ht hit)
      rw [← hdl]
      have hdz : ds.length ≤ 1048576 := by omega
      clear SRT hds hst hso hdl
      have HNIL := Lib.hid (show W2.ownsRow W2.heap.size 69 2 (.slice none 0 0) 0 ([] : List Value) from World.ownsRow_nil _ _ _ _)
      have hb3 := B0.trans (hb2.mono B0.size)
      go_wp2_with fail
      go_loopw [7, 38] (fun v u wr => ∃ (i : Nat) (S : Option Addr) (k : Nat) (out : List Rg) (b : Int), i ≤ ds.length ∧ u = .int .i64 i ∧ v = .slice S out.length k ∧ wr.ownsRow W2.heap.size 69 2 (.slice S out.length k) out.length (flatK Rg.cells out) ∧ out.length ≤ i ∧ Mg (ds.take i) out b ∧ (∀ t, (ht : t < ds.length) → i ≤ t → b ≤ ds[t].lo) ∧ Below W2.heap.size W2 wr) (fun _ u _ => ds.length - (intOf u).toNat)
      case atStart => exact ⟨0, none, 0, [], 0, Nat.zero_le _, rfl, rfl, HNIL.out, Nat.le_refl _, Mg.nil 0, fun t ht _ => (HOK.out _ (List.getElem_mem ht)).1, Below.refl _ _⟩
      case round =>
        obtain ⟨i, S', k', out, b, hi, rfl, rfl, hown, hol, hMg, hbl', hbr2⟩ := hrel
        have HOWN := Lib.hid hown; have HMG := Lib.hid hMg; have HBL := Lib.hid hbl'
        clear hown hMg hbl' HNIL
        by_cases hlt : i < ds.length
        · obtain ⟨b1, o1, rfl, hbl, hcell⟩ := (HDS.out.below hbr2).at hlt
          obtain ⟨c1, c2⟩ := hcell i hlt
          have hclip := HOK.out ds[i] (List.getElem_mem hlt)
          have HMS := Lib.hid (show Mg (ds.take (i + 1)) (mrg out ds[i]) ds[i].lo by rw [List.take_succ_eq_append_getElem hlt]; exact HMG.out.step (HBL.out i hlt (Nat.le_refl _)) hclip)
          have HBS := Lib.hid (show ∀ t, (ht : t < ds.length) → i + 1 ≤ t → ds[i].lo ≤ ds[t].lo from fun t ht hit => HLO.out i t (by omega) ht)
          have MO := Lib.hid (fun hk x hx h => mrg_app (out := out) (q := ds[i]'hlt) (k := out.length - 1) hk (x := x) hx h)
          have MS := Lib.hid (fun hk x hx h => mrg_set (out := out) (q := ds[i]'hlt) (k := out.length - 1) hk (x := x) hx h)
          have MN := Lib.hid (fun (h : out = []) => show mrg out ds[i] = out ++ [ds[i]] by subst h; rfl)
          have HOO := Lib.hid HMG.out.ok.1
          clear hcell HMG HBL
          generalize mrg out ds[i] = M1 at *
          generalize ds[i] = q at *
          obtain ⟨qlo, qhi⟩ := q
          dsimp only at *
          unfold clipOk at hclip
          dsimp only at hclip
          have Ba : Below wr.heap.size wr (wr.alloc (.cells #[.int .i64 qlo, .int .i64 qhi] 69)) := (Below.refl _ _).alloc (Nat.le_refl _) _
          have sa : (wr.alloc (.cells #[.int .i64 qlo, .int .i64 qhi] 69)).heap.size = wr.heap.size + 1 := by simp
          have x0 : (wr.alloc (.cells #[.int .i64 qlo, .int .i64 qhi] 69)).cell? ⟨wr.heap.size, 0, none⟩ = some (.int .i64 qlo) := by simp
          have x1 : (wr.alloc (.cells #[.int .i64 qlo, .int .i64 qhi] 69)).cell? ⟨wr.heap.size, 1, none⟩ = some (.int .i64 qhi) := by simp
          have HOA := Lib.hid (own_keep HOWN.out Ba)
          have HGW := Lib.hid (show ∀ g, S' = some ⟨g, 0, none⟩ → g < wr.heap.size from fun g e => (HOWN.out.lt g (by rw [e]; rfl)).2)
          have hb4 := hbr2.trans (Ba.mono hbr2.size)
          have WaE : ∃ Wa, wr.alloc (.cells #[.int .i64 qlo, .int .i64 qhi] 69) = Wa := ⟨_, rfl⟩
          have hn1 : ¬ b1 = wr.heap.size := by omega
          clear HOWN
          go_wp2_with fail
          obtain ⟨Wa, hWa⟩ := WaE
          rw [hWa] at Ba sa x0 x1 HOA hb4 ⊢
          clear hWa c1 c2
          rcases Nat.eq_zero_or_pos out.length with hl0 | hl0
          · have hnil : out = [] := List.length_eq_zero_iff.1 hl0
            obtain rfl := MN.out hnil
            have q0 : decide ((0 : Int) < (out.length : Int)) = false := by simp [hnil]
            have q00 : decide (0 < out.length) = false := by simp [hnil]
            clear MN MO MS hnil hl0
            go_quiet (fail)
            have x0q : (Wa.drewN nq).cell? ⟨wr.heap.size, 0, none⟩ = some (.int .i64 qlo) := x0
            have x1q : (Wa.drewN nq).cell? ⟨wr.heap.size, 1, none⟩ = some (.int .i64 qhi) := x1
            have HOQ := Lib.hid (show (Wa.drewN nq).ownsRow W2.heap.size 69 2 (.slice S' out.length k') out.length (flatK Rg.cells out) from HOA.out)
            have hb5 := below_drewN hb4 nq
            have hxq : wr.heap.size < (Wa.drewN nq).heap.size := by show wr.heap.size < Wa.heap.size; omega
            clear HOA hb4 sa x0 x1
            generalize Wa.drewN nq = Wq at *
            have Bq : Below Wq.heap.size Wq (Wq.alloc (.cells #[.int .i64 qlo, .int .i64 qhi] 69)) := (Below.refl _ _).alloc (Nat.le_refl _) _
            have HOP := Lib.hid (own_keep HOQ.out Bq)
            have hb6 := hb5.trans (Bq.mono hb5.size)
            have szp : W2.heap.size ≤ (Wq.alloc (.cells #[.int .i64 qlo, .int .i64 qhi] 69)).heap.size := hb6.size
            clear HOQ Bq
            go_wp2_with (at_builtin; refine wpList_app _ _ 24 69 (.agg #[.int .i64 0, .int .i64 0]) 2 16 rfl rfl Tryz.underlying24 info_rg rfl (by decide) (by decide) rfl HOP.out rfl (Sl_new _ (Rg.cells ⟨qlo, qhi⟩) _ rfl) rfl (oneCell_rg _) (by omega) szp ?_; intro A7 c7 w7 hown7 hc7 hb7 _ _; have HO7 := Lib.hid hown7; clear hown7)
            go_roundw
            case rel => exact ⟨i + 1, A7, c7, out ++ [⟨qlo, qhi⟩], qlo, by omega, by go_num, by rw [List.length_append]; rfl, by rw [List.length_append, flatK_append]; exact HO7.out, by rw [List.length_append]; simp; omega, HMS.out, HBS.out, hb6.trans hb7⟩
            case measure => simp [intOf]; omega
          · obtain ⟨j, hj⟩ : ∃ j, out.length = j + 1 := ⟨out.length - 1, by omega⟩
            have hjx : j < out.length := by omega
            have MO := Lib.hid (fun (x : Rg) (hx : out[j]? = some x) (h : ¬ qlo ≤ x.hi + 1) => MO.out (by omega) x (by rw [show out.length - 1 = j by omega]; exact hx) (by omega))
            have MS := Lib.hid (fun (x : Rg) (hx : out[j]? = some x) (h : qlo ≤ x.hi + 1) => (MS.out (by omega) x (by rw [show out.length - 1 = j by omega]; exact hx) (by omega)))
            obtain ⟨y, hy⟩ := get_of_ltR hjx
            have hyo := HOO.out y (List.mem_of_getElem? hy)
            unfold clipOk at hyo
            obtain ⟨g, hS⟩ : ∃ g, S' = some ⟨g, 0, none⟩ := by
              rcases HOA.out.2 with ⟨_, h1⟩ | ⟨g, cap, cur, hv', _⟩
              · omega
              · injection hv' with hA' _ _; exact ⟨g, hA'⟩
            subst hS
            have gO : W2.heap.size ≤ g := (HOA.out.lt g rfl).1
            have gl : g < Wa.heap.size := (HOA.out.lt g rfl).2
            have y1 : Wa.cell? ⟨g, j * 2 + 1, none⟩ = some (.int .i64 y.hi) := by
              rw [World.ownsRow.cellAt HOA.out (j * 2 + 1) (by omega), flatK_get Rg.cells 2 (fun _ => rfl) out j 1 hjx (by omega), (List.getElem?_eq_some_iff.1 hy).2]
              rfl
            have f1 := World.ownsRow.frozenAt HOA.out (j * 2 + 1)
            have HY := Lib.hid hy
            have HJ := Lib.hid hj
            have i0 : decide ((0 : Int) < (out.length : Int)) = true := by simp; omega
            have i1 : IntKind.i64.wrap ((out.length : Int) - 1) = (j : Int) := by rw [IntWalk.i64_in _ (by omega)]; omega
            have i2 : (0 : Int) ≤ (j : Int) := by omega
            have i3 : ((j : Int)).toNat = j := by omega
            have i4 : (j : Int) < (out.length : Int) := by omega
            have i5 : IntKind.i64.wrap (y.hi + 1) = y.hi + 1 := IntWalk.i64_in _ (by omega)
            have yhi := hyo
            clear hy hj MN
            have HGB := Lib.hid (show g < wr.heap.size from HGW.out g rfl)
            by_cases hm : qlo ≤ y.hi + 1
            · have q1 : decide (qlo ≤ y.hi + 1) = true := by simpa using hm
              have HMS2 := Lib.hid (MS.out y HY.out hm)
              clear MO MS
              go_quiet (fail)
              have x0q : (Wa.drewN nq).cell? ⟨wr.heap.size, 0, none⟩ = some (.int .i64 qlo) := x0
              have x1q : (Wa.drewN nq).cell? ⟨wr.heap.size, 1, none⟩ = some (.int .i64 qhi) := x1
              have HOQ := Lib.hid (show (Wa.drewN nq).ownsRow W2.heap.size 69 2 (.slice (some ⟨g, 0, none⟩) out.length k') out.length (flatK Rg.cells out) from HOA.out)
              have hb5 := below_drewN hb4 nq
              have hxq : wr.heap.size < (Wa.drewN nq).heap.size := by show wr.heap.size < Wa.heap.size; omega
              clear HOA hb4 sa x0 x1
              have y1q : (Wa.drewN nq).cell? ⟨g, j * 2 + 1, none⟩ = some (.int .i64 y.hi) := y1
              have f1q : (Wa.drewN nq).frozen? ⟨g, j * 2 + 1, none⟩ = false := f1
              clear y1 f1
              generalize Wa.drewN nq = Wq at *
              have hgne : ¬ g = wr.heap.size := by have := HGB.out; omega
              go_wp2_with fail
              go_region
              all_goals
                have hmx : max y.hi qhi = max y.hi qhi := rfl
                have st := World.ownsRow.stored HOQ.out (j * 2 + 1) (.int .i64 (max y.hi qhi))
                rw [flatR_sethi out j _ HY.out] at st
                have HST2 := Lib.hid st.1
                have hbs := hb5.setCell (p := ⟨g, j * 2 + 1, none⟩) gO (.int .i64 (max y.hi qhi))
                have HMX := Lib.hid hmx
                clear st hmx
                go_wp2_with fail
                go_roundw
                case rel =>
                  have e0 : out.length - 1 = j := by have := HJ.out; omega
                  have e1 := HMS2.out
                  rw [e0] at e1
                  subst e1
                  refine ⟨i + 1, some ⟨g, 0, none⟩, k', out.set j ⟨y.lo, max y.hi qhi⟩, qlo, by omega, by go_num, by rw [List.length_set], ?_, by rw [List.length_set]; omega, HMS.out, HBS.out, hbs.drew⟩
                  rw [List.length_set]
                  exact HST2.out
                case measure => simp [intOf]; omega
            · have q1 : decide (qlo ≤ y.hi + 1) = false := by simpa using hm
              obtain rfl := MO.out y HY.out hm
              clear MO MS
              go_quiet (fail)
              clear i0 i1 i2 i3 i4 i5 y1 f1
              have x0q : (Wa.drewN nq).cell? ⟨wr.heap.size, 0, none⟩ = some (.int .i64 qlo) := x0
              have x1q : (Wa.drewN nq).cell? ⟨wr.heap.size, 1, none⟩ = some (.int .i64 qhi) := x1
              have HOQ := Lib.hid (show (Wa.drewN nq).ownsRow W2.heap.size 69 2 (.slice (some ⟨g, 0, none⟩) out.length k') out.length (flatK Rg.cells out) from HOA.out)
              have hb5 := below_drewN hb4 nq
              have hxq : wr.heap.size < (Wa.drewN nq).heap.size := by show wr.heap.size < Wa.heap.size; omega
              clear HOA hb4 sa x0 x1
              generalize Wa.drewN nq = Wq at *
              have Bq : Below Wq.heap.size Wq (Wq.alloc (.cells #[.int .i64 qlo, .int .i64 qhi] 69)) := (Below.refl _ _).alloc (Nat.le_refl _) _
              have HOP := Lib.hid (own_keep HOQ.out Bq)
              have hb6 := hb5.trans (Bq.mono hb5.size)
              have szp : W2.heap.size ≤ (Wq.alloc (.cells #[.int .i64 qlo, .int .i64 qhi] 69)).heap.size := hb6.size
              clear HOQ Bq
              go_wp2_with (at_builtin; refine wpList_app _ _ 24 69 (.agg #[.int .i64 0, .int .i64 0]) 2 16 rfl rfl Tryz.underlying24 info_rg rfl (by decide) (by decide) rfl HOP.out rfl (Sl_new _ (Rg.cells ⟨qlo, qhi⟩) _ rfl) rfl (oneCell_rg _) (by omega) szp ?_; intro A7 c7 w7 hown7 hc7 hb7 _ _; have HO7 := Lib.hid hown7; clear hown7)
              go_roundw
              case rel => exact ⟨i + 1, A7, c7, out ++ [⟨qlo, qhi⟩], qlo, by omega, by go_num, by rw [List.length_append]; rfl, by rw [List.length_append, flatK_append]; exact HO7.out, by rw [List.length_append]; simp; omega, HMS.out, HBS.out, hb6.trans hb7⟩
              case measure => simp [intOf]; omega
        · have hmg := HMG.out
          rw [List.take_of_length_le (show ds.length ≤ i by omega)] at hmg
          obtain rfl := HCO.out ds out b HST.out hmg
          have hb6 := hb2.trans (hbr2.mono hb2.size)
          have hb7 := B0.trans (hb6.mono B0.size)
          have X9 := X0.below hb6 X0.lt
          have z9 := X9.cell (i := 0) rfl
          have f9 := X9.free 0
          have hxr := X9.lt
          have hxw : w.heap.size < W2.heap.size := by have := hb2.size; omega
          have hbf := hb7.setCell (p := ⟨w.heap.size, 0, none⟩) (Nat.le_refl _) (.slice S' out.length k')
          have HRW := Lib.hid (Sl.of_own (own_off HOWN.out (p := ⟨w.heap.size, 0, none⟩) hxw (.slice S' out.length k')))
          have hc := own_le HOWN.out
          clear HMG hmg HOWN HCO X9
          go_wp2_with fail
          (try simp only [Exit.inBlock, Exit.then]); refine bodyPost_ret (results_pmake _ _ (b := w.heap.size) (v0 := .slice S' out.length k') rfl (by go_simp)) rfl ?_
          exact ⟨S', k', rfl, hc, HRW.out, hbf⟩

end Go.Proofs.YtjglanjfgbipmaaGreatDoor
/- The contract of compose.Second. Written by gen_cpsec.py. -/
namespace Go.Proofs.YtjglanjfgbipmaaGreatDoor
open Go.RowKit Go.Maps Go.WideMaps Go.Shelf

theorem secR_snoc (L : List (Int × Int × Int)) (t : Int × Int × Int) : secR (L ++ [t]) = secR L ++ [⟨t.2.1, t.2.1⟩] := by unfold secR; simp

set_option maxRecDepth 100000 in
set_option maxHeartbeats 6400000 in
theorem cpSecond_any (A0 : Option Addr) (n0 k0 : Nat) (A1 : Option Addr) (n1 k1 : Nat) (A2 : Option Addr) (n2 k2 : Nat) (x : Nrm) (w : World) (hN : NrmAt w A0 n0 A1 n1 A2 n2 x) (hz : NrmSz x) (hL : Laid w) (hsm : x.dec.length ≤ 40) :
    Calls Tryz.prog 27 #[.agg #[.slice A0 n0 k0, .slice A1 n1 k1, .slice A2 n2 k2]] w (fun e w' => ∃ L, PairsOk (usN x) L ∧ L.length ≤ 40 ∧ RetSet (canR (secR L)) w e w') := by
  have hB : Below w.heap.size w ((w.alloc (.cells #[.slice A0 n0 k0, .slice A1 n1 k1, .slice A2 n2 k2] 28)).alloc (.cells #[.slice none 0 0] 26)) := ((Below.refl _ _).alloc (Nat.le_refl _) _).alloc (by simp) _
  have hX : Box ((w.alloc (.cells #[.slice A0 n0 k0, .slice A1 n1 k1, .slice A2 n2 k2] 28)).alloc (.cells #[.slice none 0 0] 26)) w.heap.size 28 [.slice A0 n0 k0, .slice A1 n1 k1, .slice A2 n2 k2] := (Box.new w _ [.slice A0 n0 k0, .slice A1 n1 k1, .slice A2 n2 k2] rfl).below (B := w.heap.size + 1) ((Below.refl _ _).alloc (by simp) _) (by omega)
  have hY : Box ((w.alloc (.cells #[.slice A0 n0 k0, .slice A1 n1 k1, .slice A2 n2 k2] 28)).alloc (.cells #[.slice none 0 0] 26)) (w.heap.size + 1) 26 [.slice none 0 0] := Box.new _ _ _ (by simp)
  have W0E : ∃ W0, ((w.alloc (.cells #[.slice A0 n0 k0, .slice A1 n1 k1, .slice A2 n2 k2] 28)).alloc (.cells #[.slice none 0 0] 26)) = W0 := ⟨_, rfl⟩
  have hs0 : ((w.alloc (.cells #[.slice A0 n0 k0, .slice A1 n1 k1, .slice A2 n2 k2] 28)).alloc (.cells #[.slice none 0 0] 26)).heap.size = w.heap.size + 1 + 1 := by simp
  have hus : (usN x).dec.length ≤ 40 := by unfold usN; split; exact hsm; simp
  have UC := Lib.hid (fun W (hb : Below w.heap.size w W) => cpUsable_any A0 n0 k0 A1 n1 k1 A2 n2 k2 x W (hN.below hb) hz (hL.below hb))
  have CC := Lib.hid (fun B0 c0 B1 c1 B2 c2 W (hN : NrmAt W B0 (usN x).cls.length B1 (usN x).dec.length B2 (usN x).exc.length (usN x)) (hb : Below w.heap.size w W) => composites_any B0 _ c0 B1 _ c1 B2 _ c2 (usN x) W hN hz.us (usN_ok x) (hL.below hb))
  have HO := Lib.hid (usN_ok x)
  clear hN hz hL
  generalize usN x = y at *
  have HSO := Lib.hid (fun L acc (h : Coll (pcN y) L acc) hL => h.sorted HO.out hL)
  generalize hF : pcN y = F at *
  clear hF
  go_enter Tryz.func27, Tryz.ntmps27
  go_wp2_with fail
  obtain ⟨W0, hW0⟩ := W0E
  try rw [hW0] at hB hX hY hs0 ⊢
  clear hW0
  have hal := (Below.refl W0.heap.size W0).alloc (Nat.le_refl _) (.cells #[.int .i64 4449, .int .i64 4469, .int .i64 4520, .int .i64 4546] 69)
  have HR0 := Lib.hid (own_new (w := W0) (B := w.heap.size + 1 + 1) [.int .i64 4449, .int .i64 4469, .int .i64 4520, .int .i64 4546] 69 2 2 W0.heap.size hs0.symm rfl (Nat.le_refl _) (by omega))
  have hB1 := hB.trans (hal.mono hB.size)
  have yl := hY.lt
  have Y0 := Lib.hid hY
  have HRL : W0.heap.size < (W0.alloc (.cells #[.int .i64 4449, .int .i64 4469, .int .i64 4520, .int .i64 4546] 69)).heap.size := by simp
  clear hX hY
  have Wa : ∃ Wa, W0.alloc (.cells #[.int .i64 4449, .int .i64 4469, .int .i64 4520, .int .i64 4546] 69) = Wa := ⟨_, rfl⟩
  obtain ⟨Wa, hWa⟩ := Wa
  try rw [hWa] at hal hB1 HR0 HRL ⊢
  clear hWa
  with_reducible refine (UC.out Wa hB1).mono ?_
  rintro e W1 ⟨B0, c0, B1, c1, B2, c2, rfl, hN1, hb1⟩
  have hb := hB1.trans (hb1.mono hB1.size)
  have h01 := hal.trans (hb1.mono hal.size)
  have HR1 := Lib.hid (own_keep HR0.out hb1)
  have hl1 : W0.heap.size < W1.heap.size := by have := hb1.size; omega
  have C2 := Lib.hid (CC.out B0 c0 B1 c1 B2 c2 W1 hN1 hb)
  clear hN1 hb1 CC UC HR0 hal hB1
  go_wp2_with fail
  with_reducible refine C2.out.mono ?_
  rintro e W2 ⟨b, rfl, hM, hbb, hb2⟩
  have hb3 := hb.trans (hb2.mono hb.size)
  have h02 := h01.trans (hb2.mono h01.size)
  have HR2 := Lib.hid (own_keep HR1.out hb2)
  have hl2 : W0.heap.size < W2.heap.size := by have := hb2.size; omega
  have HM := Lib.hid hM
  have hbl := hM.lt
  clear hM hb2 C2 HR1 h01 hb
  go_wp2_with (at_range; refine wpList_mrange rfl _ _ rfl HM.out law_pair Tryz.underlying56 rfl ?_; intro w0 cnt0 hrg0 hg0 hs0')
  go_frame
  have hcn := hrg0.cnt_le
  have h03 : Below W0.heap.size W0 w0 := h02.grown hg0 h02.size (fun j hj => by cases hj)
  have HR3 := Lib.hid (HR2.out.kept hg0 (.inr (by intro e; cases e)))
  have HRG0 := Lib.hid hrg0
  have S0 := Lib.hid (show flatK Rg.cells (secR []) = [.int .i64 4449, .int .i64 4469, .int .i64 4520, .int .i64 4546] from rfl)
  clear hrg0 hg0 HR2
  go_loopw [3, 4] (fun v _ wr => ∃ (L : Int × Int → Prop) (cnt : Nat) (acc : List (Int × Int × Int)) (B : Option Addr) (c : Nat), v = .slice B (acc.length + 2) c ∧ MRange Tryz.prog 58 plit pok wr b W2.heap.size y.dec.length (pcV F) L cnt ∧ (∀ p, pok p → L p → (pcV F p).isSome = true) ∧ Coll F L acc ∧ acc.length + cnt ≤ y.dec.length ∧
      wr.ownsRow W0.heap.size 69 2 (.slice B (acc.length + 2) c) (acc.length + 2) (flatK Rg.cells (secR acc)) ∧ Below W0.heap.size W0 wr ∧ W2.heap.size + 1 ≤ wr.heap.size ∧ (∀ j, Value.ownBlock (.slice B (acc.length + 2) c) = some j → j ≠ b ∧ j ≠ W2.heap.size)) (fun _ _ wr => wr.rangeLeft b W2.heap.size)
  case atStart =>
    refine ⟨_, cnt0, [], _, _, rfl, HRG0.out, fun p _ h => h, Coll.start F, by simpa using hcn, by rw [S0.out]; exact HR3.out, h03, by omega, fun j hj => ?_⟩
    simp only [Value.ownBlock, Option.some.injEq] at hj
    omega
  case round =>
    clear h03 HRG0 hs0' HR3
    obtain ⟨L, cnt, acc, B, c, rfl, hrg, hLs, hco, hcl, hown, hbr, hsr, hne⟩ := hrel
    have HOWN := Lib.hid hown; have HCO := Lib.hid hco; have HLS := Lib.hid hLs; have HNE := Lib.hid hne
    clear hown hco hLs hne
    go_wp2_with (at_next; refine wpList_mnext (mkK := pval) rfl _ rfl hrg law_pair (fun key l h => pkey_inv h) (fun x y hx hy h => plit_inj hx hy h) HLS.out rfl ?_ ?_)
    · intro hc0 hl0
      have hSL := Lib.hid (HSO.out L acc HCO.out (fun p hp => hl0 p.1 p.2 hp))
      have hml : (acc.mergeSort fun x y => !(ltOf cmpT) y x).length = acc.length := List.length_mergeSort _
      have HRG := Lib.hid (show Rgs wr B (secR acc) from Sl.of_own HOWN.out)
      have MK := Lib.hid (cpMakeN_any B (acc.length + 2) c (secR acc) wr HRG.out (secR_len acc) (by omega))
      have HSM := Lib.hid (sec_same (L := acc) (M := acc.mergeSort fun x y => !(ltOf cmpT) y x) (fun t => List.mem_mergeSort.symm))
      generalize (acc.mergeSort fun x y => !(ltOf cmpT) y x) = M at *
      generalize hRR : canR (secR acc) = R at *
      have HML := Lib.hid (show M.length ≤ 40 from by omega)
      have HRR := Lib.hid HSM.out.symm
      clear HSM hRR hml
      go_wp2_with fail
      with_reducible refine MK.out.mono ?_
      rintro e W9 ⟨E, dd, rfl, hdd, hE, hb9⟩
      have hbr9 := hbr.trans (hb9.mono hbr.size)
      have Y9 := Y0.out.below hbr9 yl
      have c9 := Y9.cell (i := 0) rfl
      have f9 := Y9.free 0
      have HRW := Lib.hid (rgs_off (v' := .slice E R.length dd) hE Y9 (fun z => by simp))
      have hbf := (hB.trans (hbr9.mono hB.size)).setCell (p := ⟨w.heap.size + 1, 0, none⟩) (by simp) (.slice E R.length dd)
      clear hE MK HRG Y9
      go_wp2_with fail
      (try simp only [Exit.inBlock, Exit.then]); refine bodyPost_ret (results_set1 rfl _ _ (b := w.heap.size + 1) (v0 := .slice E R.length dd) rfl (by go_simp)) rfl ?_
      exact ⟨M, hSL.out, HML.out, by rw [HRR.out]; exact ⟨E, dd, rfl, hdd, HRW.out, hbf⟩⟩
    · intro p1 p2 v w1 cnt1 hp hLp hfp hrg1 hlt1 hg1 hs1 hen
      obtain ⟨cv, hFp, rfl⟩ := pcV_eq hfp
      have HCO1 := Lib.hid (HCO.out.step hp hLp hFp)
      have hLS1 := Lib.hid (fun q (hq : pok q) (h : L q ∧ q ≠ (p1, p2)) => HLS.out q hq h.1)
      have hown1 := HOWN.out.kept hg1 (by
        cases ho : Value.ownBlock (.slice B (acc.length + 2) c) with
        | none => exact .inl rfl
        | some j => exact .inr (fun e => (HNE.out j ho).2 (by injection e)))
      have HO1 := Lib.hid hown1
      have hbw1 := below_grown hbr hg1 (by omega) hbr.size
      have HR1 := Lib.hid hrg1
      clear hown1 hrg1 HOWN
      dsimp only [pval] at hen ⊢
      have HFL := Lib.hid (show flatK Rg.cells (secR (acc ++ [(p1, p2, cv)])) = flatK Rg.cells (secR acc) ++ [.int .i64 p2, .int .i64 p2] from by rw [secR_snoc, flatK_append]; rfl)
      have hsz1 : W2.heap.size + 1 ≤ w1.heap.size := by omega
      have hal : Below w1.heap.size w1 (w1.alloc (.cells #[.int .i64 p1, .int .i64 p2] 58)) := (Below.refl _ _).alloc (Nat.le_refl _) _
      have HOA := Lib.hid (own_keep HO1.out hal)
      have hszA : W2.heap.size + 1 ≤ (w1.alloc (.cells #[.int .i64 p1, .int .i64 p2] 58)).heap.size := by simp; omega
      have hbA := hbw1.trans (hal.mono hbw1.size)
      have HRA := Lib.hid (HR1.out.below hal)
      clear HO1
      go_wp2_with (at_builtin; refine wpList_app _ _ 24 69 (.agg #[.int .i64 0, .int .i64 0]) 2 16 rfl rfl Tryz.underlying24 info_rg rfl (by decide) (by decide) rfl (HOA.out.alloc _) rfl (Sl_new (w1.alloc (.cells #[.int .i64 p1, .int .i64 p2] 58)) [.int .i64 p2, .int .i64 p2] 69 (by simp <;> omega)) (by simp) (oneCell_ints [p2, p2]) (by omega) (by simp at hszA ⊢; omega) ?_; intro B1 c1' w5 hown5 hc5 hb5 hg5 hB5)
      have hal2 := (Below.refl (w1.alloc (.cells #[.int .i64 p1, .int .i64 p2] 58)).heap.size (w1.alloc (.cells #[.int .i64 p1, .int .i64 p2] 58))).alloc (Nat.le_refl _) (.cells #[.int .i64 p2, .int .i64 p2] 69)
      have hrg5 : MRange Tryz.prog 58 plit pok w5 b W2.heap.size y.dec.length (pcV F) (fun z => L z ∧ z ≠ (p1, p2)) cnt1 := (HRA.out.below hal2).kept hg5 (by
          intro e
          exact (HNE.out b (by rw [← e])).1 rfl) (by
          intro e
          exact (HNE.out W2.heap.size (by rw [← e])).2 rfl)
      have HNE5 := Lib.hid (show ∀ j, Value.ownBlock (.slice B1 (acc.length + 2 + 1) c1') = some j → j ≠ b ∧ j ≠ W2.heap.size from fun j hj => by
        rcases hB5 with h9 | h9 <;> rw [h9] at hj
        · refine HNE.out j ?_
          cases B with
          | none => simp [Value.ownBlock] at hj
          | some q => simpa [Value.ownBlock] using hj
        · simp only [Value.ownBlock, Option.some.injEq] at hj
          have := hal2.size
          constructor <;> omega)
      go_roundw
      case rel =>
        refine ⟨_, cnt1, acc ++ [(p1, p2, cv)], B1, c1', ?_, hrg5, hLS1.out, HCO1.out, by rw [List.length_append, List.length_singleton]; omega, ?_, (hbA.trans (hal2.mono hbA.size)).trans (hb5.mono (Nat.le_refl _)), by have := hb5.size; have := hal2.size; omega, ?_⟩
        · rw [List.length_append, List.length_singleton, Nat.add_right_comm]
        · rw [HFL.out, List.length_append, List.length_singleton, Nat.add_right_comm]; exact hown5
        · rw [List.length_append, List.length_singleton, Nat.add_right_comm]; exact HNE5.out
      case measure => rw [hrg5.left_eq, hrg.left_eq]; omega
end Go.Proofs.YtjglanjfgbipmaaGreatDoor
