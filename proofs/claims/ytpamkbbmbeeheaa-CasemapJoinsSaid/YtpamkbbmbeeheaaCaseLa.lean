/- The walks of the laws CasemapChecks, CasemapFinals, CasemapTexts, CasemapTitles and CasemapRefuses. Written by gen_claws.py. -/
import Derived.Test.YtpamkbbmbeeheaaCaseV
import Derived.Test.YtpamkbbmbeeheaaCaseTt
import Derived.Test.YtpamkbbmbeeheaaCaseRd
namespace Go.Proofs.Ytpamkbbmbeeheaa
open Go.RowKit Go.Maps Go.WideMaps

set_option maxRecDepth 100000 in
set_option maxHeartbeats 25600000 in
theorem CasemapChecks_any (v0 v1 v2 v3 v4 v5 : Value) (C : Cse) (w : World) (h : CaseAt w v0 v1 v2 v3 v4 v5 C) (hl : CaseLn C)  :
    Calls Try.prog 3 #[.agg #[v0, v1, v2, v3, v4, v5]] w (RetTrue w) := by
  obtain ⟨A0, n0, c0, rfl⟩ := h.lower.sl
  obtain ⟨A1, n1, c1, rfl⟩ := h.upper.sl
  obtain ⟨A2, n2, c2, rfl⟩ := h.title.sl
  obtain ⟨A3, n3, c3, rfl⟩ := h.fold.sl
  obtain ⟨A4, n4, c4, rfl⟩ := h.cased.sl
  obtain ⟨A5, n5, c5, rfl⟩ := h.ign.sl
  have B0 : Below w.heap.size w (w.alloc (.cells #[.slice A0 n0 c0, .slice A1 n1 c1, .slice A2 n2 c2, .slice A3 n3 c3, .slice A4 n4 c4, .slice A5 n5 c5] 27)) := (Below.refl _ _).alloc (Nat.le_refl _) _
  have X0 : Box (w.alloc (.cells #[.slice A0 n0 c0, .slice A1 n1 c1, .slice A2 n2 c2, .slice A3 n3 c3, .slice A4 n4 c4, .slice A5 n5 c5] 27)) w.heap.size 27 [.slice A0 n0 c0, .slice A1 n1 c1, .slice A2 n2 c2, .slice A3 n3 c3, .slice A4 n4 c4, .slice A5 n5 c5] := Box.new w 27 [.slice A0 n0 c0, .slice A1 n1 c1, .slice A2 n2 c2, .slice A3 n3 c3, .slice A4 n4 c4, .slice A5 n5 c5] rfl
  have W0E : ∃ W0, (w.alloc (.cells #[.slice A0 n0 c0, .slice A1 n1 c1, .slice A2 n2 c2, .slice A3 n3 c3, .slice A4 n4 c4, .slice A5 n5 c5] 27)) = W0 := ⟨_, rfl⟩
  have CA := Lib.hid (fun W (hb : Below w.heap.size w W) => h.below hb)
  have HL := Lib.hid hl
  have SZ := Lib.hid (smallC_sz (C := C))
  clear h hl
  go_enter Try.func3, Try.ntmps3
  go_wp2_with fail
  obtain ⟨W0, hW0⟩ := W0E
  rw [hW0] at B0 X0 ⊢
  clear hW0
  have SH := Lib.hid (fun W' (hb' : Below W0.heap.size W0 W') => show W'.cell? ⟨w.heap.size, 0, none⟩ = some (.slice A0 n0 c0) ∧ W'.cell? ⟨w.heap.size, 1, none⟩ = some (.slice A1 n1 c1) ∧ W'.cell? ⟨w.heap.size, 2, none⟩ = some (.slice A2 n2 c2) ∧ W'.cell? ⟨w.heap.size, 3, none⟩ = some (.slice A3 n3 c3) ∧ W'.cell? ⟨w.heap.size, 4, none⟩ = some (.slice A4 n4 c4) ∧ W'.cell? ⟨w.heap.size, 5, none⟩ = some (.slice A5 n5 c5) ∧ Below W0.heap.size W0 W' from ⟨(X0.below hb' X0.lt).cell (i := 0) rfl, (X0.below hb' X0.lt).cell (i := 1) rfl, (X0.below hb' X0.lt).cell (i := 2) rfl, (X0.below hb' X0.lt).cell (i := 3) rfl, (X0.below hb' X0.lt).cell (i := 4) rfl, (X0.below hb' X0.lt).cell (i := 5) rfl, hb'⟩)
  have KM := Lib.hid (fun W (hb' : Below W0.heap.size W0 W) => (smallC_any _ _ _ _ _ _ C W (CA.out W (B0.trans (hb'.mono B0.size))) HL.out).mono (R' := fun e W' => e = .returned (.bool (smallC C)) ∧ (W'.cell? ⟨w.heap.size, 0, none⟩ = some (.slice A0 n0 c0) ∧ W'.cell? ⟨w.heap.size, 1, none⟩ = some (.slice A1 n1 c1) ∧ W'.cell? ⟨w.heap.size, 2, none⟩ = some (.slice A2 n2 c2) ∧ W'.cell? ⟨w.heap.size, 3, none⟩ = some (.slice A3 n3 c3) ∧ W'.cell? ⟨w.heap.size, 4, none⟩ = some (.slice A4 n4 c4) ∧ W'.cell? ⟨w.heap.size, 5, none⟩ = some (.slice A5 n5 c5) ∧ Below W0.heap.size W0 W')) (fun e W' hh => ⟨hh.1, SH.out W' (hb'.trans (hh.2.mono hb'.size))⟩))
  have KA := Lib.hid (fun W (hb' : Below W0.heap.size W0 W) => (alive_any W).mono (R' := fun e W' => e = .returned (.bool true) ∧ (W'.cell? ⟨w.heap.size, 0, none⟩ = some (.slice A0 n0 c0) ∧ W'.cell? ⟨w.heap.size, 1, none⟩ = some (.slice A1 n1 c1) ∧ W'.cell? ⟨w.heap.size, 2, none⟩ = some (.slice A2 n2 c2) ∧ W'.cell? ⟨w.heap.size, 3, none⟩ = some (.slice A3 n3 c3) ∧ W'.cell? ⟨w.heap.size, 4, none⟩ = some (.slice A4 n4 c4) ∧ W'.cell? ⟨w.heap.size, 5, none⟩ = some (.slice A5 n5 c5) ∧ Below W0.heap.size W0 W')) (fun e W' hh => ⟨hh.1, SH.out W' (hb'.trans (hh.2.mono hb'.size))⟩))
  clear X0
  cases hs : smallC C with
  | false =>
    rw [hs] at KM
    refine wp_region_held_drew (S := fun W' => W'.cell? ⟨w.heap.size, 0, none⟩ = some (.slice A0 n0 c0) ∧ W'.cell? ⟨w.heap.size, 1, none⟩ = some (.slice A1 n1 c1) ∧ W'.cell? ⟨w.heap.size, 2, none⟩ = some (.slice A2 n2 c2) ∧ W'.cell? ⟨w.heap.size, 3, none⟩ = some (.slice A3 n3 c3) ∧ W'.cell? ⟨w.heap.size, 4, none⟩ = some (.slice A4 n4 c4) ∧ W'.cell? ⟨w.heap.size, 5, none⟩ = some (.slice A5 n5 c5) ∧ Below W0.heap.size W0 W') (by kernel_rfl) (SH.out _ ((Below.refl _ _).drew)) (fun hHeld => ?_)
    refine anyH_take (i := 0) (v := ?_) (some 3) rfl rfl (by kernel_rfl) (by kernel_rfl) (by kernel_rfl) (fun _ _ _ h => h) (by rfl) (by assumption) ?_ ?_
    rotate_left
    · intro w hSw; (try dsimp only at hSw); go_split_ands; go_simp; try (with_reducible rfl)
    try simp only [Act.put, List.setIfInBounds_toArray, List.set_cons_zero, List.set_cons_succ]
    refine anyH_call (i := 1) (some 4) rfl rfl (by kernel_rfl) (by rfl) (by go_simp) (KM.out _ hHeld.2.2.2.2.2.2) (fun W1 hS6 => ?_)
    clear hHeld
    have hHeld := hS6
    clear hS6
    try simp only [Act.put, List.setIfInBounds_toArray, List.set_cons_zero, List.set_cons_succ]
    refine anyH_take (i := 2) (v := ?_) (some 5) rfl rfl (by kernel_rfl) (by kernel_rfl) (by kernel_rfl) (fun _ _ _ h => h) (by rfl) (by assumption) ?_ ?_
    rotate_left
    · intro w hSw; (try dsimp only at hSw); go_split_ands; go_simp; try (with_reducible rfl)
    try simp only [Act.put, List.setIfInBounds_toArray, List.set_cons_zero, List.set_cons_succ]
    refine anyH_take (i := 3) (v := ?_) (some 6) rfl rfl (by kernel_rfl) (by kernel_rfl) (by kernel_rfl) (fun _ _ _ h => h) (by rfl) (by assumption) ?_ ?_
    rotate_left
    · intro w hSw; (try dsimp only at hSw); go_split_ands; go_simp; try (with_reducible rfl)
    try simp only [Act.put, List.setIfInBounds_toArray, List.set_cons_zero, List.set_cons_succ]
    refine anyH_skip (i := 4) (some 7) rfl rfl (by kernel_rfl) (by kernel_rfl) (by kernel_rfl) (fun _ _ _ h => h) (by rfl) (by assumption) ?_
    try simp only [Act.put, List.setIfInBounds_toArray, List.set_cons_zero, List.set_cons_succ]
    refine anyH_skip (i := 5) (some 8) rfl rfl (by kernel_rfl) (by kernel_rfl) (by kernel_rfl) (fun _ _ _ h => h) (by rfl) (by assumption) ?_
    try simp only [Act.put, List.setIfInBounds_toArray, List.set_cons_zero, List.set_cons_succ]
    refine anyH_skip (i := 6) (some 9) rfl rfl (by kernel_rfl) (by kernel_rfl) (by kernel_rfl) (fun _ _ _ h => h) (by rfl) (by assumption) ?_
    try simp only [Act.put, List.setIfInBounds_toArray, List.set_cons_zero, List.set_cons_succ]
    refine anyH_skip (i := 7) (some 10) rfl rfl (by kernel_rfl) (by kernel_rfl) (by kernel_rfl) (fun _ _ _ h => h) (by rfl) (by assumption) ?_
    try simp only [Act.put, List.setIfInBounds_toArray, List.set_cons_zero, List.set_cons_succ]
    refine anyH_skip (i := 8) (some 11) rfl rfl (by kernel_rfl) (by kernel_rfl) (by kernel_rfl) (fun _ _ _ h => h) (by rfl) (by assumption) ?_
    try simp only [Act.put, List.setIfInBounds_toArray, List.set_cons_zero, List.set_cons_succ]
    refine anyH_take (i := 9) (v := ?_) (some 12) rfl rfl (by kernel_rfl) (by kernel_rfl) (by kernel_rfl) (fun _ _ _ h => h) (by rfl) (by assumption) ?_ ?_
    rotate_left
    · intro w hSw; (try dsimp only at hSw); go_split_ands; go_simp; try (with_reducible rfl)
    try simp only [Act.put, List.setIfInBounds_toArray, List.set_cons_zero, List.set_cons_succ]
    refine anyH_take (i := 10) (v := ?_) (some 13) rfl rfl (by kernel_rfl) (by kernel_rfl) (by kernel_rfl) (fun _ _ _ h => h) (by rfl) (by assumption) ?_ ?_
    rotate_left
    · intro w hSw; (try dsimp only at hSw); go_split_ands; go_simp; try (with_reducible rfl)
    try simp only [Act.put, List.setIfInBounds_toArray, List.set_cons_zero, List.set_cons_succ]
    refine anyH_call (i := 11) (some 14) rfl rfl (by kernel_rfl) (by rfl) (by go_simp) (KA.out _ hHeld.2.2.2.2.2.2) (fun W2 hS6 => ?_)
    clear hHeld
    have hHeld := hS6
    clear hS6
    try simp only [Act.put, List.setIfInBounds_toArray, List.set_cons_zero, List.set_cons_succ]
    refine anyH_take (i := 12) (v := ?_) (some 15) rfl rfl (by kernel_rfl) (by kernel_rfl) (by kernel_rfl) (fun _ _ _ h => h) (by rfl) (by assumption) ?_ ?_
    rotate_left
    · intro w hSw; (try dsimp only at hSw); go_split_ands; go_simp; try (with_reducible rfl)
    try simp only [Act.put, List.setIfInBounds_toArray, List.set_cons_zero, List.set_cons_succ]
    refine anyH_take (i := 13) (v := ?_) (some 2) rfl rfl (by kernel_rfl) (by kernel_rfl) (by kernel_rfl) (fun _ _ _ h => h) (by rfl) (by assumption) ?_ ?_
    rotate_left
    · intro w hSw; (try dsimp only at hSw); go_split_ands; go_simp; try (with_reducible rfl)
    try simp only [Act.put, List.setIfInBounds_toArray, List.set_cons_zero, List.set_cons_succ]
    refine wpAnyH_done (by kernel_rfl) ?_ _
    have hb9 := B0.trans (hHeld.2.2.2.2.2.2.mono B0.size)
    clear hHeld KM KA SH
    go_wp2_with fail
    go_ret
    exact ⟨rfl, hb9⟩
  | true =>
    rw [hs] at KM
    have hz := SZ.out hs
    have KC := Lib.hid (fun W (hb' : Below W0.heap.size W0 W) => (caseCheck_any _ _ _ _ _ _ C W (CA.out W (B0.trans (hb'.mono B0.size))) hz).mono (R' := fun e W' => e = .returned (.int .i64 (caseErr C)) ∧ (W'.cell? ⟨w.heap.size, 0, none⟩ = some (.slice A0 n0 c0) ∧ W'.cell? ⟨w.heap.size, 1, none⟩ = some (.slice A1 n1 c1) ∧ W'.cell? ⟨w.heap.size, 2, none⟩ = some (.slice A2 n2 c2) ∧ W'.cell? ⟨w.heap.size, 3, none⟩ = some (.slice A3 n3 c3) ∧ W'.cell? ⟨w.heap.size, 4, none⟩ = some (.slice A4 n4 c4) ∧ W'.cell? ⟨w.heap.size, 5, none⟩ = some (.slice A5 n5 c5) ∧ Below W0.heap.size W0 W')) (fun e W' hh => ⟨hh.1, SH.out W' (hb'.trans (hh.2.mono hb'.size))⟩))
    have KR := Lib.hid (fun W (hb' : Below W0.heap.size W0 W) => (refCaseCheck_any _ _ _ _ _ _ C W (CA.out W (B0.trans (hb'.mono B0.size))) hz).mono (R' := fun e W' => e = .returned (.int .i64 (caseErr C)) ∧ (W'.cell? ⟨w.heap.size, 0, none⟩ = some (.slice A0 n0 c0) ∧ W'.cell? ⟨w.heap.size, 1, none⟩ = some (.slice A1 n1 c1) ∧ W'.cell? ⟨w.heap.size, 2, none⟩ = some (.slice A2 n2 c2) ∧ W'.cell? ⟨w.heap.size, 3, none⟩ = some (.slice A3 n3 c3) ∧ W'.cell? ⟨w.heap.size, 4, none⟩ = some (.slice A4 n4 c4) ∧ W'.cell? ⟨w.heap.size, 5, none⟩ = some (.slice A5 n5 c5) ∧ Below W0.heap.size W0 W')) (fun e W' hh => ⟨hh.1, SH.out W' (hb'.trans (hh.2.mono hb'.size))⟩))
    generalize caseErr C = ce at *
    refine wp_region_held_drew (S := fun W' => W'.cell? ⟨w.heap.size, 0, none⟩ = some (.slice A0 n0 c0) ∧ W'.cell? ⟨w.heap.size, 1, none⟩ = some (.slice A1 n1 c1) ∧ W'.cell? ⟨w.heap.size, 2, none⟩ = some (.slice A2 n2 c2) ∧ W'.cell? ⟨w.heap.size, 3, none⟩ = some (.slice A3 n3 c3) ∧ W'.cell? ⟨w.heap.size, 4, none⟩ = some (.slice A4 n4 c4) ∧ W'.cell? ⟨w.heap.size, 5, none⟩ = some (.slice A5 n5 c5) ∧ Below W0.heap.size W0 W') (by kernel_rfl) (SH.out _ ((Below.refl _ _).drew)) (fun hHeld => ?_)
    refine anyH_take (i := 0) (v := ?_) (some 3) rfl rfl (by kernel_rfl) (by kernel_rfl) (by kernel_rfl) (fun _ _ _ h => h) (by rfl) (by assumption) ?_ ?_
    rotate_left
    · intro w hSw; (try dsimp only at hSw); go_split_ands; go_simp; try (with_reducible rfl)
    try simp only [Act.put, List.setIfInBounds_toArray, List.set_cons_zero, List.set_cons_succ]
    refine anyH_call (i := 1) (some 4) rfl rfl (by kernel_rfl) (by rfl) (by go_simp) (KM.out _ hHeld.2.2.2.2.2.2) (fun W1 hS6 => ?_)
    clear hHeld
    have hHeld := hS6
    clear hS6
    try simp only [Act.put, List.setIfInBounds_toArray, List.set_cons_zero, List.set_cons_succ]
    refine anyH_take (i := 2) (v := ?_) (some 5) rfl rfl (by kernel_rfl) (by kernel_rfl) (by kernel_rfl) (fun _ _ _ h => h) (by rfl) (by assumption) ?_ ?_
    rotate_left
    · intro w hSw; (try dsimp only at hSw); go_split_ands; go_simp; try (with_reducible rfl)
    try simp only [Act.put, List.setIfInBounds_toArray, List.set_cons_zero, List.set_cons_succ]
    refine anyH_take (i := 3) (v := ?_) (some 6) rfl rfl (by kernel_rfl) (by kernel_rfl) (by kernel_rfl) (fun _ _ _ h => h) (by rfl) (by assumption) ?_ ?_
    rotate_left
    · intro w hSw; (try dsimp only at hSw); go_split_ands; go_simp; try (with_reducible rfl)
    try simp only [Act.put, List.setIfInBounds_toArray, List.set_cons_zero, List.set_cons_succ]
    refine anyH_take (i := 4) (v := ?_) (some 7) rfl rfl (by kernel_rfl) (by kernel_rfl) (by kernel_rfl) (fun _ _ _ h => h) (by rfl) (by assumption) ?_ ?_
    rotate_left
    · intro w hSw; (try dsimp only at hSw); go_split_ands; go_simp; try (with_reducible rfl)
    try simp only [Act.put, List.setIfInBounds_toArray, List.set_cons_zero, List.set_cons_succ]
    refine anyH_take (i := 6) (v := ?_) (some 9) rfl rfl (by kernel_rfl) (by kernel_rfl) (by kernel_rfl) (fun _ _ _ h => h) (by rfl) (by assumption) ?_ ?_
    rotate_left
    · intro w hSw; (try dsimp only at hSw); go_split_ands; go_simp; try (with_reducible rfl)
    try simp only [Act.put, List.setIfInBounds_toArray, List.set_cons_zero, List.set_cons_succ]
    refine anyH_call (i := 5) (some 8) rfl rfl (by kernel_rfl) (by rfl) (by go_simp) (KC.out _ hHeld.2.2.2.2.2.2) (fun W2 hS6 => ?_)
    clear hHeld
    have hHeld := hS6
    clear hS6
    try simp only [Act.put, List.setIfInBounds_toArray, List.set_cons_zero, List.set_cons_succ]
    refine anyH_call (i := 7) (some 10) rfl rfl (by kernel_rfl) (by rfl) (by go_simp) (KR.out _ hHeld.2.2.2.2.2.2) (fun W3 hS6 => ?_)
    clear hHeld
    have hHeld := hS6
    clear hS6
    try simp only [Act.put, List.setIfInBounds_toArray, List.set_cons_zero, List.set_cons_succ]
    refine anyH_take (i := 8) (v := ?_) (some 11) rfl rfl (by kernel_rfl) (by kernel_rfl) (by kernel_rfl) (fun _ _ _ h => h) (by rfl) (by assumption) ?_ ?_
    rotate_left
    · intro w hSw; (try dsimp only at hSw); go_split_ands; go_simp; try (with_reducible rfl)
    try simp only [Act.put, List.setIfInBounds_toArray, List.set_cons_zero, List.set_cons_succ]
    refine anyH_take (i := 9) (v := ?_) (some 12) rfl rfl (by kernel_rfl) (by kernel_rfl) (by kernel_rfl) (fun _ _ _ h => h) (by rfl) (by assumption) ?_ ?_
    rotate_left
    · intro w hSw; (try dsimp only at hSw); go_split_ands; go_simp; try (with_reducible rfl)
    try simp only [Act.put, List.setIfInBounds_toArray, List.set_cons_zero, List.set_cons_succ]
    refine anyH_take (i := 10) (v := ?_) (some 13) rfl rfl (by kernel_rfl) (by kernel_rfl) (by kernel_rfl) (fun _ _ _ h => h) (by rfl) (by assumption) ?_ ?_
    rotate_left
    · intro w hSw; (try dsimp only at hSw); go_split_ands; go_simp; try (with_reducible rfl)
    try simp only [Act.put, List.setIfInBounds_toArray, List.set_cons_zero, List.set_cons_succ]
    refine anyH_call (i := 11) (some 14) rfl rfl (by kernel_rfl) (by rfl) (by go_simp) (KA.out _ hHeld.2.2.2.2.2.2) (fun W4 hS6 => ?_)
    clear hHeld
    have hHeld := hS6
    clear hS6
    try simp only [Act.put, List.setIfInBounds_toArray, List.set_cons_zero, List.set_cons_succ]
    refine anyH_take (i := 12) (v := ?_) (some 15) rfl rfl (by kernel_rfl) (by kernel_rfl) (by kernel_rfl) (fun _ _ _ h => h) (by rfl) (by assumption) ?_ ?_
    rotate_left
    · intro w hSw; (try dsimp only at hSw); go_split_ands; go_simp; try (with_reducible rfl)
    try simp only [Act.put, List.setIfInBounds_toArray, List.set_cons_zero, List.set_cons_succ]
    refine anyH_take (i := 13) (v := ?_) (some 2) rfl rfl (by kernel_rfl) (by kernel_rfl) (by kernel_rfl) (fun _ _ _ h => h) (by rfl) (by assumption) ?_ ?_
    rotate_left
    · intro w hSw; (try dsimp only at hSw); go_split_ands; go_simp; try (with_reducible rfl)
    try simp only [Act.put, List.setIfInBounds_toArray, List.set_cons_zero, List.set_cons_succ]
    refine wpAnyH_done (by kernel_rfl) ?_ _
    have hb9 := B0.trans (hHeld.2.2.2.2.2.2.mono B0.size)
    clear hHeld KM KA KC KR SH
    go_wp2_with fail
    go_ret
    exact ⟨rfl, hb9⟩

set_option maxRecDepth 100000 in
set_option maxHeartbeats 25600000 in
theorem CasemapFinals_any (v0 v1 v2 v3 v4 v5 : Value) (C : Cse) (A : Option Addr) (n a : Nat) (t : List Int) (i : Int) (w : World) (h : CaseAt w v0 v1 v2 v3 v4 v5 C) (hl : CaseLn C) (hA : Ints w A t) (hn : t.length = n) (hna : n ≤ a) (haz : a ≤ 9223372036854775807) (hok : ∀ x ∈ t, iok x) :
    Calls Try.prog 4 #[.agg #[v0, v1, v2, v3, v4, v5], .slice A n a, .int .i64 i] w (RetTrue w) := by
  subst hn
  obtain ⟨A0, n0, c0, rfl⟩ := h.lower.sl
  obtain ⟨A1, n1, c1, rfl⟩ := h.upper.sl
  obtain ⟨A2, n2, c2, rfl⟩ := h.title.sl
  obtain ⟨A3, n3, c3, rfl⟩ := h.fold.sl
  obtain ⟨A4, n4, c4, rfl⟩ := h.cased.sl
  obtain ⟨A5, n5, c5, rfl⟩ := h.ign.sl
  have B0 : Below w.heap.size w (w.alloc (.cells #[.slice A0 n0 c0, .slice A1 n1 c1, .slice A2 n2 c2, .slice A3 n3 c3, .slice A4 n4 c4, .slice A5 n5 c5] 27)) := (Below.refl _ _).alloc (Nat.le_refl _) _
  have X0 : Box (w.alloc (.cells #[.slice A0 n0 c0, .slice A1 n1 c1, .slice A2 n2 c2, .slice A3 n3 c3, .slice A4 n4 c4, .slice A5 n5 c5] 27)) w.heap.size 27 [.slice A0 n0 c0, .slice A1 n1 c1, .slice A2 n2 c2, .slice A3 n3 c3, .slice A4 n4 c4, .slice A5 n5 c5] := Box.new w 27 [.slice A0 n0 c0, .slice A1 n1 c1, .slice A2 n2 c2, .slice A3 n3 c3, .slice A4 n4 c4, .slice A5 n5 c5] rfl
  have W0E : ∃ W0, (w.alloc (.cells #[.slice A0 n0 c0, .slice A1 n1 c1, .slice A2 n2 c2, .slice A3 n3 c3, .slice A4 n4 c4, .slice A5 n5 c5] 27)) = W0 := ⟨_, rfl⟩
  have CA := Lib.hid (fun W (hb : Below w.heap.size w W) => h.below hb)
  have HL := Lib.hid hl
  have HA := Lib.hid (fun W (hb' : Below w.heap.size w W) => hA.below hb')
  have HOK := Lib.hid hok
  have SZ := Lib.hid (fewT_sz (C := C) (t := t))
  clear h hl hA hok
  go_enter Try.func4, Try.ntmps4
  go_wp2_with fail
  obtain ⟨W0, hW0⟩ := W0E
  rw [hW0] at B0 X0 ⊢
  clear hW0
  have SH := Lib.hid (fun W' (hb' : Below W0.heap.size W0 W') => show W'.cell? ⟨w.heap.size, 0, none⟩ = some (.slice A0 n0 c0) ∧ W'.cell? ⟨w.heap.size, 1, none⟩ = some (.slice A1 n1 c1) ∧ W'.cell? ⟨w.heap.size, 2, none⟩ = some (.slice A2 n2 c2) ∧ W'.cell? ⟨w.heap.size, 3, none⟩ = some (.slice A3 n3 c3) ∧ W'.cell? ⟨w.heap.size, 4, none⟩ = some (.slice A4 n4 c4) ∧ W'.cell? ⟨w.heap.size, 5, none⟩ = some (.slice A5 n5 c5) ∧ Below W0.heap.size W0 W' from ⟨(X0.below hb' X0.lt).cell (i := 0) rfl, (X0.below hb' X0.lt).cell (i := 1) rfl, (X0.below hb' X0.lt).cell (i := 2) rfl, (X0.below hb' X0.lt).cell (i := 3) rfl, (X0.below hb' X0.lt).cell (i := 4) rfl, (X0.below hb' X0.lt).cell (i := 5) rfl, hb'⟩)
  have KM := Lib.hid (fun W (hb' : Below W0.heap.size W0 W) => (few_any _ _ _ _ _ _ C A t.length a t W (CA.out W (B0.trans (hb'.mono B0.size))) HL.out rfl (by omega)).mono (R' := fun e W' => e = .returned (.bool (fewT C t)) ∧ (W'.cell? ⟨w.heap.size, 0, none⟩ = some (.slice A0 n0 c0) ∧ W'.cell? ⟨w.heap.size, 1, none⟩ = some (.slice A1 n1 c1) ∧ W'.cell? ⟨w.heap.size, 2, none⟩ = some (.slice A2 n2 c2) ∧ W'.cell? ⟨w.heap.size, 3, none⟩ = some (.slice A3 n3 c3) ∧ W'.cell? ⟨w.heap.size, 4, none⟩ = some (.slice A4 n4 c4) ∧ W'.cell? ⟨w.heap.size, 5, none⟩ = some (.slice A5 n5 c5) ∧ Below W0.heap.size W0 W')) (fun e W' hh => ⟨hh.1, SH.out W' (hb'.trans (hh.2.mono hb'.size))⟩))
  have KA := Lib.hid (fun W (hb' : Below W0.heap.size W0 W) => (alive_any W).mono (R' := fun e W' => e = .returned (.bool true) ∧ (W'.cell? ⟨w.heap.size, 0, none⟩ = some (.slice A0 n0 c0) ∧ W'.cell? ⟨w.heap.size, 1, none⟩ = some (.slice A1 n1 c1) ∧ W'.cell? ⟨w.heap.size, 2, none⟩ = some (.slice A2 n2 c2) ∧ W'.cell? ⟨w.heap.size, 3, none⟩ = some (.slice A3 n3 c3) ∧ W'.cell? ⟨w.heap.size, 4, none⟩ = some (.slice A4 n4 c4) ∧ W'.cell? ⟨w.heap.size, 5, none⟩ = some (.slice A5 n5 c5) ∧ Below W0.heap.size W0 W')) (fun e W' hh => ⟨hh.1, SH.out W' (hb'.trans (hh.2.mono hb'.size))⟩))
  clear X0
  cases hs : fewT C t with
  | false =>
    rw [hs] at KM
    refine wp_region_held_drew (S := fun W' => W'.cell? ⟨w.heap.size, 0, none⟩ = some (.slice A0 n0 c0) ∧ W'.cell? ⟨w.heap.size, 1, none⟩ = some (.slice A1 n1 c1) ∧ W'.cell? ⟨w.heap.size, 2, none⟩ = some (.slice A2 n2 c2) ∧ W'.cell? ⟨w.heap.size, 3, none⟩ = some (.slice A3 n3 c3) ∧ W'.cell? ⟨w.heap.size, 4, none⟩ = some (.slice A4 n4 c4) ∧ W'.cell? ⟨w.heap.size, 5, none⟩ = some (.slice A5 n5 c5) ∧ Below W0.heap.size W0 W') (by kernel_rfl) (SH.out _ ((Below.refl _ _).drew)) (fun hHeld => ?_)
    refine anyH_take (i := 0) (v := ?_) (some 7) rfl rfl (by kernel_rfl) (by kernel_rfl) (by kernel_rfl) (fun _ _ _ h => h) (by rfl) (by assumption) ?_ ?_
    rotate_left
    · intro w hSw; (try dsimp only at hSw); go_split_ands; go_simp; try (with_reducible rfl)
    try simp only [Act.put, List.setIfInBounds_toArray, List.set_cons_zero, List.set_cons_succ]
    refine anyH_take (i := 1) (v := ?_) (some 8) rfl rfl (by kernel_rfl) (by kernel_rfl) (by kernel_rfl) (fun _ _ _ h => h) (by rfl) (by assumption) ?_ ?_
    rotate_left
    · intro w hSw; (try dsimp only at hSw); go_split_ands; go_simp; try (with_reducible rfl)
    try simp only [Act.put, List.setIfInBounds_toArray, List.set_cons_zero, List.set_cons_succ]
    refine anyH_call (i := 2) (some 9) rfl rfl (by kernel_rfl) (by rfl) (by go_simp) (KM.out _ hHeld.2.2.2.2.2.2) (fun W1 hS6 => ?_)
    clear hHeld
    have hHeld := hS6
    clear hS6
    try simp only [Act.put, List.setIfInBounds_toArray, List.set_cons_zero, List.set_cons_succ]
    refine anyH_take (i := 3) (v := ?_) (some 10) rfl rfl (by kernel_rfl) (by kernel_rfl) (by kernel_rfl) (fun _ _ _ h => h) (by rfl) (by assumption) ?_ ?_
    rotate_left
    · intro w hSw; (try dsimp only at hSw); go_split_ands; go_simp; try (with_reducible rfl)
    try simp only [Act.put, List.setIfInBounds_toArray, List.set_cons_zero, List.set_cons_succ]
    refine anyH_take (i := 4) (v := ?_) (some 11) rfl rfl (by kernel_rfl) (by kernel_rfl) (by kernel_rfl) (fun _ _ _ h => h) (by rfl) (by assumption) ?_ ?_
    rotate_left
    · intro w hSw; (try dsimp only at hSw); go_split_ands; go_simp; try (with_reducible rfl)
    try simp only [Act.put, List.setIfInBounds_toArray, List.set_cons_zero, List.set_cons_succ]
    refine anyH_skip (i := 5) (some 12) rfl rfl (by kernel_rfl) (by kernel_rfl) (by kernel_rfl) (fun _ _ _ h => h) (by rfl) (by assumption) ?_
    try simp only [Act.put, List.setIfInBounds_toArray, List.set_cons_zero, List.set_cons_succ]
    refine anyH_skip (i := 6) (some 13) rfl rfl (by kernel_rfl) (by kernel_rfl) (by kernel_rfl) (fun _ _ _ h => h) (by rfl) (by assumption) ?_
    try simp only [Act.put, List.setIfInBounds_toArray, List.set_cons_zero, List.set_cons_succ]
    refine anyH_skip (i := 7) (some 14) rfl rfl (by kernel_rfl) (by kernel_rfl) (by kernel_rfl) (fun _ _ _ h => h) (by rfl) (by assumption) ?_
    try simp only [Act.put, List.setIfInBounds_toArray, List.set_cons_zero, List.set_cons_succ]
    refine anyH_skip (i := 8) (some 15) rfl rfl (by kernel_rfl) (by kernel_rfl) (by kernel_rfl) (fun _ _ _ h => h) (by rfl) (by assumption) ?_
    try simp only [Act.put, List.setIfInBounds_toArray, List.set_cons_zero, List.set_cons_succ]
    refine anyH_skip (i := 9) (some 16) rfl rfl (by kernel_rfl) (by kernel_rfl) (by kernel_rfl) (fun _ _ _ h => h) (by rfl) (by assumption) ?_
    try simp only [Act.put, List.setIfInBounds_toArray, List.set_cons_zero, List.set_cons_succ]
    refine anyH_skip (i := 10) (some 17) rfl rfl (by kernel_rfl) (by kernel_rfl) (by kernel_rfl) (fun _ _ _ h => h) (by rfl) (by assumption) ?_
    try simp only [Act.put, List.setIfInBounds_toArray, List.set_cons_zero, List.set_cons_succ]
    refine anyH_skip (i := 11) (some 18) rfl rfl (by kernel_rfl) (by kernel_rfl) (by kernel_rfl) (fun _ _ _ h => h) (by rfl) (by assumption) ?_
    try simp only [Act.put, List.setIfInBounds_toArray, List.set_cons_zero, List.set_cons_succ]
    refine anyH_skip (i := 12) (some 19) rfl rfl (by kernel_rfl) (by kernel_rfl) (by kernel_rfl) (fun _ _ _ h => h) (by rfl) (by assumption) ?_
    try simp only [Act.put, List.setIfInBounds_toArray, List.set_cons_zero, List.set_cons_succ]
    refine anyH_skip (i := 13) (some 20) rfl rfl (by kernel_rfl) (by kernel_rfl) (by kernel_rfl) (fun _ _ _ h => h) (by rfl) (by assumption) ?_
    try simp only [Act.put, List.setIfInBounds_toArray, List.set_cons_zero, List.set_cons_succ]
    refine anyH_take (i := 14) (v := ?_) (some 21) rfl rfl (by kernel_rfl) (by kernel_rfl) (by kernel_rfl) (fun _ _ _ h => h) (by rfl) (by assumption) ?_ ?_
    rotate_left
    · intro w hSw; (try dsimp only at hSw); go_split_ands; go_simp; try (with_reducible rfl)
    try simp only [Act.put, List.setIfInBounds_toArray, List.set_cons_zero, List.set_cons_succ]
    refine anyH_take (i := 15) (v := ?_) (some 22) rfl rfl (by kernel_rfl) (by kernel_rfl) (by kernel_rfl) (fun _ _ _ h => h) (by rfl) (by assumption) ?_ ?_
    rotate_left
    · intro w hSw; (try dsimp only at hSw); go_split_ands; go_simp; try (with_reducible rfl)
    try simp only [Act.put, List.setIfInBounds_toArray, List.set_cons_zero, List.set_cons_succ]
    refine anyH_call (i := 16) (some 23) rfl rfl (by kernel_rfl) (by rfl) (by go_simp) (KA.out _ hHeld.2.2.2.2.2.2) (fun W2 hS6 => ?_)
    clear hHeld
    have hHeld := hS6
    clear hS6
    try simp only [Act.put, List.setIfInBounds_toArray, List.set_cons_zero, List.set_cons_succ]
    refine anyH_take (i := 17) (v := ?_) (some 24) rfl rfl (by kernel_rfl) (by kernel_rfl) (by kernel_rfl) (fun _ _ _ h => h) (by rfl) (by assumption) ?_ ?_
    rotate_left
    · intro w hSw; (try dsimp only at hSw); go_split_ands; go_simp; try (with_reducible rfl)
    try simp only [Act.put, List.setIfInBounds_toArray, List.set_cons_zero, List.set_cons_succ]
    refine anyH_take (i := 18) (v := ?_) (some 6) rfl rfl (by kernel_rfl) (by kernel_rfl) (by kernel_rfl) (fun _ _ _ h => h) (by rfl) (by assumption) ?_ ?_
    rotate_left
    · intro w hSw; (try dsimp only at hSw); go_split_ands; go_simp; try (with_reducible rfl)
    try simp only [Act.put, List.setIfInBounds_toArray, List.set_cons_zero, List.set_cons_succ]
    refine wpAnyH_done (by kernel_rfl) ?_ _
    have hb9 := B0.trans (hHeld.2.2.2.2.2.2.mono B0.size)
    clear hHeld KM KA SH
    go_wp2_with fail
    go_ret
    exact ⟨rfl, hb9⟩
  | true =>
    rw [hs] at KM
    obtain ⟨hz, ht⟩ := SZ.out hs
    have KC := Lib.hid (fun W (hb' : Below W0.heap.size W0 W) => (Final_any _ _ _ _ _ _ C A t.length a t i W (CA.out W (B0.trans (hb'.mono B0.size))) hz (HA.out W (B0.trans (hb'.mono B0.size))) rfl (by omega)).mono (R' := fun e W' => e = .returned (.bool (finalB (caseD C) t i)) ∧ (W'.cell? ⟨w.heap.size, 0, none⟩ = some (.slice A0 n0 c0) ∧ W'.cell? ⟨w.heap.size, 1, none⟩ = some (.slice A1 n1 c1) ∧ W'.cell? ⟨w.heap.size, 2, none⟩ = some (.slice A2 n2 c2) ∧ W'.cell? ⟨w.heap.size, 3, none⟩ = some (.slice A3 n3 c3) ∧ W'.cell? ⟨w.heap.size, 4, none⟩ = some (.slice A4 n4 c4) ∧ W'.cell? ⟨w.heap.size, 5, none⟩ = some (.slice A5 n5 c5) ∧ Below W0.heap.size W0 W')) (fun e W' hh => ⟨hh.1, SH.out W' (hb'.trans (hh.2.mono hb'.size))⟩))
    have KR := Lib.hid (fun W (hb' : Below W0.heap.size W0 W) => (refFinalB_any _ _ _ _ _ _ C A t.length a t i W (CA.out W (B0.trans (hb'.mono B0.size))) hz (HA.out W (B0.trans (hb'.mono B0.size))) rfl (by omega)).mono (R' := fun e W' => e = .returned (.bool (finalB (caseD C) t i)) ∧ (W'.cell? ⟨w.heap.size, 0, none⟩ = some (.slice A0 n0 c0) ∧ W'.cell? ⟨w.heap.size, 1, none⟩ = some (.slice A1 n1 c1) ∧ W'.cell? ⟨w.heap.size, 2, none⟩ = some (.slice A2 n2 c2) ∧ W'.cell? ⟨w.heap.size, 3, none⟩ = some (.slice A3 n3 c3) ∧ W'.cell? ⟨w.heap.size, 4, none⟩ = some (.slice A4 n4 c4) ∧ W'.cell? ⟨w.heap.size, 5, none⟩ = some (.slice A5 n5 c5) ∧ Below W0.heap.size W0 W')) (fun e W' hh => ⟨hh.1, SH.out W' (hb'.trans (hh.2.mono hb'.size))⟩))
    generalize finalB (caseD C) t i = ce at *
    have hee : (ce == ce) = true := by simp
    refine wp_region_held_drew (S := fun W' => W'.cell? ⟨w.heap.size, 0, none⟩ = some (.slice A0 n0 c0) ∧ W'.cell? ⟨w.heap.size, 1, none⟩ = some (.slice A1 n1 c1) ∧ W'.cell? ⟨w.heap.size, 2, none⟩ = some (.slice A2 n2 c2) ∧ W'.cell? ⟨w.heap.size, 3, none⟩ = some (.slice A3 n3 c3) ∧ W'.cell? ⟨w.heap.size, 4, none⟩ = some (.slice A4 n4 c4) ∧ W'.cell? ⟨w.heap.size, 5, none⟩ = some (.slice A5 n5 c5) ∧ Below W0.heap.size W0 W') (by kernel_rfl) (SH.out _ ((Below.refl _ _).drew)) (fun hHeld => ?_)
    refine anyH_take (i := 0) (v := ?_) (some 7) rfl rfl (by kernel_rfl) (by kernel_rfl) (by kernel_rfl) (fun _ _ _ h => h) (by rfl) (by assumption) ?_ ?_
    rotate_left
    · intro w hSw; (try dsimp only at hSw); go_split_ands; go_simp; try (with_reducible rfl)
    try simp only [Act.put, List.setIfInBounds_toArray, List.set_cons_zero, List.set_cons_succ]
    refine anyH_take (i := 1) (v := ?_) (some 8) rfl rfl (by kernel_rfl) (by kernel_rfl) (by kernel_rfl) (fun _ _ _ h => h) (by rfl) (by assumption) ?_ ?_
    rotate_left
    · intro w hSw; (try dsimp only at hSw); go_split_ands; go_simp; try (with_reducible rfl)
    try simp only [Act.put, List.setIfInBounds_toArray, List.set_cons_zero, List.set_cons_succ]
    refine anyH_call (i := 2) (some 9) rfl rfl (by kernel_rfl) (by rfl) (by go_simp) (KM.out _ hHeld.2.2.2.2.2.2) (fun W1 hS6 => ?_)
    clear hHeld
    have hHeld := hS6
    clear hS6
    try simp only [Act.put, List.setIfInBounds_toArray, List.set_cons_zero, List.set_cons_succ]
    refine anyH_take (i := 3) (v := ?_) (some 10) rfl rfl (by kernel_rfl) (by kernel_rfl) (by kernel_rfl) (fun _ _ _ h => h) (by rfl) (by assumption) ?_ ?_
    rotate_left
    · intro w hSw; (try dsimp only at hSw); go_split_ands; go_simp; try (with_reducible rfl)
    try simp only [Act.put, List.setIfInBounds_toArray, List.set_cons_zero, List.set_cons_succ]
    refine anyH_take (i := 4) (v := ?_) (some 11) rfl rfl (by kernel_rfl) (by kernel_rfl) (by kernel_rfl) (fun _ _ _ h => h) (by rfl) (by assumption) ?_ ?_
    rotate_left
    · intro w hSw; (try dsimp only at hSw); go_split_ands; go_simp; try (with_reducible rfl)
    try simp only [Act.put, List.setIfInBounds_toArray, List.set_cons_zero, List.set_cons_succ]
    refine anyH_take (i := 5) (v := ?_) (some 12) rfl rfl (by kernel_rfl) (by kernel_rfl) (by kernel_rfl) (fun _ _ _ h => h) (by rfl) (by assumption) ?_ ?_
    rotate_left
    · intro w hSw; (try dsimp only at hSw); go_split_ands; go_simp; try (with_reducible rfl)
    try simp only [Act.put, List.setIfInBounds_toArray, List.set_cons_zero, List.set_cons_succ]
    refine anyH_take (i := 6) (v := ?_) (some 13) rfl rfl (by kernel_rfl) (by kernel_rfl) (by kernel_rfl) (fun _ _ _ h => h) (by rfl) (by assumption) ?_ ?_
    rotate_left
    · intro w hSw; (try dsimp only at hSw); go_split_ands; go_simp; try (with_reducible rfl)
    try simp only [Act.put, List.setIfInBounds_toArray, List.set_cons_zero, List.set_cons_succ]
    refine anyH_take (i := 7) (v := ?_) (some 14) rfl rfl (by kernel_rfl) (by kernel_rfl) (by kernel_rfl) (fun _ _ _ h => h) (by rfl) (by assumption) ?_ ?_
    rotate_left
    · intro w hSw; (try dsimp only at hSw); go_split_ands; go_simp; try (with_reducible rfl)
    try simp only [Act.put, List.setIfInBounds_toArray, List.set_cons_zero, List.set_cons_succ]
    refine anyH_take (i := 9) (v := ?_) (some 16) rfl rfl (by kernel_rfl) (by kernel_rfl) (by kernel_rfl) (fun _ _ _ h => h) (by rfl) (by assumption) ?_ ?_
    rotate_left
    · intro w hSw; (try dsimp only at hSw); go_split_ands; go_simp; try (with_reducible rfl)
    try simp only [Act.put, List.setIfInBounds_toArray, List.set_cons_zero, List.set_cons_succ]
    refine anyH_take (i := 10) (v := ?_) (some 17) rfl rfl (by kernel_rfl) (by kernel_rfl) (by kernel_rfl) (fun _ _ _ h => h) (by rfl) (by assumption) ?_ ?_
    rotate_left
    · intro w hSw; (try dsimp only at hSw); go_split_ands; go_simp; try (with_reducible rfl)
    try simp only [Act.put, List.setIfInBounds_toArray, List.set_cons_zero, List.set_cons_succ]
    refine anyH_take (i := 11) (v := ?_) (some 18) rfl rfl (by kernel_rfl) (by kernel_rfl) (by kernel_rfl) (fun _ _ _ h => h) (by rfl) (by assumption) ?_ ?_
    rotate_left
    · intro w hSw; (try dsimp only at hSw); go_split_ands; go_simp; try (with_reducible rfl)
    try simp only [Act.put, List.setIfInBounds_toArray, List.set_cons_zero, List.set_cons_succ]
    refine anyH_call (i := 8) (some 15) rfl rfl (by kernel_rfl) (by rfl) (by go_simp) (KC.out _ hHeld.2.2.2.2.2.2) (fun W2 hS6 => ?_)
    clear hHeld
    have hHeld := hS6
    clear hS6
    try simp only [Act.put, List.setIfInBounds_toArray, List.set_cons_zero, List.set_cons_succ]
    refine anyH_call (i := 12) (some 19) rfl rfl (by kernel_rfl) (by rfl) (by go_simp) (KR.out _ hHeld.2.2.2.2.2.2) (fun W3 hS6 => ?_)
    clear hHeld
    have hHeld := hS6
    clear hS6
    try simp only [Act.put, List.setIfInBounds_toArray, List.set_cons_zero, List.set_cons_succ]
    refine anyH_take (i := 13) (v := ?_) (some 20) rfl rfl (by kernel_rfl) (by kernel_rfl) (by kernel_rfl) (fun _ _ _ h => h) (by rfl) (by assumption) ?_ ?_
    rotate_left
    · intro w hSw; (try dsimp only at hSw); go_split_ands; go_simp; try (with_reducible rfl)
    try simp only [Act.put, List.setIfInBounds_toArray, List.set_cons_zero, List.set_cons_succ]
    refine anyH_take (i := 14) (v := ?_) (some 21) rfl rfl (by kernel_rfl) (by kernel_rfl) (by kernel_rfl) (fun _ _ _ h => h) (by rfl) (by assumption) ?_ ?_
    rotate_left
    · intro w hSw; (try dsimp only at hSw); go_split_ands; go_simp; try (with_reducible rfl)
    try simp only [Act.put, List.setIfInBounds_toArray, List.set_cons_zero, List.set_cons_succ]
    refine anyH_take (i := 15) (v := ?_) (some 22) rfl rfl (by kernel_rfl) (by kernel_rfl) (by kernel_rfl) (fun _ _ _ h => h) (by rfl) (by assumption) ?_ ?_
    rotate_left
    · intro w hSw; (try dsimp only at hSw); go_split_ands; go_simp; try (with_reducible rfl)
    try simp only [Act.put, List.setIfInBounds_toArray, List.set_cons_zero, List.set_cons_succ]
    refine anyH_call (i := 16) (some 23) rfl rfl (by kernel_rfl) (by rfl) (by go_simp) (KA.out _ hHeld.2.2.2.2.2.2) (fun W4 hS6 => ?_)
    clear hHeld
    have hHeld := hS6
    clear hS6
    try simp only [Act.put, List.setIfInBounds_toArray, List.set_cons_zero, List.set_cons_succ]
    refine anyH_take (i := 17) (v := ?_) (some 24) rfl rfl (by kernel_rfl) (by kernel_rfl) (by kernel_rfl) (fun _ _ _ h => h) (by rfl) (by assumption) ?_ ?_
    rotate_left
    · intro w hSw; (try dsimp only at hSw); go_split_ands; go_simp; try (with_reducible rfl)
    try simp only [Act.put, List.setIfInBounds_toArray, List.set_cons_zero, List.set_cons_succ]
    refine anyH_take (i := 18) (v := ?_) (some 6) rfl rfl (by kernel_rfl) (by kernel_rfl) (by kernel_rfl) (fun _ _ _ h => h) (by rfl) (by assumption) ?_ ?_
    rotate_left
    · intro w hSw; (try dsimp only at hSw); go_split_ands; go_simp; try (with_reducible rfl)
    try simp only [Act.put, List.setIfInBounds_toArray, List.set_cons_zero, List.set_cons_succ]
    refine wpAnyH_done (by kernel_rfl) ?_ _
    have hb9 := B0.trans (hHeld.2.2.2.2.2.2.mono B0.size)
    clear hHeld KM KA KC KR SH
    go_wp2_with fail
    go_ret
    exact ⟨rfl, hb9⟩

set_option maxRecDepth 100000 in
set_option maxHeartbeats 25600000 in
theorem CasemapTexts_any (v0 v1 v2 v3 v4 v5 : Value) (C : Cse) (A : Option Addr) (n a : Nat) (t : List Int) (w : World) (h : CaseAt w v0 v1 v2 v3 v4 v5 C) (hl : CaseLn C) (hA : Ints w A t) (hn : t.length = n) (hna : n ≤ a) (haz : a ≤ 9223372036854775807) (hok : ∀ x ∈ t, iok x) :
    Calls Try.prog 5 #[.agg #[v0, v1, v2, v3, v4, v5], .slice A n a] w (RetTrue w) := by
  subst hn
  obtain ⟨A0, n0, c0, rfl⟩ := h.lower.sl
  obtain ⟨A1, n1, c1, rfl⟩ := h.upper.sl
  obtain ⟨A2, n2, c2, rfl⟩ := h.title.sl
  obtain ⟨A3, n3, c3, rfl⟩ := h.fold.sl
  obtain ⟨A4, n4, c4, rfl⟩ := h.cased.sl
  obtain ⟨A5, n5, c5, rfl⟩ := h.ign.sl
  have B0 : Below w.heap.size w (w.alloc (.cells #[.slice A0 n0 c0, .slice A1 n1 c1, .slice A2 n2 c2, .slice A3 n3 c3, .slice A4 n4 c4, .slice A5 n5 c5] 27)) := (Below.refl _ _).alloc (Nat.le_refl _) _
  have X0 : Box (w.alloc (.cells #[.slice A0 n0 c0, .slice A1 n1 c1, .slice A2 n2 c2, .slice A3 n3 c3, .slice A4 n4 c4, .slice A5 n5 c5] 27)) w.heap.size 27 [.slice A0 n0 c0, .slice A1 n1 c1, .slice A2 n2 c2, .slice A3 n3 c3, .slice A4 n4 c4, .slice A5 n5 c5] := Box.new w 27 [.slice A0 n0 c0, .slice A1 n1 c1, .slice A2 n2 c2, .slice A3 n3 c3, .slice A4 n4 c4, .slice A5 n5 c5] rfl
  have W0E : ∃ W0, (w.alloc (.cells #[.slice A0 n0 c0, .slice A1 n1 c1, .slice A2 n2 c2, .slice A3 n3 c3, .slice A4 n4 c4, .slice A5 n5 c5] 27)) = W0 := ⟨_, rfl⟩
  have CA := Lib.hid (fun W (hb : Below w.heap.size w W) => h.below hb)
  have HL := Lib.hid hl
  have HA := Lib.hid (fun W (hb' : Below w.heap.size w W) => hA.below hb')
  have HOK := Lib.hid hok
  have SZ := Lib.hid (fewT_sz (C := C) (t := t))
  clear h hl hA hok
  have e0 := X0.cell (i := 0) rfl
  have e1 := X0.cell (i := 1) rfl
  have e2 := X0.cell (i := 2) rfl
  have e3 := X0.cell (i := 3) rfl
  have e4 := X0.cell (i := 4) rfl
  have e5 := X0.cell (i := 5) rfl
  go_enter Try.func5, Try.ntmps5
  go_wp2_with fail
  clear e0 e1 e2 e3 e4 e5
  obtain ⟨W0, hW0⟩ := W0E
  rw [hW0] at B0 X0 ⊢
  clear hW0
  have SH := Lib.hid (fun W' (hb' : Below W0.heap.size W0 W') => show W'.cell? ⟨w.heap.size, 0, none⟩ = some (.slice A0 n0 c0) ∧ W'.cell? ⟨w.heap.size, 1, none⟩ = some (.slice A1 n1 c1) ∧ W'.cell? ⟨w.heap.size, 2, none⟩ = some (.slice A2 n2 c2) ∧ W'.cell? ⟨w.heap.size, 3, none⟩ = some (.slice A3 n3 c3) ∧ W'.cell? ⟨w.heap.size, 4, none⟩ = some (.slice A4 n4 c4) ∧ W'.cell? ⟨w.heap.size, 5, none⟩ = some (.slice A5 n5 c5) ∧ Below W0.heap.size W0 W' from ⟨(X0.below hb' X0.lt).cell (i := 0) rfl, (X0.below hb' X0.lt).cell (i := 1) rfl, (X0.below hb' X0.lt).cell (i := 2) rfl, (X0.below hb' X0.lt).cell (i := 3) rfl, (X0.below hb' X0.lt).cell (i := 4) rfl, (X0.below hb' X0.lt).cell (i := 5) rfl, hb'⟩)
  have KM0 := Lib.hid (fun W (hb' : Below W0.heap.size W0 W) => few_any _ _ _ _ _ _ C A t.length a t W (CA.out W (B0.trans (hb'.mono B0.size))) HL.out rfl (by omega))
  have KA := Lib.hid (fun W (hb' : Below W0.heap.size W0 W) => (alive_any W).mono (R' := fun e W' => e = .returned (.bool true) ∧ (W'.cell? ⟨w.heap.size, 0, none⟩ = some (.slice A0 n0 c0) ∧ W'.cell? ⟨w.heap.size, 1, none⟩ = some (.slice A1 n1 c1) ∧ W'.cell? ⟨w.heap.size, 2, none⟩ = some (.slice A2 n2 c2) ∧ W'.cell? ⟨w.heap.size, 3, none⟩ = some (.slice A3 n3 c3) ∧ W'.cell? ⟨w.heap.size, 4, none⟩ = some (.slice A4 n4 c4) ∧ W'.cell? ⟨w.heap.size, 5, none⟩ = some (.slice A5 n5 c5) ∧ Below W0.heap.size W0 W')) (fun e W' hh => ⟨hh.1, SH.out W' (hb'.trans (hh.2.mono hb'.size))⟩))
  have KEQ := Lib.hid (fun W E1 E2 (l : List Int) d1 d2 (hb' : Below W0.heap.size W0 W) (h1 : Ints W E1 l) (h2 : Ints W E2 l) (hz : l.length ≤ 100000) => (Equal_same E1 E2 l.length d1 d2 l W h1 h2 rfl (by omega)).mono (R' := fun e W' => e = .returned (.bool true) ∧ (W'.cell? ⟨w.heap.size, 0, none⟩ = some (.slice A0 n0 c0) ∧ W'.cell? ⟨w.heap.size, 1, none⟩ = some (.slice A1 n1 c1) ∧ W'.cell? ⟨w.heap.size, 2, none⟩ = some (.slice A2 n2 c2) ∧ W'.cell? ⟨w.heap.size, 3, none⟩ = some (.slice A3 n3 c3) ∧ W'.cell? ⟨w.heap.size, 4, none⟩ = some (.slice A4 n4 c4) ∧ W'.cell? ⟨w.heap.size, 5, none⟩ = some (.slice A5 n5 c5) ∧ Below W0.heap.size W0 W')) (fun e W' hh => ⟨hh.1, SH.out W' (hb'.trans (hh.2.below.mono hb'.size))⟩))
  clear X0
  with_reducible refine (KM0.out W0 (Below.refl _ _)).mono ?_
  rintro e W1 ⟨rfl, hb1⟩
  have hw1 := B0.trans (hb1.mono B0.size)
  cases hs : fewT C t with
  | false =>
    go_wp2_with fail
    with_reducible refine (alive_any W1).mono ?_
    rintro e W2 ⟨rfl, hb2⟩
    have hb9 := hw1.trans (hb2.mono hw1.size)
    go_wp2_with fail
    go_ret
    exact ⟨rfl, hb9⟩
  | true =>
    obtain ⟨hz, ht⟩ := SZ.out hs
    have KL := Lib.hid (fun W (hb' : Below W0.heap.size W0 W) => (Lower_any _ _ _ _ _ _ C A t.length a t W (CA.out W (B0.trans (hb'.mono B0.size))) hz (HA.out W (B0.trans (hb'.mono B0.size))) rfl (by omega) hna haz HOK.out).mono (R' := fun e W' => ∃ v, e = .returned v ∧ (W'.cell? ⟨w.heap.size, 0, none⟩ = some (.slice A0 n0 c0) ∧ W'.cell? ⟨w.heap.size, 1, none⟩ = some (.slice A1 n1 c1) ∧ W'.cell? ⟨w.heap.size, 2, none⟩ = some (.slice A2 n2 c2) ∧ W'.cell? ⟨w.heap.size, 3, none⟩ = some (.slice A3 n3 c3) ∧ W'.cell? ⟨w.heap.size, 4, none⟩ = some (.slice A4 n4 c4) ∧ W'.cell? ⟨w.heap.size, 5, none⟩ = some (.slice A5 n5 c5) ∧ Below W0.heap.size W0 W') ∧ (∃ E d, v = .slice E (lowL (caseD C) t).length d ∧ (lowL (caseD C) t).length ≤ d ∧ Ints W' E (lowL (caseD C) t) ∧ Below W.heap.size W W')) (fun e W' ⟨E, d, he, g1, g2, g3⟩ => ⟨_, he, SH.out W' (hb'.trans (g3.mono hb'.size)), E, d, rfl, g1, g2, g3⟩))
    have KRL := Lib.hid (fun W (hb' : Below W0.heap.size W0 W) => (refLowerL_any _ _ _ _ _ _ C A t.length a t W (CA.out W (B0.trans (hb'.mono B0.size))) hz (HA.out W (B0.trans (hb'.mono B0.size))) rfl (by omega)).mono (R' := fun e W' => ∃ v, e = .returned v ∧ (W'.cell? ⟨w.heap.size, 0, none⟩ = some (.slice A0 n0 c0) ∧ W'.cell? ⟨w.heap.size, 1, none⟩ = some (.slice A1 n1 c1) ∧ W'.cell? ⟨w.heap.size, 2, none⟩ = some (.slice A2 n2 c2) ∧ W'.cell? ⟨w.heap.size, 3, none⟩ = some (.slice A3 n3 c3) ∧ W'.cell? ⟨w.heap.size, 4, none⟩ = some (.slice A4 n4 c4) ∧ W'.cell? ⟨w.heap.size, 5, none⟩ = some (.slice A5 n5 c5) ∧ Below W0.heap.size W0 W') ∧ (∃ E d, v = .slice E (lowL (caseD C) t).length d ∧ (lowL (caseD C) t).length ≤ d ∧ Ints W' E (lowL (caseD C) t) ∧ Below W.heap.size W W')) (fun e W' ⟨E, d, he, g1, g2, g3⟩ => ⟨_, he, SH.out W' (hb'.trans (g3.mono hb'.size)), E, d, rfl, g1, g2, g3⟩))
    have KU := Lib.hid (fun W (hb' : Below W0.heap.size W0 W) => (Upper_any _ _ _ _ _ _ C A t.length a t W (CA.out W (B0.trans (hb'.mono B0.size))) hz (HA.out W (B0.trans (hb'.mono B0.size))) rfl (by omega) hna haz HOK.out).mono (R' := fun e W' => ∃ v, e = .returned v ∧ (W'.cell? ⟨w.heap.size, 0, none⟩ = some (.slice A0 n0 c0) ∧ W'.cell? ⟨w.heap.size, 1, none⟩ = some (.slice A1 n1 c1) ∧ W'.cell? ⟨w.heap.size, 2, none⟩ = some (.slice A2 n2 c2) ∧ W'.cell? ⟨w.heap.size, 3, none⟩ = some (.slice A3 n3 c3) ∧ W'.cell? ⟨w.heap.size, 4, none⟩ = some (.slice A4 n4 c4) ∧ W'.cell? ⟨w.heap.size, 5, none⟩ = some (.slice A5 n5 c5) ∧ Below W0.heap.size W0 W') ∧ (∃ E d, v = .slice E (upL (caseD C) t).length d ∧ (upL (caseD C) t).length ≤ d ∧ Ints W' E (upL (caseD C) t) ∧ Below W.heap.size W W')) (fun e W' ⟨E, d, he, g1, g2, g3⟩ => ⟨_, he, SH.out W' (hb'.trans (g3.mono hb'.size)), E, d, rfl, g1, g2, g3⟩))
    have KRU := Lib.hid (fun W (hb' : Below W0.heap.size W0 W) => (refUpperL_any _ _ _ _ _ _ C A t.length a t W (CA.out W (B0.trans (hb'.mono B0.size))) hz (HA.out W (B0.trans (hb'.mono B0.size))) rfl (by omega)).mono (R' := fun e W' => ∃ v, e = .returned v ∧ (W'.cell? ⟨w.heap.size, 0, none⟩ = some (.slice A0 n0 c0) ∧ W'.cell? ⟨w.heap.size, 1, none⟩ = some (.slice A1 n1 c1) ∧ W'.cell? ⟨w.heap.size, 2, none⟩ = some (.slice A2 n2 c2) ∧ W'.cell? ⟨w.heap.size, 3, none⟩ = some (.slice A3 n3 c3) ∧ W'.cell? ⟨w.heap.size, 4, none⟩ = some (.slice A4 n4 c4) ∧ W'.cell? ⟨w.heap.size, 5, none⟩ = some (.slice A5 n5 c5) ∧ Below W0.heap.size W0 W') ∧ (∃ E d, v = .slice E (upL (caseD C) t).length d ∧ (upL (caseD C) t).length ≤ d ∧ Ints W' E (upL (caseD C) t) ∧ Below W.heap.size W W')) (fun e W' ⟨E, d, he, g1, g2, g3⟩ => ⟨_, he, SH.out W' (hb'.trans (g3.mono hb'.size)), E, d, rfl, g1, g2, g3⟩))
    have b1 := lowL_len (caseD_isok C) t
    have b2 := upL_len (caseD_isok C) t
    generalize lowL (caseD C) t = l1 at *
    generalize upL (caseD C) t = l2 at *
    go_wp2_with fail
    refine wp_region_held_drew (S := fun W' => W'.cell? ⟨w.heap.size, 0, none⟩ = some (.slice A0 n0 c0) ∧ W'.cell? ⟨w.heap.size, 1, none⟩ = some (.slice A1 n1 c1) ∧ W'.cell? ⟨w.heap.size, 2, none⟩ = some (.slice A2 n2 c2) ∧ W'.cell? ⟨w.heap.size, 3, none⟩ = some (.slice A3 n3 c3) ∧ W'.cell? ⟨w.heap.size, 4, none⟩ = some (.slice A4 n4 c4) ∧ W'.cell? ⟨w.heap.size, 5, none⟩ = some (.slice A5 n5 c5) ∧ Below W0.heap.size W0 W') (by kernel_rfl) (SH.out _ (hb1.drew)) (fun hHeld => ?_)
    refine anyH_take (i := 0) (v := ?_) (some 10) rfl rfl (by kernel_rfl) (by kernel_rfl) (by kernel_rfl) (fun _ _ _ h => h) (by rfl) (by assumption) ?_ ?_
    rotate_left
    · intro w hSw; (try dsimp only at hSw); go_split_ands; go_simp; try (with_reducible rfl)
    try simp only [Act.put, List.setIfInBounds_toArray, List.set_cons_zero, List.set_cons_succ]
    refine anyH_take (i := 1) (v := ?_) (some 11) rfl rfl (by kernel_rfl) (by kernel_rfl) (by kernel_rfl) (fun _ _ _ h => h) (by rfl) (by assumption) ?_ ?_
    rotate_left
    · intro w hSw; (try dsimp only at hSw); go_split_ands; go_simp; try (with_reducible rfl)
    try simp only [Act.put, List.setIfInBounds_toArray, List.set_cons_zero, List.set_cons_succ]
    refine anyH_take (i := 3) (v := ?_) (some 13) rfl rfl (by kernel_rfl) (by kernel_rfl) (by kernel_rfl) (fun _ _ _ h => h) (by rfl) (by assumption) ?_ ?_
    rotate_left
    · intro w hSw; (try dsimp only at hSw); go_split_ands; go_simp; try (with_reducible rfl)
    try simp only [Act.put, List.setIfInBounds_toArray, List.set_cons_zero, List.set_cons_succ]
    refine anyH_take (i := 4) (v := ?_) (some 14) rfl rfl (by kernel_rfl) (by kernel_rfl) (by kernel_rfl) (fun _ _ _ h => h) (by rfl) (by assumption) ?_ ?_
    rotate_left
    · intro w hSw; (try dsimp only at hSw); go_split_ands; go_simp; try (with_reducible rfl)
    try simp only [Act.put, List.setIfInBounds_toArray, List.set_cons_zero, List.set_cons_succ]
    refine anyH_callE (i := 2) (some 12) rfl rfl (by kernel_rfl) (by rfl) (by go_simp) (KL.out _ hHeld.2.2.2.2.2.2) ?_
    rintro _ W2 hS6 ⟨E1, qE1, rfl, hlE1, hIE1, hbE1⟩
    clear hHeld
    have hHeld := hS6
    clear hS6
    try simp only [Act.put, List.setIfInBounds_toArray, List.set_cons_zero, List.set_cons_succ]
    refine anyH_callE (i := 5) (some 15) rfl rfl (by kernel_rfl) (by rfl) (by go_simp) (KRL.out _ hHeld.2.2.2.2.2.2) ?_
    rintro _ W3 hS6 ⟨E2, qE2, rfl, hlE2, hIE2, hbE2⟩
    clear hHeld
    have hHeld := hS6
    clear hS6
    have hIE1 := hIE1.below hbE2
    try simp only [Act.put, List.setIfInBounds_toArray, List.set_cons_zero, List.set_cons_succ]
    refine anyH_call (i := 6) (some 16) rfl rfl (by kernel_rfl) (by rfl) (by go_simp) (KEQ.out _ E1 E2 l1 qE1 qE2 hHeld.2.2.2.2.2.2 hIE1 hIE2 (by omega)) (fun W4 hS6 => ?_)
    clear hHeld
    have hHeld := hS6
    clear hS6
    try simp only [Act.put, List.setIfInBounds_toArray, List.set_cons_zero, List.set_cons_succ]
    refine anyH_take (i := 7) (v := ?_) (some 17) rfl rfl (by kernel_rfl) (by kernel_rfl) (by kernel_rfl) (fun _ _ _ h => h) (by rfl) (by assumption) ?_ ?_
    rotate_left
    · intro w hSw; (try dsimp only at hSw); go_split_ands; go_simp; try (with_reducible rfl)
    try simp only [Act.put, List.setIfInBounds_toArray, List.set_cons_zero, List.set_cons_succ]
    refine anyH_take (i := 8) (v := ?_) (some 18) rfl rfl (by kernel_rfl) (by kernel_rfl) (by kernel_rfl) (fun _ _ _ h => h) (by rfl) (by assumption) ?_ ?_
    rotate_left
    · intro w hSw; (try dsimp only at hSw); go_split_ands; go_simp; try (with_reducible rfl)
    try simp only [Act.put, List.setIfInBounds_toArray, List.set_cons_zero, List.set_cons_succ]
    refine anyH_take (i := 9) (v := ?_) (some 19) rfl rfl (by kernel_rfl) (by kernel_rfl) (by kernel_rfl) (fun _ _ _ h => h) (by rfl) (by assumption) ?_ ?_
    rotate_left
    · intro w hSw; (try dsimp only at hSw); go_split_ands; go_simp; try (with_reducible rfl)
    try simp only [Act.put, List.setIfInBounds_toArray, List.set_cons_zero, List.set_cons_succ]
    refine anyH_take (i := 11) (v := ?_) (some 21) rfl rfl (by kernel_rfl) (by kernel_rfl) (by kernel_rfl) (fun _ _ _ h => h) (by rfl) (by assumption) ?_ ?_
    rotate_left
    · intro w hSw; (try dsimp only at hSw); go_split_ands; go_simp; try (with_reducible rfl)
    try simp only [Act.put, List.setIfInBounds_toArray, List.set_cons_zero, List.set_cons_succ]
    refine anyH_take (i := 12) (v := ?_) (some 22) rfl rfl (by kernel_rfl) (by kernel_rfl) (by kernel_rfl) (fun _ _ _ h => h) (by rfl) (by assumption) ?_ ?_
    rotate_left
    · intro w hSw; (try dsimp only at hSw); go_split_ands; go_simp; try (with_reducible rfl)
    try simp only [Act.put, List.setIfInBounds_toArray, List.set_cons_zero, List.set_cons_succ]
    refine anyH_callE (i := 10) (some 20) rfl rfl (by kernel_rfl) (by rfl) (by go_simp) (KU.out _ hHeld.2.2.2.2.2.2) ?_
    rintro _ W5 hS6 ⟨E3, qE3, rfl, hlE3, hIE3, hbE3⟩
    clear hHeld
    have hHeld := hS6
    clear hS6
    try simp only [Act.put, List.setIfInBounds_toArray, List.set_cons_zero, List.set_cons_succ]
    refine anyH_callE (i := 13) (some 23) rfl rfl (by kernel_rfl) (by rfl) (by go_simp) (KRU.out _ hHeld.2.2.2.2.2.2) ?_
    rintro _ W6 hS6 ⟨E4, qE4, rfl, hlE4, hIE4, hbE4⟩
    clear hHeld
    have hHeld := hS6
    clear hS6
    have hIE3 := hIE3.below hbE4
    try simp only [Act.put, List.setIfInBounds_toArray, List.set_cons_zero, List.set_cons_succ]
    refine anyH_call (i := 14) (some 24) rfl rfl (by kernel_rfl) (by rfl) (by go_simp) (KEQ.out _ E3 E4 l2 qE3 qE4 hHeld.2.2.2.2.2.2 hIE3 hIE4 (by omega)) (fun W7 hS6 => ?_)
    clear hHeld
    have hHeld := hS6
    clear hS6
    try simp only [Act.put, List.setIfInBounds_toArray, List.set_cons_zero, List.set_cons_succ]
    refine anyH_take (i := 15) (v := ?_) (some 25) rfl rfl (by kernel_rfl) (by kernel_rfl) (by kernel_rfl) (fun _ _ _ h => h) (by rfl) (by assumption) ?_ ?_
    rotate_left
    · intro w hSw; (try dsimp only at hSw); go_split_ands; go_simp; try (with_reducible rfl)
    try simp only [Act.put, List.setIfInBounds_toArray, List.set_cons_zero, List.set_cons_succ]
    refine anyH_take (i := 16) (v := ?_) (some 26) rfl rfl (by kernel_rfl) (by kernel_rfl) (by kernel_rfl) (fun _ _ _ h => h) (by rfl) (by assumption) ?_ ?_
    rotate_left
    · intro w hSw; (try dsimp only at hSw); go_split_ands; go_simp; try (with_reducible rfl)
    try simp only [Act.put, List.setIfInBounds_toArray, List.set_cons_zero, List.set_cons_succ]
    refine anyH_call (i := 17) (some 27) rfl rfl (by kernel_rfl) (by rfl) (by go_simp) (KA.out _ hHeld.2.2.2.2.2.2) (fun W8 hS6 => ?_)
    clear hHeld
    have hHeld := hS6
    clear hS6
    try simp only [Act.put, List.setIfInBounds_toArray, List.set_cons_zero, List.set_cons_succ]
    refine anyH_take (i := 18) (v := ?_) (some 28) rfl rfl (by kernel_rfl) (by kernel_rfl) (by kernel_rfl) (fun _ _ _ h => h) (by rfl) (by assumption) ?_ ?_
    rotate_left
    · intro w hSw; (try dsimp only at hSw); go_split_ands; go_simp; try (with_reducible rfl)
    try simp only [Act.put, List.setIfInBounds_toArray, List.set_cons_zero, List.set_cons_succ]
    refine anyH_take (i := 19) (v := ?_) (some 4) rfl rfl (by kernel_rfl) (by kernel_rfl) (by kernel_rfl) (fun _ _ _ h => h) (by rfl) (by assumption) ?_ ?_
    rotate_left
    · intro w hSw; (try dsimp only at hSw); go_split_ands; go_simp; try (with_reducible rfl)
    try simp only [Act.put, List.setIfInBounds_toArray, List.set_cons_zero, List.set_cons_succ]
    refine wpAnyH_done (by kernel_rfl) ?_ _
    have hb9 := B0.trans (hHeld.2.2.2.2.2.2.mono B0.size)
    clear hHeld SH
    go_wp2_with fail
    go_ret
    exact ⟨rfl, hb9⟩

end Go.Proofs.Ytpamkbbmbeeheaa
