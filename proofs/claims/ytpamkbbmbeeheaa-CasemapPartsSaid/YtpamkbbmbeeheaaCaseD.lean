/- The contracts of casemap.valid and of the reference's Data. Written by gen_cased.py. -/
import Derived.Test.YtpamkbbmbeeheaaCaseRck
namespace Go.Proofs.Ytpamkbbmbeeheaa
open Go.RowKit Go.Maps Go.WideMaps

theorem MpsV.sl {w : World} {v : Value} {ms : List Mp} (h : MpsV w v ms) : ∃ A n c, v = .slice A n c := by
  obtain ⟨A, c, e, _⟩ := h
  exact ⟨A, _, c, e⟩
theorem RgsV.sl {w : World} {v : Value} {ms : List Rg} (h : RgsV w v ms) : ∃ A n c, v = .slice A n c := by
  obtain ⟨A, c, e, _⟩ := h
  exact ⟨A, _, c, e⟩
def case0 : Cse := ⟨[], [], [], [], [], []⟩
/-- the data if it is valid, otherwise the empty data -/
def caseD (C : Cse) : Cse := if caseErr C = 0 then C else case0
theorem caseD_ok {C : Cse} (h : caseErr C = 0) : caseD C = C := if_pos h
theorem caseD_bad {C : Cse} (h : ¬ caseErr C = 0) : caseD C = case0 := if_neg h
theorem case0_at (w : World) : CaseAt w (.slice none 0 0) (.slice none 0 0) (.slice none 0 0) (.slice none 0 0) (.slice none 0 0) (.slice none 0 0) case0 :=
  ⟨⟨none, 0, rfl, Nat.le_refl _, Mps.nil _ _⟩, ⟨none, 0, rfl, Nat.le_refl _, Mps.nil _ _⟩, ⟨none, 0, rfl, Nat.le_refl _, Mps.nil _ _⟩, ⟨none, 0, rfl, Nat.le_refl _, Mps.nil _ _⟩, ⟨none, 0, rfl, Nat.le_refl _, Sl.nil _ _⟩, ⟨none, 0, rfl, Nat.le_refl _, Sl.nil _ _⟩⟩
theorem mpsSz_nil : MpsSz [] := ⟨by simp, fun i hi => absurd hi (Nat.not_lt_zero _)⟩
theorem CaseSz.d {C : Cse} (h : CaseSz C) : CaseSz (caseD C) := by
  unfold caseD
  split
  · exact h
  · exact ⟨mpsSz_nil, mpsSz_nil, mpsSz_nil, mpsSz_nil, by simp [case0], by simp [case0]⟩
/-- what valid and Data return -/
def RetCase (v0 v1 v2 v3 v4 v5 : Value) (C : Cse) (w : World) (e : Ending) (w' : World) : Prop :=
  ∃ u0 u1 u2 u3 u4 u5, e = .returned (.agg #[u0, u1, u2, u3, u4, u5]) ∧ (∀ W, CaseAt W v0 v1 v2 v3 v4 v5 C → CaseAt W u0 u1 u2 u3 u4 u5 (caseD C)) ∧ Below w.heap.size w w'

theorem results_valid_any (tmps : Array Value) (w : World) {b : Nat} {v0 v1 v2 v3 v4 v5 : Value} (ha : tmps.getD 2 undef = .pointer (some ⟨b, 0, none⟩))
    (c0 : w.cell? ⟨b, 0, none⟩ = some v0) (c1 : w.cell? ⟨b, 1, none⟩ = some v1) (c2 : w.cell? ⟨b, 2, none⟩ = some v2) (c3 : w.cell? ⟨b, 3, none⟩ = some v3) (c4 : w.cell? ⟨b, 4, none⟩ = some v4) (c5 : w.cell? ⟨b, 5, none⟩ = some v5) :
    (results Try.f38 tmps).run Try.prog w = .ok (.agg #[v0, v1, v2, v3, v4, v5]) w := by
  have hr : Try.f38.results = #[.cell 2 27] := rfl
  unfold results
  rw [hr]
  simp only [ha, List.mapM_toArray, List.mapM_cons, List.mapM_nil, asAddr]
  go_simp

set_option maxRecDepth 100000 in
set_option maxHeartbeats 3200000 in
theorem valid_any (v0 v1 v2 v3 v4 v5 : Value) (C : Cse) (w : World) (h : CaseAt w v0 v1 v2 v3 v4 v5 C) (hz : CaseSz C) :
    Calls Try.prog 38 #[.agg #[v0, v1, v2, v3, v4, v5]] w (RetCase v0 v1 v2 v3 v4 v5 C w) := by
  obtain ⟨A0, n0, c0, rfl⟩ := h.lower.sl
  obtain ⟨A1, n1, c1, rfl⟩ := h.upper.sl
  obtain ⟨A2, n2, c2, rfl⟩ := h.title.sl
  obtain ⟨A3, n3, c3, rfl⟩ := h.fold.sl
  obtain ⟨A4, n4, c4, rfl⟩ := h.cased.sl
  obtain ⟨A5, n5, c5, rfl⟩ := h.ign.sl
  have B0 : Below w.heap.size w ((w.alloc (.cells #[.slice A0 n0 c0, .slice A1 n1 c1, .slice A2 n2 c2, .slice A3 n3 c3, .slice A4 n4 c4, .slice A5 n5 c5] 27)).alloc (.cells #[.slice none 0 0, .slice none 0 0, .slice none 0 0, .slice none 0 0, .slice none 0 0, .slice none 0 0] 27)) := ((Below.refl _ _).alloc (Nat.le_refl _) _).alloc (by simp) _
  have s0 : ((w.alloc (.cells #[.slice A0 n0 c0, .slice A1 n1 c1, .slice A2 n2 c2, .slice A3 n3 c3, .slice A4 n4 c4, .slice A5 n5 c5] 27)).alloc (.cells #[.slice none 0 0, .slice none 0 0, .slice none 0 0, .slice none 0 0, .slice none 0 0, .slice none 0 0] 27)).heap.size = w.heap.size + 2 := by simp
  have k0 : ((w.alloc (.cells #[.slice A0 n0 c0, .slice A1 n1 c1, .slice A2 n2 c2, .slice A3 n3 c3, .slice A4 n4 c4, .slice A5 n5 c5] 27)).alloc (.cells #[.slice none 0 0, .slice none 0 0, .slice none 0 0, .slice none 0 0, .slice none 0 0, .slice none 0 0] 27)).cell? ⟨w.heap.size, 0, none⟩ = some (.slice A0 n0 c0) := by simp
  have k1 : ((w.alloc (.cells #[.slice A0 n0 c0, .slice A1 n1 c1, .slice A2 n2 c2, .slice A3 n3 c3, .slice A4 n4 c4, .slice A5 n5 c5] 27)).alloc (.cells #[.slice none 0 0, .slice none 0 0, .slice none 0 0, .slice none 0 0, .slice none 0 0, .slice none 0 0] 27)).cell? ⟨w.heap.size, 1, none⟩ = some (.slice A1 n1 c1) := by simp
  have k2 : ((w.alloc (.cells #[.slice A0 n0 c0, .slice A1 n1 c1, .slice A2 n2 c2, .slice A3 n3 c3, .slice A4 n4 c4, .slice A5 n5 c5] 27)).alloc (.cells #[.slice none 0 0, .slice none 0 0, .slice none 0 0, .slice none 0 0, .slice none 0 0, .slice none 0 0] 27)).cell? ⟨w.heap.size, 2, none⟩ = some (.slice A2 n2 c2) := by simp
  have k3 : ((w.alloc (.cells #[.slice A0 n0 c0, .slice A1 n1 c1, .slice A2 n2 c2, .slice A3 n3 c3, .slice A4 n4 c4, .slice A5 n5 c5] 27)).alloc (.cells #[.slice none 0 0, .slice none 0 0, .slice none 0 0, .slice none 0 0, .slice none 0 0, .slice none 0 0] 27)).cell? ⟨w.heap.size, 3, none⟩ = some (.slice A3 n3 c3) := by simp
  have k4 : ((w.alloc (.cells #[.slice A0 n0 c0, .slice A1 n1 c1, .slice A2 n2 c2, .slice A3 n3 c3, .slice A4 n4 c4, .slice A5 n5 c5] 27)).alloc (.cells #[.slice none 0 0, .slice none 0 0, .slice none 0 0, .slice none 0 0, .slice none 0 0, .slice none 0 0] 27)).cell? ⟨w.heap.size, 4, none⟩ = some (.slice A4 n4 c4) := by simp
  have k5 : ((w.alloc (.cells #[.slice A0 n0 c0, .slice A1 n1 c1, .slice A2 n2 c2, .slice A3 n3 c3, .slice A4 n4 c4, .slice A5 n5 c5] 27)).alloc (.cells #[.slice none 0 0, .slice none 0 0, .slice none 0 0, .slice none 0 0, .slice none 0 0, .slice none 0 0] 27)).cell? ⟨w.heap.size, 5, none⟩ = some (.slice A5 n5 c5) := by simp
  have l0 : ((w.alloc (.cells #[.slice A0 n0 c0, .slice A1 n1 c1, .slice A2 n2 c2, .slice A3 n3 c3, .slice A4 n4 c4, .slice A5 n5 c5] 27)).alloc (.cells #[.slice none 0 0, .slice none 0 0, .slice none 0 0, .slice none 0 0, .slice none 0 0, .slice none 0 0] 27)).cell? ⟨w.heap.size + 1, 0, none⟩ = some (.slice none 0 0) := by simp
  have l1 : ((w.alloc (.cells #[.slice A0 n0 c0, .slice A1 n1 c1, .slice A2 n2 c2, .slice A3 n3 c3, .slice A4 n4 c4, .slice A5 n5 c5] 27)).alloc (.cells #[.slice none 0 0, .slice none 0 0, .slice none 0 0, .slice none 0 0, .slice none 0 0, .slice none 0 0] 27)).cell? ⟨w.heap.size + 1, 1, none⟩ = some (.slice none 0 0) := by simp
  have l2 : ((w.alloc (.cells #[.slice A0 n0 c0, .slice A1 n1 c1, .slice A2 n2 c2, .slice A3 n3 c3, .slice A4 n4 c4, .slice A5 n5 c5] 27)).alloc (.cells #[.slice none 0 0, .slice none 0 0, .slice none 0 0, .slice none 0 0, .slice none 0 0, .slice none 0 0] 27)).cell? ⟨w.heap.size + 1, 2, none⟩ = some (.slice none 0 0) := by simp
  have l3 : ((w.alloc (.cells #[.slice A0 n0 c0, .slice A1 n1 c1, .slice A2 n2 c2, .slice A3 n3 c3, .slice A4 n4 c4, .slice A5 n5 c5] 27)).alloc (.cells #[.slice none 0 0, .slice none 0 0, .slice none 0 0, .slice none 0 0, .slice none 0 0, .slice none 0 0] 27)).cell? ⟨w.heap.size + 1, 3, none⟩ = some (.slice none 0 0) := by simp
  have l4 : ((w.alloc (.cells #[.slice A0 n0 c0, .slice A1 n1 c1, .slice A2 n2 c2, .slice A3 n3 c3, .slice A4 n4 c4, .slice A5 n5 c5] 27)).alloc (.cells #[.slice none 0 0, .slice none 0 0, .slice none 0 0, .slice none 0 0, .slice none 0 0, .slice none 0 0] 27)).cell? ⟨w.heap.size + 1, 4, none⟩ = some (.slice none 0 0) := by simp
  have l5 : ((w.alloc (.cells #[.slice A0 n0 c0, .slice A1 n1 c1, .slice A2 n2 c2, .slice A3 n3 c3, .slice A4 n4 c4, .slice A5 n5 c5] 27)).alloc (.cells #[.slice none 0 0, .slice none 0 0, .slice none 0 0, .slice none 0 0, .slice none 0 0, .slice none 0 0] 27)).cell? ⟨w.heap.size + 1, 5, none⟩ = some (.slice none 0 0) := by simp
  have lf : ∀ j, ((w.alloc (.cells #[.slice A0 n0 c0, .slice A1 n1 c1, .slice A2 n2 c2, .slice A3 n3 c3, .slice A4 n4 c4, .slice A5 n5 c5] 27)).alloc (.cells #[.slice none 0 0, .slice none 0 0, .slice none 0 0, .slice none 0 0, .slice none 0 0, .slice none 0 0] 27)).frozen? ⟨w.heap.size + 1, j, none⟩ = false := fun j => by simp
  have W0E : ∃ W0, ((w.alloc (.cells #[.slice A0 n0 c0, .slice A1 n1 c1, .slice A2 n2 c2, .slice A3 n3 c3, .slice A4 n4 c4, .slice A5 n5 c5] 27)).alloc (.cells #[.slice none 0 0, .slice none 0 0, .slice none 0 0, .slice none 0 0, .slice none 0 0, .slice none 0 0] 27)) = W0 := ⟨_, rfl⟩
  have CK := Lib.hid (fun W (hb : Below w.heap.size w W) => caseCheck_any _ _ _ _ _ _ C W (h.below hb) hz)
  have RY := Lib.hid (fun (he : caseErr C = 0) W (hw : CaseAt W (.slice A0 n0 c0) (.slice A1 n1 c1) (.slice A2 n2 c2) (.slice A3 n3 c3) (.slice A4 n4 c4) (.slice A5 n5 c5) C) => show CaseAt W (.slice A0 n0 c0) (.slice A1 n1 c1) (.slice A2 n2 c2) (.slice A3 n3 c3) (.slice A4 n4 c4) (.slice A5 n5 c5) (caseD C) from by rw [caseD_ok he]; exact hw)
  have RN := Lib.hid (fun (he : ¬ caseErr C = 0) W (_ : CaseAt W (.slice A0 n0 c0) (.slice A1 n1 c1) (.slice A2 n2 c2) (.slice A3 n3 c3) (.slice A4 n4 c4) (.slice A5 n5 c5) C) => show CaseAt W (.slice none 0 0) (.slice none 0 0) (.slice none 0 0) (.slice none 0 0) (.slice none 0 0) (.slice none 0 0) (caseD C) from by rw [caseD_bad he]; exact case0_at W)
  have RV := Lib.hid (fun e W => show RetCase (.slice A0 n0 c0) (.slice A1 n1 c1) (.slice A2 n2 c2) (.slice A3 n3 c3) (.slice A4 n4 c4) (.slice A5 n5 c5) C w e W = (∃ u0 u1 u2 u3 u4 u5, e = .returned (.agg #[u0, u1, u2, u3, u4, u5]) ∧ (∀ W, CaseAt W (.slice A0 n0 c0) (.slice A1 n1 c1) (.slice A2 n2 c2) (.slice A3 n3 c3) (.slice A4 n4 c4) (.slice A5 n5 c5) C → CaseAt W u0 u1 u2 u3 u4 u5 (caseD C)) ∧ Below w.heap.size w W) from rfl)
  generalize RetCase (.slice A0 n0 c0) (.slice A1 n1 c1) (.slice A2 n2 c2) (.slice A3 n3 c3) (.slice A4 n4 c4) (.slice A5 n5 c5) C w = RC at *
  generalize caseErr C = ce at *
  clear h hz
  go_enter Try.func38, Try.ntmps38
  go_wp2_with fail
  obtain ⟨W0, hW0⟩ := W0E
  rw [hW0] at B0 s0 k0 k1 k2 k3 k4 k5 l0 l1 l2 l3 l4 l5 lf ⊢
  clear hW0
  have hx0 : w.heap.size < W0.heap.size := by omega
  have hx1 : w.heap.size + 1 < W0.heap.size := by omega
  have hN1 : w.heap.size ≤ w.heap.size + 1 := by omega
  with_reducible refine (CK.out W0 B0).mono ?_
  rintro e W1 ⟨rfl, hb1⟩
  have hb2 := B0.trans (hb1.mono B0.size)
  have f0 := (hb1.cell (p := ⟨w.heap.size, 0, none⟩) hx0).trans k0
  have f1 := (hb1.cell (p := ⟨w.heap.size, 1, none⟩) hx0).trans k1
  have f2 := (hb1.cell (p := ⟨w.heap.size, 2, none⟩) hx0).trans k2
  have f3 := (hb1.cell (p := ⟨w.heap.size, 3, none⟩) hx0).trans k3
  have f4 := (hb1.cell (p := ⟨w.heap.size, 4, none⟩) hx0).trans k4
  have f5 := (hb1.cell (p := ⟨w.heap.size, 5, none⟩) hx0).trans k5
  have g0 := (hb1.cell (p := ⟨w.heap.size + 1, 0, none⟩) hx1).trans l0
  have g1 := (hb1.cell (p := ⟨w.heap.size + 1, 1, none⟩) hx1).trans l1
  have g2 := (hb1.cell (p := ⟨w.heap.size + 1, 2, none⟩) hx1).trans l2
  have g3 := (hb1.cell (p := ⟨w.heap.size + 1, 3, none⟩) hx1).trans l3
  have g4 := (hb1.cell (p := ⟨w.heap.size + 1, 4, none⟩) hx1).trans l4
  have g5 := (hb1.cell (p := ⟨w.heap.size + 1, 5, none⟩) hx1).trans l5
  have z0 := (hb1.frozen (p := ⟨w.heap.size + 1, 0, none⟩) hx1).trans (lf 0)
  have z1 := (hb1.frozen (p := ⟨w.heap.size + 1, 1, none⟩) hx1).trans (lf 1)
  have z2 := (hb1.frozen (p := ⟨w.heap.size + 1, 2, none⟩) hx1).trans (lf 2)
  have z3 := (hb1.frozen (p := ⟨w.heap.size + 1, 3, none⟩) hx1).trans (lf 3)
  have z4 := (hb1.frozen (p := ⟨w.heap.size + 1, 4, none⟩) hx1).trans (lf 4)
  have z5 := (hb1.frozen (p := ⟨w.heap.size + 1, 5, none⟩) hx1).trans (lf 5)
  have hx2 : w.heap.size < W1.heap.size := by have := hb1.size; omega
  have hx3 : w.heap.size + 1 < W1.heap.size := by have := hb1.size; omega
  clear k0 k1 k2 k3 k4 k5 l0 l1 l2 l3 l4 l5 lf CK
  by_cases he : ce = 0
  · have RR := Lib.hid (RY.out he)
    subst he
    clear RY RN
    go_wp2_with fail
    (try simp only [Exit.inBlock, Exit.then]); refine bodyPost_ret (results_valid_any _ _ (b := w.heap.size + 1) (v0 := .slice A0 n0 c0) (v1 := .slice A1 n1 c1) (v2 := .slice A2 n2 c2) (v3 := .slice A3 n3 c3) (v4 := .slice A4 n4 c4) (v5 := .slice A5 n5 c5) rfl (by go_simp) (by go_simp) (by go_simp) (by go_simp) (by go_simp) (by go_simp)) rfl ?_
    rw [RV.out]; exact ⟨_, _, _, _, _, _, rfl, RR.out, ((((((hb2.setCell (p := ⟨w.heap.size + 1, 0, none⟩) hN1 _).setCell (p := ⟨w.heap.size + 1, 1, none⟩) hN1 _).setCell (p := ⟨w.heap.size + 1, 2, none⟩) hN1 _).setCell (p := ⟨w.heap.size + 1, 3, none⟩) hN1 _).setCell (p := ⟨w.heap.size + 1, 4, none⟩) hN1 _).setCell (p := ⟨w.heap.size + 1, 5, none⟩) hN1 _)⟩

  · have q : (ce != 0) = true := by simpa using he
    have RR := Lib.hid (RN.out he)
    clear RY RN he
    go_wp2_with fail
    (try simp only [Exit.inBlock, Exit.then]); refine bodyPost_ret (results_valid_any _ _ (b := w.heap.size + 1) (v0 := .slice none 0 0) (v1 := .slice none 0 0) (v2 := .slice none 0 0) (v3 := .slice none 0 0) (v4 := .slice none 0 0) (v5 := .slice none 0 0) rfl (by go_simp) (by go_simp) (by go_simp) (by go_simp) (by go_simp) (by go_simp)) rfl ?_
    rw [RV.out]; exact ⟨_, _, _, _, _, _, rfl, RR.out, ((((((hb2.setCell (p := ⟨w.heap.size + 1, 0, none⟩) hN1 _).setCell (p := ⟨w.heap.size + 1, 1, none⟩) hN1 _).setCell (p := ⟨w.heap.size + 1, 2, none⟩) hN1 _).setCell (p := ⟨w.heap.size + 1, 3, none⟩) hN1 _).setCell (p := ⟨w.heap.size + 1, 4, none⟩) hN1 _).setCell (p := ⟨w.heap.size + 1, 5, none⟩) hN1 _)⟩

theorem results_refData_any (tmps : Array Value) (w : World) {b : Nat} {v0 v1 v2 v3 v4 v5 : Value} (ha : tmps.getD 2 undef = .pointer (some ⟨b, 0, none⟩))
    (c0 : w.cell? ⟨b, 0, none⟩ = some v0) (c1 : w.cell? ⟨b, 1, none⟩ = some v1) (c2 : w.cell? ⟨b, 2, none⟩ = some v2) (c3 : w.cell? ⟨b, 3, none⟩ = some v3) (c4 : w.cell? ⟨b, 4, none⟩ = some v4) (c5 : w.cell? ⟨b, 5, none⟩ = some v5) :
    (results Try.f40 tmps).run Try.prog w = .ok (.agg #[v0, v1, v2, v3, v4, v5]) w := by
  have hr : Try.f40.results = #[.cell 2 27] := rfl
  unfold results
  rw [hr]
  simp only [ha, List.mapM_toArray, List.mapM_cons, List.mapM_nil, asAddr]
  go_simp

set_option maxRecDepth 100000 in
set_option maxHeartbeats 3200000 in
theorem refData_any (v0 v1 v2 v3 v4 v5 : Value) (C : Cse) (w : World) (h : CaseAt w v0 v1 v2 v3 v4 v5 C) (hz : CaseSz C) :
    Calls Try.prog 40 #[.agg #[v0, v1, v2, v3, v4, v5]] w (RetCase v0 v1 v2 v3 v4 v5 C w) := by
  obtain ⟨A0, n0, c0, rfl⟩ := h.lower.sl
  obtain ⟨A1, n1, c1, rfl⟩ := h.upper.sl
  obtain ⟨A2, n2, c2, rfl⟩ := h.title.sl
  obtain ⟨A3, n3, c3, rfl⟩ := h.fold.sl
  obtain ⟨A4, n4, c4, rfl⟩ := h.cased.sl
  obtain ⟨A5, n5, c5, rfl⟩ := h.ign.sl
  have B0 : Below w.heap.size w ((w.alloc (.cells #[.slice A0 n0 c0, .slice A1 n1 c1, .slice A2 n2 c2, .slice A3 n3 c3, .slice A4 n4 c4, .slice A5 n5 c5] 27)).alloc (.cells #[.slice none 0 0, .slice none 0 0, .slice none 0 0, .slice none 0 0, .slice none 0 0, .slice none 0 0] 27)) := ((Below.refl _ _).alloc (Nat.le_refl _) _).alloc (by simp) _
  have s0 : ((w.alloc (.cells #[.slice A0 n0 c0, .slice A1 n1 c1, .slice A2 n2 c2, .slice A3 n3 c3, .slice A4 n4 c4, .slice A5 n5 c5] 27)).alloc (.cells #[.slice none 0 0, .slice none 0 0, .slice none 0 0, .slice none 0 0, .slice none 0 0, .slice none 0 0] 27)).heap.size = w.heap.size + 2 := by simp
  have k0 : ((w.alloc (.cells #[.slice A0 n0 c0, .slice A1 n1 c1, .slice A2 n2 c2, .slice A3 n3 c3, .slice A4 n4 c4, .slice A5 n5 c5] 27)).alloc (.cells #[.slice none 0 0, .slice none 0 0, .slice none 0 0, .slice none 0 0, .slice none 0 0, .slice none 0 0] 27)).cell? ⟨w.heap.size, 0, none⟩ = some (.slice A0 n0 c0) := by simp
  have k1 : ((w.alloc (.cells #[.slice A0 n0 c0, .slice A1 n1 c1, .slice A2 n2 c2, .slice A3 n3 c3, .slice A4 n4 c4, .slice A5 n5 c5] 27)).alloc (.cells #[.slice none 0 0, .slice none 0 0, .slice none 0 0, .slice none 0 0, .slice none 0 0, .slice none 0 0] 27)).cell? ⟨w.heap.size, 1, none⟩ = some (.slice A1 n1 c1) := by simp
  have k2 : ((w.alloc (.cells #[.slice A0 n0 c0, .slice A1 n1 c1, .slice A2 n2 c2, .slice A3 n3 c3, .slice A4 n4 c4, .slice A5 n5 c5] 27)).alloc (.cells #[.slice none 0 0, .slice none 0 0, .slice none 0 0, .slice none 0 0, .slice none 0 0, .slice none 0 0] 27)).cell? ⟨w.heap.size, 2, none⟩ = some (.slice A2 n2 c2) := by simp
  have k3 : ((w.alloc (.cells #[.slice A0 n0 c0, .slice A1 n1 c1, .slice A2 n2 c2, .slice A3 n3 c3, .slice A4 n4 c4, .slice A5 n5 c5] 27)).alloc (.cells #[.slice none 0 0, .slice none 0 0, .slice none 0 0, .slice none 0 0, .slice none 0 0, .slice none 0 0] 27)).cell? ⟨w.heap.size, 3, none⟩ = some (.slice A3 n3 c3) := by simp
  have k4 : ((w.alloc (.cells #[.slice A0 n0 c0, .slice A1 n1 c1, .slice A2 n2 c2, .slice A3 n3 c3, .slice A4 n4 c4, .slice A5 n5 c5] 27)).alloc (.cells #[.slice none 0 0, .slice none 0 0, .slice none 0 0, .slice none 0 0, .slice none 0 0, .slice none 0 0] 27)).cell? ⟨w.heap.size, 4, none⟩ = some (.slice A4 n4 c4) := by simp
  have k5 : ((w.alloc (.cells #[.slice A0 n0 c0, .slice A1 n1 c1, .slice A2 n2 c2, .slice A3 n3 c3, .slice A4 n4 c4, .slice A5 n5 c5] 27)).alloc (.cells #[.slice none 0 0, .slice none 0 0, .slice none 0 0, .slice none 0 0, .slice none 0 0, .slice none 0 0] 27)).cell? ⟨w.heap.size, 5, none⟩ = some (.slice A5 n5 c5) := by simp
  have l0 : ((w.alloc (.cells #[.slice A0 n0 c0, .slice A1 n1 c1, .slice A2 n2 c2, .slice A3 n3 c3, .slice A4 n4 c4, .slice A5 n5 c5] 27)).alloc (.cells #[.slice none 0 0, .slice none 0 0, .slice none 0 0, .slice none 0 0, .slice none 0 0, .slice none 0 0] 27)).cell? ⟨w.heap.size + 1, 0, none⟩ = some (.slice none 0 0) := by simp
  have l1 : ((w.alloc (.cells #[.slice A0 n0 c0, .slice A1 n1 c1, .slice A2 n2 c2, .slice A3 n3 c3, .slice A4 n4 c4, .slice A5 n5 c5] 27)).alloc (.cells #[.slice none 0 0, .slice none 0 0, .slice none 0 0, .slice none 0 0, .slice none 0 0, .slice none 0 0] 27)).cell? ⟨w.heap.size + 1, 1, none⟩ = some (.slice none 0 0) := by simp
  have l2 : ((w.alloc (.cells #[.slice A0 n0 c0, .slice A1 n1 c1, .slice A2 n2 c2, .slice A3 n3 c3, .slice A4 n4 c4, .slice A5 n5 c5] 27)).alloc (.cells #[.slice none 0 0, .slice none 0 0, .slice none 0 0, .slice none 0 0, .slice none 0 0, .slice none 0 0] 27)).cell? ⟨w.heap.size + 1, 2, none⟩ = some (.slice none 0 0) := by simp
  have l3 : ((w.alloc (.cells #[.slice A0 n0 c0, .slice A1 n1 c1, .slice A2 n2 c2, .slice A3 n3 c3, .slice A4 n4 c4, .slice A5 n5 c5] 27)).alloc (.cells #[.slice none 0 0, .slice none 0 0, .slice none 0 0, .slice none 0 0, .slice none 0 0, .slice none 0 0] 27)).cell? ⟨w.heap.size + 1, 3, none⟩ = some (.slice none 0 0) := by simp
  have l4 : ((w.alloc (.cells #[.slice A0 n0 c0, .slice A1 n1 c1, .slice A2 n2 c2, .slice A3 n3 c3, .slice A4 n4 c4, .slice A5 n5 c5] 27)).alloc (.cells #[.slice none 0 0, .slice none 0 0, .slice none 0 0, .slice none 0 0, .slice none 0 0, .slice none 0 0] 27)).cell? ⟨w.heap.size + 1, 4, none⟩ = some (.slice none 0 0) := by simp
  have l5 : ((w.alloc (.cells #[.slice A0 n0 c0, .slice A1 n1 c1, .slice A2 n2 c2, .slice A3 n3 c3, .slice A4 n4 c4, .slice A5 n5 c5] 27)).alloc (.cells #[.slice none 0 0, .slice none 0 0, .slice none 0 0, .slice none 0 0, .slice none 0 0, .slice none 0 0] 27)).cell? ⟨w.heap.size + 1, 5, none⟩ = some (.slice none 0 0) := by simp
  have lf : ∀ j, ((w.alloc (.cells #[.slice A0 n0 c0, .slice A1 n1 c1, .slice A2 n2 c2, .slice A3 n3 c3, .slice A4 n4 c4, .slice A5 n5 c5] 27)).alloc (.cells #[.slice none 0 0, .slice none 0 0, .slice none 0 0, .slice none 0 0, .slice none 0 0, .slice none 0 0] 27)).frozen? ⟨w.heap.size + 1, j, none⟩ = false := fun j => by simp
  have W0E : ∃ W0, ((w.alloc (.cells #[.slice A0 n0 c0, .slice A1 n1 c1, .slice A2 n2 c2, .slice A3 n3 c3, .slice A4 n4 c4, .slice A5 n5 c5] 27)).alloc (.cells #[.slice none 0 0, .slice none 0 0, .slice none 0 0, .slice none 0 0, .slice none 0 0, .slice none 0 0] 27)) = W0 := ⟨_, rfl⟩
  have CK := Lib.hid (fun W (hb : Below w.heap.size w W) => refCaseCheck_any _ _ _ _ _ _ C W (h.below hb) hz)
  have RY := Lib.hid (fun (he : caseErr C = 0) W (hw : CaseAt W (.slice A0 n0 c0) (.slice A1 n1 c1) (.slice A2 n2 c2) (.slice A3 n3 c3) (.slice A4 n4 c4) (.slice A5 n5 c5) C) => show CaseAt W (.slice A0 n0 c0) (.slice A1 n1 c1) (.slice A2 n2 c2) (.slice A3 n3 c3) (.slice A4 n4 c4) (.slice A5 n5 c5) (caseD C) from by rw [caseD_ok he]; exact hw)
  have RN := Lib.hid (fun (he : ¬ caseErr C = 0) W (_ : CaseAt W (.slice A0 n0 c0) (.slice A1 n1 c1) (.slice A2 n2 c2) (.slice A3 n3 c3) (.slice A4 n4 c4) (.slice A5 n5 c5) C) => show CaseAt W (.slice none 0 0) (.slice none 0 0) (.slice none 0 0) (.slice none 0 0) (.slice none 0 0) (.slice none 0 0) (caseD C) from by rw [caseD_bad he]; exact case0_at W)
  have RV := Lib.hid (fun e W => show RetCase (.slice A0 n0 c0) (.slice A1 n1 c1) (.slice A2 n2 c2) (.slice A3 n3 c3) (.slice A4 n4 c4) (.slice A5 n5 c5) C w e W = (∃ u0 u1 u2 u3 u4 u5, e = .returned (.agg #[u0, u1, u2, u3, u4, u5]) ∧ (∀ W, CaseAt W (.slice A0 n0 c0) (.slice A1 n1 c1) (.slice A2 n2 c2) (.slice A3 n3 c3) (.slice A4 n4 c4) (.slice A5 n5 c5) C → CaseAt W u0 u1 u2 u3 u4 u5 (caseD C)) ∧ Below w.heap.size w W) from rfl)
  generalize RetCase (.slice A0 n0 c0) (.slice A1 n1 c1) (.slice A2 n2 c2) (.slice A3 n3 c3) (.slice A4 n4 c4) (.slice A5 n5 c5) C w = RC at *
  generalize caseErr C = ce at *
  clear h hz
  go_enter Try.func40, Try.ntmps40
  go_wp2_with fail
  obtain ⟨W0, hW0⟩ := W0E
  rw [hW0] at B0 s0 k0 k1 k2 k3 k4 k5 l0 l1 l2 l3 l4 l5 lf ⊢
  clear hW0
  have hx0 : w.heap.size < W0.heap.size := by omega
  have hx1 : w.heap.size + 1 < W0.heap.size := by omega
  have hN1 : w.heap.size ≤ w.heap.size + 1 := by omega
  with_reducible refine (CK.out W0 B0).mono ?_
  rintro e W1 ⟨rfl, hb1⟩
  have hb2 := B0.trans (hb1.mono B0.size)
  have f0 := (hb1.cell (p := ⟨w.heap.size, 0, none⟩) hx0).trans k0
  have f1 := (hb1.cell (p := ⟨w.heap.size, 1, none⟩) hx0).trans k1
  have f2 := (hb1.cell (p := ⟨w.heap.size, 2, none⟩) hx0).trans k2
  have f3 := (hb1.cell (p := ⟨w.heap.size, 3, none⟩) hx0).trans k3
  have f4 := (hb1.cell (p := ⟨w.heap.size, 4, none⟩) hx0).trans k4
  have f5 := (hb1.cell (p := ⟨w.heap.size, 5, none⟩) hx0).trans k5
  have g0 := (hb1.cell (p := ⟨w.heap.size + 1, 0, none⟩) hx1).trans l0
  have g1 := (hb1.cell (p := ⟨w.heap.size + 1, 1, none⟩) hx1).trans l1
  have g2 := (hb1.cell (p := ⟨w.heap.size + 1, 2, none⟩) hx1).trans l2
  have g3 := (hb1.cell (p := ⟨w.heap.size + 1, 3, none⟩) hx1).trans l3
  have g4 := (hb1.cell (p := ⟨w.heap.size + 1, 4, none⟩) hx1).trans l4
  have g5 := (hb1.cell (p := ⟨w.heap.size + 1, 5, none⟩) hx1).trans l5
  have z0 := (hb1.frozen (p := ⟨w.heap.size + 1, 0, none⟩) hx1).trans (lf 0)
  have z1 := (hb1.frozen (p := ⟨w.heap.size + 1, 1, none⟩) hx1).trans (lf 1)
  have z2 := (hb1.frozen (p := ⟨w.heap.size + 1, 2, none⟩) hx1).trans (lf 2)
  have z3 := (hb1.frozen (p := ⟨w.heap.size + 1, 3, none⟩) hx1).trans (lf 3)
  have z4 := (hb1.frozen (p := ⟨w.heap.size + 1, 4, none⟩) hx1).trans (lf 4)
  have z5 := (hb1.frozen (p := ⟨w.heap.size + 1, 5, none⟩) hx1).trans (lf 5)
  have hx2 : w.heap.size < W1.heap.size := by have := hb1.size; omega
  have hx3 : w.heap.size + 1 < W1.heap.size := by have := hb1.size; omega
  clear k0 k1 k2 k3 k4 k5 l0 l1 l2 l3 l4 l5 lf CK
  by_cases he : ce = 0
  · have RR := Lib.hid (RY.out he)
    subst he
    clear RY RN
    go_wp2_with fail
    (try simp only [Exit.inBlock, Exit.then]); refine bodyPost_ret (results_refData_any _ _ (b := w.heap.size + 1) (v0 := .slice A0 n0 c0) (v1 := .slice A1 n1 c1) (v2 := .slice A2 n2 c2) (v3 := .slice A3 n3 c3) (v4 := .slice A4 n4 c4) (v5 := .slice A5 n5 c5) rfl (by go_simp) (by go_simp) (by go_simp) (by go_simp) (by go_simp) (by go_simp)) rfl ?_
    rw [RV.out]; exact ⟨_, _, _, _, _, _, rfl, RR.out, ((((((hb2.setCell (p := ⟨w.heap.size + 1, 0, none⟩) hN1 _).setCell (p := ⟨w.heap.size + 1, 1, none⟩) hN1 _).setCell (p := ⟨w.heap.size + 1, 2, none⟩) hN1 _).setCell (p := ⟨w.heap.size + 1, 3, none⟩) hN1 _).setCell (p := ⟨w.heap.size + 1, 4, none⟩) hN1 _).setCell (p := ⟨w.heap.size + 1, 5, none⟩) hN1 _)⟩

  · have q : (ce != 0) = true := by simpa using he
    have RR := Lib.hid (RN.out he)
    clear RY RN he
    go_wp2_with fail
    (try simp only [Exit.inBlock, Exit.then]); refine bodyPost_ret (results_refData_any _ _ (b := w.heap.size + 1) (v0 := .slice none 0 0) (v1 := .slice none 0 0) (v2 := .slice none 0 0) (v3 := .slice none 0 0) (v4 := .slice none 0 0) (v5 := .slice none 0 0) rfl (by go_simp) (by go_simp) (by go_simp) (by go_simp) (by go_simp) (by go_simp)) rfl ?_
    rw [RV.out]; exact ⟨_, _, _, _, _, _, rfl, RR.out, ((((((hb2.setCell (p := ⟨w.heap.size + 1, 0, none⟩) hN1 _).setCell (p := ⟨w.heap.size + 1, 1, none⟩) hN1 _).setCell (p := ⟨w.heap.size + 1, 2, none⟩) hN1 _).setCell (p := ⟨w.heap.size + 1, 3, none⟩) hN1 _).setCell (p := ⟨w.heap.size + 1, 4, none⟩) hN1 _).setCell (p := ⟨w.heap.size + 1, 5, none⟩) hN1 _)⟩

end Go.Proofs.Ytpamkbbmbeeheaa
