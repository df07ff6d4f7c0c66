/- Texts that are merged into one file: NormUs, MapsRange, PairKey. -/
import Derived.Test.YtjglanjfgbipmaaGreatDoorG04
import Derived.Test.YtjglanjfgbipmaaGreatDoorG13
import Derived.Test.YtjglanjfgbipmaaGreatDoorG20
import Derived.Maps.RangeWalk
/- Contracts of usable, of the reference's Data and Counted: the data where it is valid, else empty data. -/
namespace Go.Proofs.YtjglanjfgbipmaaGreatDoor
open Go.RowKit Go.Maps Go.WideMaps

/-- data of normalization is returned -/
def RetNrm (x : Nrm) (w : World) (e : Ending) (w' : World) : Prop := ∃ A0 k0 A1 k1 A2 k2, e = .returned (.agg #[.slice A0 x.cls.length k0, .slice A1 x.dec.length k1, .slice A2 x.exc.length k2]) ∧ NrmAt w' A0 x.cls.length A1 x.dec.length A2 x.exc.length x ∧ Below w.heap.size w w'
theorem results_nrm {fn : Func} (hr : fn.results = #[.cell 2 28]) (tmps : Array Value) (w : World) {b : Nat} {v0 v1 v2 : Value} (ha : tmps.getD 2 undef = .pointer (some ⟨b, 0, none⟩))
    (c0 : w.cell? ⟨b, 0, none⟩ = some v0) (c1 : w.cell? ⟨b, 1, none⟩ = some v1) (c2 : w.cell? ⟨b, 2, none⟩ = some v2) :
    (results fn tmps).run Tryz.prog w = .ok (.agg #[v0, v1, v2]) w := by
  unfold results
  rw [hr]
  simp only [ha, List.mapM_toArray, List.mapM_cons, List.mapM_nil, asAddr]
  go_simp
theorem NrmAt.empty (w : World) : NrmAt w none 0 none 0 none 0 ⟨[], [], []⟩ := ⟨Sl.nil _ _, Mps.nil _ _, Sl.nil _ _, rfl, rfl, rfl⟩
theorem usN_bad {x : Nrm} (h : ¬ nErr x = 0) : usN x = ⟨[], [], []⟩ := if_neg h
theorem usN_good {x : Nrm} (h : nErr x = 0) : usN x = x := if_pos h
/-- what usable returns -/
def usV (x : Nrm) (A0 : Option Addr) (k0 : Nat) (A1 : Option Addr) (k1 : Nat) (A2 : Option Addr) (k2 : Nat) : Value := if nErr x = 0 then .agg #[.slice A0 x.cls.length k0, .slice A1 x.dec.length k1, .slice A2 x.exc.length k2] else .agg #[.slice none 0 0, .slice none 0 0, .slice none 0 0]
theorem usV_bad {x : Nrm} (A0 : Option Addr) (k0 : Nat) (A1 : Option Addr) (k1 : Nat) (A2 : Option Addr) (k2 : Nat) (h : ¬ nErr x = 0) : usV x A0 k0 A1 k1 A2 k2 = .agg #[.slice none 0 0, .slice none 0 0, .slice none 0 0] := if_neg h
theorem usV_good {x : Nrm} (A0 : Option Addr) (k0 : Nat) (A1 : Option Addr) (k1 : Nat) (A2 : Option Addr) (k2 : Nat) (h : nErr x = 0) : usV x A0 k0 A1 k1 A2 k2 = .agg #[.slice A0 x.cls.length k0, .slice A1 x.dec.length k1, .slice A2 x.exc.length k2] := if_pos h
theorem usV_at {w : World} {A0 : Option Addr} {n0 : Nat} {A1 : Option Addr} {n1 : Nat} {A2 : Option Addr} {n2 : Nat} {x : Nrm} (h : NrmAt w A0 n0 A1 n1 A2 n2 x) (k0 k1 k2 : Nat) : ∃ B0 c0 B1 c1 B2 c2, usV x A0 k0 A1 k1 A2 k2 = .agg #[.slice B0 (usN x).cls.length c0, .slice B1 (usN x).dec.length c1, .slice B2 (usN x).exc.length c2] ∧
    ∀ W, Below w.heap.size w W → NrmAt W B0 (usN x).cls.length B1 (usN x).dec.length B2 (usN x).exc.length (usN x) := by
  by_cases hc : nErr x = 0
  · rw [usN_good hc, usV_good _ _ _ _ _ _ hc]
    exact ⟨_, _, _, _, _, _, rfl, fun W hb => ⟨h.s0.below hb, h.s1.below hb, h.s2.below hb, rfl, rfl, rfl⟩⟩
  · rw [usN_bad hc, usV_bad _ _ _ _ _ _ hc]
    exact ⟨none, 0, none, 0, none, 0, rfl, fun W _ => NrmAt.empty W⟩
theorem NrmSz.us {x : Nrm} (h : NrmSz x) : NrmSz (usN x) := by
  unfold usN
  split
  · exact h
  · exact ⟨by simp, ⟨by simp, fun i hi => by simp at hi⟩, by simp⟩

set_option maxRecDepth 100000 in
set_option maxHeartbeats 1600000 in
theorem cpUsable_eq (A0 : Option Addr) (n0 k0 : Nat) (A1 : Option Addr) (n1 k1 : Nat) (A2 : Option Addr) (n2 k2 : Nat) (x : Nrm) (w : World) (hN : NrmAt w A0 n0 A1 n1 A2 n2 x) (hz : NrmSz x) (hL : Laid w) :
    Calls Tryz.prog 31 #[.agg #[.slice A0 n0 k0, .slice A1 n1 k1, .slice A2 n2 k2]] w (fun e w' => e = .returned (usV x A0 k0 A1 k1 A2 k2) ∧ Below w.heap.size w w') := by
  obtain ⟨hS, hM, hR, rfl, rfl, rfl⟩ := hN
  have B0 : Below w.heap.size w ((w.alloc (.cells #[.slice A0 x.cls.length k0, .slice A1 x.dec.length k1, .slice A2 x.exc.length k2] 28)).alloc (.cells #[.slice none 0 0, .slice none 0 0, .slice none 0 0] 28)) := ((Below.refl _ _).alloc (Nat.le_refl _) _).alloc (by simp) _
  have X0 : Box ((w.alloc (.cells #[.slice A0 x.cls.length k0, .slice A1 x.dec.length k1, .slice A2 x.exc.length k2] 28)).alloc (.cells #[.slice none 0 0, .slice none 0 0, .slice none 0 0] 28)) w.heap.size 28 [.slice A0 x.cls.length k0, .slice A1 x.dec.length k1, .slice A2 x.exc.length k2] :=
    (Box.new w _ [.slice A0 x.cls.length k0, .slice A1 x.dec.length k1, .slice A2 x.exc.length k2] rfl).below (B := w.heap.size + 1) ((Below.refl _ _).alloc (by simp) _) (by omega)
  have X1 : Box ((w.alloc (.cells #[.slice A0 x.cls.length k0, .slice A1 x.dec.length k1, .slice A2 x.exc.length k2] 28)).alloc (.cells #[.slice none 0 0, .slice none 0 0, .slice none 0 0] 28)) (w.heap.size + 1) 28 [.slice none 0 0, .slice none 0 0, .slice none 0 0] := Box.new _ _ _ (by simp)
  have W0E : ∃ W0, ((w.alloc (.cells #[.slice A0 x.cls.length k0, .slice A1 x.dec.length k1, .slice A2 x.exc.length k2] 28)).alloc (.cells #[.slice none 0 0, .slice none 0 0, .slice none 0 0] 28)) = W0 := ⟨_, rfl⟩
  have hN : ∀ W, Below w.heap.size w W → NrmAt W A0 x.cls.length A1 x.dec.length A2 x.exc.length x := fun W hb => ⟨hS.below hb, hM.below hb, hR.below hb, rfl, rfl, rfl⟩
  have CC := Lib.hid (fun W (hb : Below w.heap.size w W) => dCheck_any A0 x.cls.length k0 A1 x.dec.length k1 A2 x.exc.length k2 x W (hN W hb) hz (hL.below hb))
  have UB := Lib.hid (usV_bad (x := x) A0 k0 A1 k1 A2 k2)
  have UG := Lib.hid (usV_good (x := x) A0 k0 A1 k1 A2 k2)
  clear hN hS hM hR hz
  generalize hu : usV x A0 k0 A1 k1 A2 k2 = y at *
  generalize hc : nErr x = c at *
  clear hu hc
  go_enter Tryz.func31, Tryz.ntmps31
  go_wp2_with fail
  obtain ⟨W0, hW0⟩ := W0E
  rw [hW0] at B0 X0 X1 ⊢
  clear hW0
  have s0 := X0.lt
  have s1 := X1.lt
  have c0 := X0.cell (i := 0) rfl
  have c1 := X0.cell (i := 1) rfl
  have c2 := X0.cell (i := 2) rfl
  go_wp2_with fail
  with_reducible refine (CC.out _ B0).mono ?_
  rintro e W1 ⟨rfl, hb1⟩
  have Y0 := X0.below hb1 s0
  have Y1 := X1.below hb1 s1
  have B1 := B0.trans (hb1.mono B0.size)
  clear c0 c1 c2 X0 X1 B0 hb1
  have c0 := Y0.cell (i := 0) rfl
  have c1 := Y0.cell (i := 1) rfl
  have c2 := Y0.cell (i := 2) rfl
  have d0 := Y1.cell (i := 0) rfl
  have d1 := Y1.cell (i := 1) rfl
  have d2 := Y1.cell (i := 2) rfl
  have f0 := Y1.free 0
  have f1 := Y1.free 1
  have f2 := Y1.free 2
  have HB := Lib.hid (fun (u0 u1 u2 : Value) => show Below w.heap.size w (((W1.setCell ⟨w.heap.size + 1, 0, none⟩ u0).setCell ⟨w.heap.size + 1, 1, none⟩ u1).setCell ⟨w.heap.size + 1, 2, none⟩ u2) from ((B1.setCell (by simp) _).setCell (by simp) _).setCell (by simp) _)
  by_cases h0 : c = 0
  · have HY := Lib.hid (UG.out h0)
    subst h0
    go_wp2_with fail
    (try simp only [Exit.inBlock, Exit.then]); refine bodyPost_ret (results_nrm rfl _ _ (b := w.heap.size + 1) (v0 := .slice A0 x.cls.length k0) (v1 := .slice A1 x.dec.length k1) (v2 := .slice A2 x.exc.length k2) rfl (by go_simp) (by go_simp) (by go_simp)) rfl ?_
    exact ⟨by rw [HY.out], HB.out _ _ _⟩
  · have HY := Lib.hid (UB.out h0)
    have h1 : (c != 0) = true := by simpa using h0
    go_wp2_with fail
    (try simp only [Exit.inBlock, Exit.then]); refine bodyPost_ret (results_nrm rfl _ _ (b := w.heap.size + 1) (v0 := .slice none 0 0) (v1 := .slice none 0 0) (v2 := .slice none 0 0) rfl (by go_simp) (by go_simp) (by go_simp)) rfl ?_
    exact ⟨by rw [HY.out], HB.out _ _ _⟩

theorem cpUsable_any (A0 : Option Addr) (n0 k0 : Nat) (A1 : Option Addr) (n1 k1 : Nat) (A2 : Option Addr) (n2 k2 : Nat) (x : Nrm) (w : World) (hN : NrmAt w A0 n0 A1 n1 A2 n2 x) (hz : NrmSz x) (hL : Laid w) :
    Calls Tryz.prog 31 #[.agg #[.slice A0 n0 k0, .slice A1 n1 k1, .slice A2 n2 k2]] w (RetNrm (usN x) w) := by
  obtain ⟨B0, c0, B1, c1, B2, c2, h1, h2⟩ := usV_at hN k0 k1 k2
  refine (cpUsable_eq A0 n0 k0 A1 n1 k1 A2 n2 k2 x w hN hz hL).mono ?_
  rintro e w' ⟨rfl, hb⟩
  exact ⟨B0, c0, B1, c1, B2, c2, by rw [h1], h2 w' hb, hb⟩

set_option maxRecDepth 100000 in
set_option maxHeartbeats 1600000 in
theorem refData_eq (A0 : Option Addr) (n0 k0 : Nat) (A1 : Option Addr) (n1 k1 : Nat) (A2 : Option Addr) (n2 k2 : Nat) (x : Nrm) (w : World) (hN : NrmAt w A0 n0 A1 n1 A2 n2 x) (hz : NrmSz x) :
    Calls Tryz.prog 43 #[.agg #[.slice A0 n0 k0, .slice A1 n1 k1, .slice A2 n2 k2]] w (fun e w' => e = .returned (usV x A0 k0 A1 k1 A2 k2) ∧ Below w.heap.size w w') := by
  obtain ⟨hS, hM, hR, rfl, rfl, rfl⟩ := hN
  have B0 : Below w.heap.size w ((w.alloc (.cells #[.slice A0 x.cls.length k0, .slice A1 x.dec.length k1, .slice A2 x.exc.length k2] 28)).alloc (.cells #[.slice none 0 0, .slice none 0 0, .slice none 0 0] 28)) := ((Below.refl _ _).alloc (Nat.le_refl _) _).alloc (by simp) _
  have X0 : Box ((w.alloc (.cells #[.slice A0 x.cls.length k0, .slice A1 x.dec.length k1, .slice A2 x.exc.length k2] 28)).alloc (.cells #[.slice none 0 0, .slice none 0 0, .slice none 0 0] 28)) w.heap.size 28 [.slice A0 x.cls.length k0, .slice A1 x.dec.length k1, .slice A2 x.exc.length k2] :=
    (Box.new w _ [.slice A0 x.cls.length k0, .slice A1 x.dec.length k1, .slice A2 x.exc.length k2] rfl).below (B := w.heap.size + 1) ((Below.refl _ _).alloc (by simp) _) (by omega)
  have X1 : Box ((w.alloc (.cells #[.slice A0 x.cls.length k0, .slice A1 x.dec.length k1, .slice A2 x.exc.length k2] 28)).alloc (.cells #[.slice none 0 0, .slice none 0 0, .slice none 0 0] 28)) (w.heap.size + 1) 28 [.slice none 0 0, .slice none 0 0, .slice none 0 0] := Box.new _ _ _ (by simp)
  have W0E : ∃ W0, ((w.alloc (.cells #[.slice A0 x.cls.length k0, .slice A1 x.dec.length k1, .slice A2 x.exc.length k2] 28)).alloc (.cells #[.slice none 0 0, .slice none 0 0, .slice none 0 0] 28)) = W0 := ⟨_, rfl⟩
  have hN : ∀ W, Below w.heap.size w W → NrmAt W A0 x.cls.length A1 x.dec.length A2 x.exc.length x := fun W hb => ⟨hS.below hb, hM.below hb, hR.below hb, rfl, rfl, rfl⟩
  have CC := Lib.hid (fun W (hb : Below w.heap.size w W) => rdCheck_any A0 x.cls.length k0 A1 x.dec.length k1 A2 x.exc.length k2 x W (hN W hb) hz)
  have UB := Lib.hid (usV_bad (x := x) A0 k0 A1 k1 A2 k2)
  have UG := Lib.hid (usV_good (x := x) A0 k0 A1 k1 A2 k2)
  clear hN hS hM hR hz
  generalize hu : usV x A0 k0 A1 k1 A2 k2 = y at *
  generalize hc : nErr x = c at *
  clear hu hc
  go_enter Tryz.func43, Tryz.ntmps43
  go_wp2_with fail
  obtain ⟨W0, hW0⟩ := W0E
  rw [hW0] at B0 X0 X1 ⊢
  clear hW0
  have s0 := X0.lt
  have s1 := X1.lt
  have c0 := X0.cell (i := 0) rfl
  have c1 := X0.cell (i := 1) rfl
  have c2 := X0.cell (i := 2) rfl
  go_wp2_with fail
  with_reducible refine (CC.out _ B0).mono ?_
  rintro e W1 ⟨rfl, hb1⟩
  have Y0 := X0.below hb1 s0
  have Y1 := X1.below hb1 s1
  have B1 := B0.trans (hb1.mono B0.size)
  clear c0 c1 c2 X0 X1 B0 hb1
  have c0 := Y0.cell (i := 0) rfl
  have c1 := Y0.cell (i := 1) rfl
  have c2 := Y0.cell (i := 2) rfl
  have d0 := Y1.cell (i := 0) rfl
  have d1 := Y1.cell (i := 1) rfl
  have d2 := Y1.cell (i := 2) rfl
  have f0 := Y1.free 0
  have f1 := Y1.free 1
  have f2 := Y1.free 2
  have HB := Lib.hid (fun (u0 u1 u2 : Value) => show Below w.heap.size w (((W1.setCell ⟨w.heap.size + 1, 0, none⟩ u0).setCell ⟨w.heap.size + 1, 1, none⟩ u1).setCell ⟨w.heap.size + 1, 2, none⟩ u2) from ((B1.setCell (by simp) _).setCell (by simp) _).setCell (by simp) _)
  by_cases h0 : c = 0
  · have HY := Lib.hid (UG.out h0)
    subst h0
    go_wp2_with fail
    (try simp only [Exit.inBlock, Exit.then]); refine bodyPost_ret (results_nrm rfl _ _ (b := w.heap.size + 1) (v0 := .slice A0 x.cls.length k0) (v1 := .slice A1 x.dec.length k1) (v2 := .slice A2 x.exc.length k2) rfl (by go_simp) (by go_simp) (by go_simp)) rfl ?_
    exact ⟨by rw [HY.out], HB.out _ _ _⟩
  · have HY := Lib.hid (UB.out h0)
    have h1 : (c != 0) = true := by simpa using h0
    go_wp2_with fail
    (try simp only [Exit.inBlock, Exit.then]); refine bodyPost_ret (results_nrm rfl _ _ (b := w.heap.size + 1) (v0 := .slice none 0 0) (v1 := .slice none 0 0) (v2 := .slice none 0 0) rfl (by go_simp) (by go_simp) (by go_simp)) rfl ?_
    exact ⟨by rw [HY.out], HB.out _ _ _⟩

theorem refData_any (A0 : Option Addr) (n0 k0 : Nat) (A1 : Option Addr) (n1 k1 : Nat) (A2 : Option Addr) (n2 k2 : Nat) (x : Nrm) (w : World) (hN : NrmAt w A0 n0 A1 n1 A2 n2 x) (hz : NrmSz x) :
    Calls Tryz.prog 43 #[.agg #[.slice A0 n0 k0, .slice A1 n1 k1, .slice A2 n2 k2]] w (RetNrm (usN x) w) := by
  obtain ⟨B0, c0, B1, c1, B2, c2, h1, h2⟩ := usV_at hN k0 k1 k2
  refine (refData_eq A0 n0 k0 A1 n1 k1 A2 n2 k2 x w hN hz).mono ?_
  rintro e w' ⟨rfl, hb⟩
  exact ⟨B0, c0, B1, c1, B2, c2, by rw [h1], h2 w' hb, hb⟩

set_option maxRecDepth 100000 in
set_option maxHeartbeats 1600000 in
theorem refCounted_eq (A0 : Option Addr) (n0 k0 : Nat) (A1 : Option Addr) (n1 k1 : Nat) (A2 : Option Addr) (n2 k2 : Nat) (x : Nrm) (w : World) (hN : NrmAt w A0 n0 A1 n1 A2 n2 x) (hz : NrmSz x) :
    Calls Tryz.prog 20 #[.agg #[.slice A0 n0 k0, .slice A1 n1 k1, .slice A2 n2 k2]] w (fun e w' => e = .returned (usV x A0 k0 A1 k1 A2 k2) ∧ Below w.heap.size w w') := by
  obtain ⟨hS, hM, hR, rfl, rfl, rfl⟩ := hN
  have B0 : Below w.heap.size w ((w.alloc (.cells #[.slice A0 x.cls.length k0, .slice A1 x.dec.length k1, .slice A2 x.exc.length k2] 28)).alloc (.cells #[.slice none 0 0, .slice none 0 0, .slice none 0 0] 28)) := ((Below.refl _ _).alloc (Nat.le_refl _) _).alloc (by simp) _
  have X0 : Box ((w.alloc (.cells #[.slice A0 x.cls.length k0, .slice A1 x.dec.length k1, .slice A2 x.exc.length k2] 28)).alloc (.cells #[.slice none 0 0, .slice none 0 0, .slice none 0 0] 28)) w.heap.size 28 [.slice A0 x.cls.length k0, .slice A1 x.dec.length k1, .slice A2 x.exc.length k2] :=
    (Box.new w _ [.slice A0 x.cls.length k0, .slice A1 x.dec.length k1, .slice A2 x.exc.length k2] rfl).below (B := w.heap.size + 1) ((Below.refl _ _).alloc (by simp) _) (by omega)
  have X1 : Box ((w.alloc (.cells #[.slice A0 x.cls.length k0, .slice A1 x.dec.length k1, .slice A2 x.exc.length k2] 28)).alloc (.cells #[.slice none 0 0, .slice none 0 0, .slice none 0 0] 28)) (w.heap.size + 1) 28 [.slice none 0 0, .slice none 0 0, .slice none 0 0] := Box.new _ _ _ (by simp)
  have W0E : ∃ W0, ((w.alloc (.cells #[.slice A0 x.cls.length k0, .slice A1 x.dec.length k1, .slice A2 x.exc.length k2] 28)).alloc (.cells #[.slice none 0 0, .slice none 0 0, .slice none 0 0] 28)) = W0 := ⟨_, rfl⟩
  have hN : ∀ W, Below w.heap.size w W → NrmAt W A0 x.cls.length A1 x.dec.length A2 x.exc.length x := fun W hb => ⟨hS.below hb, hM.below hb, hR.below hb, rfl, rfl, rfl⟩
  have CC := Lib.hid (fun W (hb : Below w.heap.size w W) => rdCheck_any A0 x.cls.length k0 A1 x.dec.length k1 A2 x.exc.length k2 x W (hN W hb) hz)
  have UB := Lib.hid (usV_bad (x := x) A0 k0 A1 k1 A2 k2)
  have UG := Lib.hid (usV_good (x := x) A0 k0 A1 k1 A2 k2)
  clear hN hS hM hR hz
  generalize hu : usV x A0 k0 A1 k1 A2 k2 = y at *
  generalize hc : nErr x = c at *
  clear hu hc
  go_enter Tryz.func20, Tryz.ntmps20
  go_wp2_with fail
  obtain ⟨W0, hW0⟩ := W0E
  rw [hW0] at B0 X0 X1 ⊢
  clear hW0
  have s0 := X0.lt
  have s1 := X1.lt
  have c0 := X0.cell (i := 0) rfl
  have c1 := X0.cell (i := 1) rfl
  have c2 := X0.cell (i := 2) rfl
  go_wp2_with fail
  with_reducible refine (CC.out _ B0).mono ?_
  rintro e W1 ⟨rfl, hb1⟩
  have Y0 := X0.below hb1 s0
  have Y1 := X1.below hb1 s1
  have B1 := B0.trans (hb1.mono B0.size)
  clear c0 c1 c2 X0 X1 B0 hb1
  have c0 := Y0.cell (i := 0) rfl
  have c1 := Y0.cell (i := 1) rfl
  have c2 := Y0.cell (i := 2) rfl
  have d0 := Y1.cell (i := 0) rfl
  have d1 := Y1.cell (i := 1) rfl
  have d2 := Y1.cell (i := 2) rfl
  have f0 := Y1.free 0
  have f1 := Y1.free 1
  have f2 := Y1.free 2
  have HB := Lib.hid (fun (u0 u1 u2 : Value) => show Below w.heap.size w (((W1.setCell ⟨w.heap.size + 1, 0, none⟩ u0).setCell ⟨w.heap.size + 1, 1, none⟩ u1).setCell ⟨w.heap.size + 1, 2, none⟩ u2) from ((B1.setCell (by simp) _).setCell (by simp) _).setCell (by simp) _)
  by_cases h0 : c = 0
  · have HY := Lib.hid (UG.out h0)
    subst h0
    go_wp2_with fail
    (try simp only [Exit.inBlock, Exit.then]); refine bodyPost_ret (results_nrm rfl _ _ (b := w.heap.size + 1) (v0 := .slice A0 x.cls.length k0) (v1 := .slice A1 x.dec.length k1) (v2 := .slice A2 x.exc.length k2) rfl (by go_simp) (by go_simp) (by go_simp)) rfl ?_
    exact ⟨by rw [HY.out], HB.out _ _ _⟩
  · have HY := Lib.hid (UB.out h0)
    have h1 : (c != 0) = true := by simpa using h0
    go_wp2_with fail
    (try simp only [Exit.inBlock, Exit.then]); refine bodyPost_ret (results_nrm rfl _ _ (b := w.heap.size + 1) (v0 := .slice none 0 0) (v1 := .slice none 0 0) (v2 := .slice none 0 0) rfl (by go_simp) (by go_simp) (by go_simp)) rfl ?_
    exact ⟨by rw [HY.out], HB.out _ _ _⟩

theorem refCounted_any (A0 : Option Addr) (n0 k0 : Nat) (A1 : Option Addr) (n1 k1 : Nat) (A2 : Option Addr) (n2 k2 : Nat) (x : Nrm) (w : World) (hN : NrmAt w A0 n0 A1 n1 A2 n2 x) (hz : NrmSz x) :
    Calls Tryz.prog 20 #[.agg #[.slice A0 n0 k0, .slice A1 n1 k1, .slice A2 n2 k2]] w (RetNrm (usN x) w) := by
  obtain ⟨B0, c0, B1, c1, B2, c2, h1, h2⟩ := usV_at hN k0 k1 k2
  refine (refCounted_eq A0 n0 k0 A1 n1 k1 A2 n2 k2 x w hN hz).mono ?_
  rintro e w' ⟨rfl, hb⟩
  exact ⟨B0, c0, B1, c1, B2, c2, by rw [h1], h2 w' hb, hb⟩
end Go.Proofs.YtjglanjfgbipmaaGreatDoor
/- Ranging over a map that is known asq a partial function; maps whose keys are pairs of ints. -/
namespace Go.Proofs.YtjglanjfgbipmaaGreatDoor
open Go.RowKit Go.Maps Go.WideMaps

/-- a loop over the map in block b is under way; the keys x with L x are still to come -/
def MRange {κ : Type} (P : Program) (k : TypeId) (kl : κ → Lit) (ok : κ → Prop) (w : World) (b r n : Nat) (f : κ → Option Value) (L : κ → Prop) (cnt : Nat) : Prop :=
  ∃ (D : DataW Value) (left : Lit → Bool), w.ranges P k elemV b r n D left cnt ∧ (∀ x, ok x → Maps.has D (kl x) = (f x).isSome ∧ ∀ z, D.atKey (kl x) (.held z) = .held ((f x).getD z)) ∧ ∀ x, ok x → (left (kl x) = true ↔ L x)

section
variable {κ : Type} {P : Program} {k : TypeId} {kl : κ → Lit} {ok : κ → Prop} {w w' : World} {b r n cnt : Nat} {f : κ → Option Value} {L : κ → Prop}
theorem MRange.kept {row : Option Nat} (h : MRange P k kl ok w b r n f L cnt) (hg : w.grownBy w' row) (hb : some b ≠ row) (hr : some r ≠ row) : MRange P k kl ok w' b r n f L cnt := by
  obtain ⟨D, left, h1, h2⟩ := h
  exact ⟨D, left, h1.kept hg hb hr, h2⟩
theorem grown_of_below (hb : Below w.heap.size w w') : w.grownBy w' none := ⟨hb.os, hb.tape, hb.output, hb.size, fun k hk _ => hb.block k hk⟩
theorem MRange.below (h : MRange P k kl ok w b r n f L cnt) (hb : Below w.heap.size w w') : MRange P k kl ok w' b r n f L cnt := h.kept (grown_of_below hb) (by simp) (by simp)
theorem MRange.left_eq (h : MRange P k kl ok w b r n f L cnt) : w.rangeLeft b r = cnt := by
  obtain ⟨D, left, h1, _⟩ := h
  exact h1.left_eq
theorem MRange.cnt_le (h : MRange P k kl ok w b r n f L cnt) : cnt ≤ n := by
  obtain ⟨D, left, ⟨es, clock, since, seen, c0, _, _, hs, _, _, _, hc, _⟩, _⟩ := h
  rw [← hc]
  exact Nat.le_trans (by unfold leftOf; exact Array.size_filter_le) hs
theorem MRange.lt (h : MRange P k kl ok w b r n f L cnt) : r < w.heap.size ∧ b < w.heap.size := by
  obtain ⟨D, left, h1, _⟩ := h
  exact ⟨h1.lt, h1.owns.lt⟩
end
section
variable {κ : Type} {P : Program} {w : World} {ops : Array Oper} {rest : List Oper} {o : Oper} {a : Act} {Q : Exit → Act → World → Prop}
variable {k : TypeId} {kl : κ → Lit} {ok : κ → Prop} {b n : Nat} {f : κ → Option Value}
theorem wpList_mrange (hg : o.guard = none) (m : Operand) (t : TypeId) (hop : o.op = Op.range t m) {e : TypeId} (h : MapIs P k kl ok w b n f) (K : Keyed P k) (ht : P.underlying t = some (.map k e)) (hm : a.eval m = .map (some b))
    (hK : ∀ w' cnt, MRange P k kl ok w' b w.heap.size n f (fun x => (f x).isSome = true) cnt → w.grownBy w' none → w'.heap.size = w.heap.size + 1 → wpList P ops Q rest (a.put o.dst (.pointer (some ⟨w.heap.size, 0, none⟩))) w') :
    wpList P ops Q (o :: rest) a w := by
  obtain ⟨D, h1, h2⟩ := h
  refine wpList_range_own w hg m t hop k e K ht elemV b n D hm h1 (fun w' r1 r2 r3 => hK w' _ ⟨D, _, r1, h2, fun x hx => ?_⟩ r2 r3)
  rw [(h2 x hx).1]
theorem wpList_mnext {mkK : κ → Value} (hg : o.guard = none) (it : Operand) (hop : o.op = Op.next it false) {r cnt : Nat} {L : κ → Prop} (h : MRange P k kl ok w b r n f L cnt) (K : Keyed P k)
    (inv : ∀ key l, keyOf P k key = some l → ∃ x, ok x ∧ key = mkK x ∧ l = kl x) (hinj : ∀ x y, ok x → ok y → kl x = kl y → x = y) (hL : ∀ x, ok x → L x → (f x).isSome = true) (hit : a.eval it = .pointer (some ⟨r, 0, none⟩))
    (hDone : cnt = 0 → (∀ x, ok x → ¬ L x) → wpList P ops Q rest (a.put o.dst (.tuple #[.bool false])) w)
    (hMore : ∀ x v w' cnt', ok x → L x → f x = some v → MRange P k kl ok w' b r n f (fun y => L y ∧ y ≠ x) cnt' → cnt' < cnt → w.grownBy w' (some r) → w'.heap.size = w.heap.size → (Instr.entry (.pointer (some ⟨r, 0, none⟩))).run P w' = .ok (.tuple #[mkK x, v]) w' →
      wpList P ops Q rest (a.put o.dst (.tuple #[.bool true, mkK x, v])) w') : wpList P ops Q (o :: rest) a w := by
  obtain ⟨D, left, h1, h2, h3⟩ := h
  refine wpList_plain hg fun K' hK' => ?_
  unfold Oper.wp
  rcases h1.next K o.type with ⟨h0, hl, hrun⟩ | ⟨key, v, l, y, w', cnt', hkey, hlk, hv, hat, hrun, hrg, hlt, hgr, hsz, hen⟩
  · simp [execOp, hop, hit, hrun, Result.andThen]
    exact hK' _ _ (hDone h0 (fun x hx hLx => by have := (h3 x hx).2 hLx; rw [hl] at this; cases this))
  · obtain ⟨x, hx, rfl, rfl⟩ := inv key l hkey
    have hLx := (h3 x hx).1 hlk
    have hfx : f x = some v := by
      have e1 := (h2 x hx).2 v
      rw [hat] at e1
      have e2 : y = (.held v, []) := by unfold elemV at hv; injection hv with hv; exact hv.symm
      rw [e2] at e1
      dsimp only at e1
      have hs := hL x hx hLx
      cases hf : f x with
      | none => rw [hf] at hs; cases hs
      | some u => 
        have e3 := (h2 x hx).2 (.bool true)
        rw [hat, e2, hf] at e3
        injection e3 with e3
        rw [e3]; rfl
    simp [execOp, hop, hit, hrun, Result.andThen]
    refine hK' _ _ (hMore x v w' cnt' hx hLx hfx ⟨D, _, hrg, h2, fun z hz => ?_⟩ hlt hgr hsz hen)
    rw [Bool.and_eq_true, h3 z hz]
    refine and_congr_right fun _ => ?_
    rw [Bool.not_eq_true']
    constructor
    · intro hs e
      subst e
      rw [WideAt.sameKey_self (K.key hkey)] at hs
      cases hs
    · intro hne
      cases hs : (kl z).sameKey (kl x) with
      | false => rfl
      | true => exact absurd (hinj z x hz hx (WideAt.sameKey_eq hs)) hne
end
end Go.Proofs.YtjglanjfgbipmaaGreatDoor
/- Maps whose keys are pairs of ints. -/
namespace Go.Proofs.YtjglanjfgbipmaaGreatDoor
open Go.RowKit Go.Maps Go.WideMaps

def pval (p : Int × Int) : Value := .agg #[.int .i64 p.1, .int .i64 p.2]
theorem law_pair : Keyed Tryz.prog 58 := Keyed.of_law (deep_law_laid (by kernel_rfl) (m := 2) (by omega) (of_decide_eq_true (by kernel_rfl)) (by kernel_rfl) (by kernel_rfl))
noncomputable def plit (p : Int × Int) : Lit := (keyOf Tryz.prog 58 (pval p)).getD (.bool false)
def pok (p : Int × Int) : Prop := (Lit.int .i64 p.1).wf = true ∧ (Lit.int .i64 p.2).wf = true
theorem pkey_some {p : Int × Int} (h : pok p) : keyOf Tryz.prog 58 (pval p) = some (plit p) := by
  have h9 : (keyOf Tryz.prog 58 (pval p)).isSome = true := by
    obtain ⟨f, t⟩ := p
    obtain ⟨h1, h2⟩ := h
    dsimp only at h1 h2
    have hk : Tryz.prog.keyType 58 = true := by kernel_rfl
    have hu := Tryz.underlying58
    have hi := Tryz.underlying3
    have hc2 : Tryz.prog.cellsOf 58 = 2 := by kernel_rfl
    have hc1 : Tryz.prog.cellsOf 3 = 1 := by kernel_rfl
    obtain ⟨m, hm⟩ : ∃ m, Tryz.prog.types.size = m + 1 := ⟨Tryz.prog.types.size - 1, by kernel_rfl⟩
    unfold keyOf pval
    rw [hu]
    simp only [hk, hm, Value.formed, hu, hc2]
    unfold Program.keyLits
    rw [hu]
    simp only [hc2]
    simp [Program.keyLits, hi, hc1, h1, h2, Value.cells, List.range, List.range.loop]
  unfold plit
  cases hk : keyOf Tryz.prog 58 (pval p) with
  | none => rw [hk] at h9; cases h9
  | some y => rfl
theorem pval_inj {x y : Int × Int} (h : pval x = pval y) : x = y := by
  obtain ⟨x1, x2⟩ := x
  obtain ⟨y1, y2⟩ := y
  unfold pval at h
  simp at h
  rw [h.1, h.2]
theorem plit_inj {x y : Int × Int} (hx : pok x) (hy : pok y) (h : plit x = plit y) : x = y := by
  have a := pkey_some hx
  have b := pkey_some hy
  rw [h] at a
  exact pval_inj (law_pair.inj a b)
theorem lits_int {P : Program} {ti : TypeId} (hi : P.underlying ti = some (.int .i64)) {d : Nat} {u : Value} {ls : List Lit} (h : P.keyLits (d + 1) ti [u] = some ls) : ∃ n, u = .int .i64 n ∧ (Lit.int .i64 n).wf = true := by
  unfold Program.keyLits at h
  rw [hi] at h
  cases u <;> simp at h
  obtain ⟨⟨rfl, w1⟩, _⟩ := h
  exact ⟨_, rfl, w1⟩
theorem lits_arr {P : Program} {t e : TypeId} {n : Nat} (hu : P.underlying t = some (.array n e)) (d : Nat) (cs : List Value) :
    P.keyLits (d + 1) t cs = if cs.length = P.cellsOf t then ((List.range n).mapM fun i => P.keyLits d e ((cs.drop (i * P.cellsOf e)).take (P.cellsOf e))).map List.flatten else none := by
  rw [Program.keyLits]
  rw [hu]
theorem pair_inv {P : Program} {t ti : TypeId} (hk : P.keyType t = true) (hu : P.underlying t = some (.array 2 ti)) (hi : P.underlying ti = some (.int .i64)) (hc2 : P.cellsOf t = 2) (hc1 : P.cellsOf ti = 1) {m : Nat} (hm : P.types.size = m + 1) {key : Value} {l : Lit} (h : keyOf P t key = some l) :
    ∃ p, pok p ∧ key = pval p := by
  unfold keyOf at h
  rw [hu] at h
  simp only [hk, hm, Bool.true_and] at h
  split at h
  · next hf =>
    unfold Value.formed at hf
    cases key <;> simp only [hu, hc2, Bool.false_eq_true] at hf
    next cs =>
      obtain ⟨l⟩ := cs
      match l with
      | [] => simp at hf
      | [_] => simp at hf
      | _ :: _ :: _ :: _ => simp at hf
      | [u, v] =>
        rw [lits_arr hu] at h
        simp only [hc2, Value.cells] at h
        simp [hc1, List.range, List.range.loop, Option.bind_eq_some_iff] at h
        obtain ⟨_, h1, _, ⟨_, h2, _⟩, _⟩ := h
        obtain ⟨n1, rfl, w1⟩ := lits_int hi h1
        obtain ⟨n2, rfl, w2⟩ := lits_int hi h2
        exact ⟨(_, _), ⟨w1, w2⟩, rfl⟩
  · cases h
theorem pkey_inv {key : Value} {l : Lit} (h : keyOf Tryz.prog 58 key = some l) : ∃ p, pok p ∧ key = pval p ∧ l = plit p := by
  obtain ⟨m, hm⟩ : ∃ m, Tryz.prog.types.size = m + 1 := ⟨Tryz.prog.types.size - 1, by kernel_rfl⟩
  obtain ⟨p, h1, h2⟩ := pair_inv (by kernel_rfl) Tryz.underlying58 Tryz.underlying3 (by kernel_rfl) (by kernel_rfl) hm h
  refine ⟨p, h1, h2, ?_⟩
  have h3 := pkey_some h1
  rw [← h2] at h3
  exact Option.some.inj (h.symm.trans h3)
end Go.Proofs.YtjglanjfgbipmaaGreatDoor
