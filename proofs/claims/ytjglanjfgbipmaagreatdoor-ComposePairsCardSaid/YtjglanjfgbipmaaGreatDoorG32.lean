/- Texts that are merged into one file: LawB. -/
import Derived.Test.YtjglanjfgbipmaaGreatDoorG26
import Derived.Test.YtjglanjfgbipmaaGreatDoorG29
import Derived.Test.YtjglanjfgbipmaaGreatDoorG31
/- The walk of the law ComposePairs. Written by gen_lawb.py. -/
namespace Go.Proofs.YtjglanjfgbipmaaGreatDoor
open Go.RowKit Go.Maps Go.WideMaps

set_option maxRecDepth 100000 in
set_option maxHeartbeats 25600000 in
theorem ComposePairs_any (A0 : Option Addr) (k0 : Nat) (A1 : Option Addr) (k1 : Nat) (A2 : Option Addr) (k2 : Nat) (x : Nrm) (u v : Int) (w : World) (hN : NrmAt w A0 x.cls.length A1 x.dec.length A2 x.exc.length x) (hl : NrmLn x) (hu : iok u) (hv : iok v) (hL : Laid w) :
    Calls Tryz.prog 3 #[.agg #[.slice A0 x.cls.length k0, .slice A1 x.dec.length k1, .slice A2 x.exc.length k2], .int .i64 u, .int .i64 v] w (RetTrue w) := by
  have HU := Lib.hid hu
  have HV := Lib.hid hv
  clear hu hv
  have B0 : Below w.heap.size w (w.alloc (.cells #[.slice A0 x.cls.length k0, .slice A1 x.dec.length k1, .slice A2 x.exc.length k2] 28)) := (Below.refl _ _).alloc (Nat.le_refl _) _
  have X0 : Box (w.alloc (.cells #[.slice A0 x.cls.length k0, .slice A1 x.dec.length k1, .slice A2 x.exc.length k2] 28)) w.heap.size 28 [.slice A0 x.cls.length k0, .slice A1 x.dec.length k1, .slice A2 x.exc.length k2] := Box.new w 28 [.slice A0 x.cls.length k0, .slice A1 x.dec.length k1, .slice A2 x.exc.length k2] rfl
  have W0E : ∃ W0, (w.alloc (.cells #[.slice A0 x.cls.length k0, .slice A1 x.dec.length k1, .slice A2 x.exc.length k2] 28)) = W0 := ⟨_, rfl⟩
  have CA := Lib.hid (fun W (hb : Below w.heap.size w W) => hN.below hb)
  have HLd := Lib.hid (fun W (hb : Below w.heap.size w W) => hL.below hb)
  have HL := Lib.hid hl
  have SZ := Lib.hid (smallN_sz (x := x))
  clear hN hL hl
  obtain ⟨i0, hi, hz0, hz1, hz2⟩ := info_parts info_int
  have q3 := fun W x y z x' y' z' => run_equalIn_array3 (P := Tryz.prog) W 9998 36 3 .i64 i0 Tryz.underlying36 Tryz.underlying3 hi hz1 x y z x' y' z'
  clear hi hz0 hz1 hz2
  go_enter Tryz.func3, Tryz.ntmps3
  go_wp2_with fail
  obtain ⟨W0, hW0⟩ := W0E
  try rw [hW0] at B0 X0 ⊢
  clear hW0
  have SH := Lib.hid (fun W' (hb' : Below W0.heap.size W0 W') => show W'.cell? ⟨w.heap.size, 0, none⟩ = some (.slice A0 x.cls.length k0) ∧ W'.cell? ⟨w.heap.size, 1, none⟩ = some (.slice A1 x.dec.length k1) ∧ W'.cell? ⟨w.heap.size, 2, none⟩ = some (.slice A2 x.exc.length k2) ∧ Below W0.heap.size W0 W' from ⟨(X0.below hb' X0.lt).cell (i := 0) rfl, (X0.below hb' X0.lt).cell (i := 1) rfl, (X0.below hb' X0.lt).cell (i := 2) rfl, hb'⟩)
  have KM := Lib.hid (fun W (hb' : Below W0.heap.size W0 W) => smallN_any A0 _ k0 A1 _ k1 A2 _ k2 x W (CA.out W (B0.trans (hb'.mono B0.size))) HL.out.z0 HL.out.z1 HL.out.z2 HL.out.ze)
  have KA := Lib.hid (fun W (hb' : Below W0.heap.size W0 W) => awake_any W (HLd.out W (B0.trans (hb'.mono B0.size))))
  with_reducible refine (KM.out W0 (Below.refl _ _)).mono ?_
  rintro e W1 ⟨rfl, hb1⟩
  cases hs : smallN x with
  | false =>
    go_wp2_with fail
    with_reducible refine (KA.out W1 hb1).mono ?_
    rintro e W9 ⟨rfl, hb9⟩
    have hbn := B0.trans ((hb1).trans (hb9.mono (hb1).size) |>.mono B0.size)
    go_wp2_with fail
    go_ret
    exact ⟨rfl, hbn⟩
  | true =>
    have hz := SZ.out hs
    have KP := Lib.hid (fun W (hb' : Below W0.heap.size W0 W) => show Calls Tryz.prog 11 #[.agg #[.slice A0 x.cls.length k0, .slice A1 x.dec.length k1, .slice A2 x.exc.length k2], .int .i64 u, .int .i64 v] W (fun e w' => e = .returned (.tuple #[.int .i64 ((prN (usN x) u v).getD 0), .bool (prN (usN x) u v).isSome]) ∧ Below W.heap.size W w') from cpPair_any A0 _ k0 A1 _ k1 A2 _ k2 x u v W (CA.out W (B0.trans (hb'.mono B0.size))) hz (HLd.out W (B0.trans (hb'.mono B0.size))) ⟨HU.out, HV.out⟩)
    have KR := Lib.hid (fun W (hb' : Below W0.heap.size W0 W) => show Calls Tryz.prog 12 #[.agg #[.slice A0 x.cls.length k0, .slice A1 x.dec.length k1, .slice A2 x.exc.length k2], .int .i64 u, .int .i64 v] W (fun e w' => e = .returned (.tuple #[.int .i64 ((prN (usN x) u v).getD 0), .bool (prN (usN x) u v).isSome]) ∧ Below W.heap.size W w') from refPair_any A0 _ k0 A1 _ k1 A2 _ k2 x u v W (CA.out W (B0.trans (hb'.mono B0.size))) hz)
    have KX := Lib.hid (fun c W (hb' : Below W0.heap.size W0 W) => (cpPrimary_any A0 _ k0 A1 _ k1 A2 _ k2 x c W (CA.out W (B0.trans (hb'.mono B0.size))) hz (HLd.out W (B0.trans (hb'.mono B0.size)))).mono (R' := RetBool (primB (usN x) c) W) (fun e w' ⟨b, he, hb, hbl⟩ => ⟨by rw [he, primB_of hb], hbl⟩))
    have KY := Lib.hid (fun c W (hb' : Below W0.heap.size W0 W) => refPrimary_any A0 _ k0 A1 _ k1 A2 _ k2 x c W (CA.out W (B0.trans (hb'.mono B0.size))) hz)
    have KL := Lib.hid (fun W (hb' : Below W0.heap.size W0 W) => (cpPairs_any A0 _ k0 A1 _ k1 A2 _ k2 x W (CA.out W (B0.trans (hb'.mono B0.size))) hz (HLd.out W (B0.trans (hb'.mono B0.size)))).mono (R' := fun e W' => ∃ v, e = .returned v ∧ (W'.cell? ⟨w.heap.size, 0, none⟩ = some (.slice A0 x.cls.length k0) ∧ W'.cell? ⟨w.heap.size, 1, none⟩ = some (.slice A1 x.dec.length k1) ∧ W'.cell? ⟨w.heap.size, 2, none⟩ = some (.slice A2 x.exc.length k2) ∧ Below W0.heap.size W0 W') ∧ (∃ L E d, v = .slice E L.length d ∧ PairsOk (usN x) L ∧ Sl W' E (L.flatMap encT) ∧ Below W.heap.size W W')) (fun e W' ⟨L, hL, E, d, he, g1, g2, g3⟩ => ⟨_, he, SH.out W' (hb'.trans (g3.mono hb'.size)), L, E, d, rfl, hL, g2, g3⟩))
    have KN := Lib.hid (fun W (hb' : Below W0.heap.size W0 W) => (refPairs_any A0 _ k0 A1 _ k1 A2 _ k2 x W (CA.out W (B0.trans (hb'.mono B0.size))) hz).mono (R' := fun e W' => ∃ v, e = .returned v ∧ (W'.cell? ⟨w.heap.size, 0, none⟩ = some (.slice A0 x.cls.length k0) ∧ W'.cell? ⟨w.heap.size, 1, none⟩ = some (.slice A1 x.dec.length k1) ∧ W'.cell? ⟨w.heap.size, 2, none⟩ = some (.slice A2 x.exc.length k2) ∧ Below W0.heap.size W0 W') ∧ (∃ L E d, v = .slice E L.length d ∧ PairsOk (usN x) L ∧ Sl W' E (L.flatMap encT) ∧ L.length ≤ 1048576 ∧ Below W.heap.size W W')) (fun e W' ⟨L, hL, hll, E, d, he, g1, g2, g3⟩ => ⟨_, he, SH.out W' (hb'.trans (g3.mono hb'.size)), L, E, d, rfl, hL, Sl.of_own g2, by have := hz.us.z1.n; omega, g3⟩))
    have PPR := Lib.hid (fun c (h : prN (usN x) u v = some c) => prim_pr h)
    have UNQ := Lib.hid (fun L M (h : PairsOk (usN x) L) (g : PairsOk (usN x) M) => h.unique g)
    have KAH := Lib.hid (fun W (hb' : Below W0.heap.size W0 W) => (KA.out W hb').mono (R' := fun e W' => e = .returned (.bool true) ∧ (W'.cell? ⟨w.heap.size, 0, none⟩ = some (.slice A0 x.cls.length k0) ∧ W'.cell? ⟨w.heap.size, 1, none⟩ = some (.slice A1 x.dec.length k1) ∧ W'.cell? ⟨w.heap.size, 2, none⟩ = some (.slice A2 x.exc.length k2) ∧ Below W0.heap.size W0 W')) (fun e W' hh => ⟨hh.1, SH.out W' (hb'.trans (hh.2.mono hb'.size))⟩))
    have p0 := (X0.below hb1 X0.lt).cell (i := 0) rfl
    have p1 := (X0.below hb1 X0.lt).cell (i := 1) rfl
    have p2 := (X0.below hb1 X0.lt).cell (i := 2) rfl
    clear HU HV SZ
    generalize usN x = y at *
    generalize hpr : prN y u v = pr at *
    have PPS := Lib.hid (fun (h : pr.isSome = true) => show primB y (pr.getD 0) = true from by
      cases pr with
      | none => cases h
      | some c => exact PPR.out c rfl)
    clear PPR hpr
    have XU := Lib.hid (fun W hb' => KX.out u W hb')
    have YU := Lib.hid (fun W hb' => KY.out u W hb')
    have XV := Lib.hid (fun W hb' => KX.out (pr.getD 0) W hb')
    clear KX KY
    generalize primB y (pr.getD 0) = pvB at *
    generalize primB y u = puB at *
    generalize pr.getD 0 = pv at *
    generalize pr.isSome = pb at *
    have hee : (pv != pv) = false := by simp
    have hbb : (pb != pb) = false := by simp
    have hcc : (puB != puB) = false := by simp
    go_wp2_with fail
    with_reducible refine (KP.out W1 hb1).mono ?_
    rintro e W2 ⟨rfl, hbe2⟩
    have hb2 := hb1.trans (hbe2.mono hb1.size)
    clear p0 p1 p2 hbe2 KP
    have p0 := (X0.below hb2 X0.lt).cell (i := 0) rfl
    have p1 := (X0.below hb2 X0.lt).cell (i := 1) rfl
    have p2 := (X0.below hb2 X0.lt).cell (i := 2) rfl
    go_wp2_with fail
    with_reducible refine (KR.out W2 hb2).mono ?_
    rintro e W3 ⟨rfl, hbe3⟩
    have hb3 := hb2.trans (hbe3.mono hb2.size)
    clear p0 p1 p2 hbe3 KR
    have XUH := Lib.hid (fun W (hb' : Below W0.heap.size W0 W) => (XU.out W hb').mono (R' := fun e W' => e = .returned (.bool puB) ∧ (W'.cell? ⟨w.heap.size, 0, none⟩ = some (.slice A0 x.cls.length k0) ∧ W'.cell? ⟨w.heap.size, 1, none⟩ = some (.slice A1 x.dec.length k1) ∧ W'.cell? ⟨w.heap.size, 2, none⟩ = some (.slice A2 x.exc.length k2) ∧ Below W0.heap.size W0 W')) (fun e W' hh => ⟨hh.1, SH.out W' (hb'.trans (hh.2.mono hb'.size))⟩))
    have YUH := Lib.hid (fun W (hb' : Below W0.heap.size W0 W) => (YU.out W hb').mono (R' := fun e W' => e = .returned (.bool puB) ∧ (W'.cell? ⟨w.heap.size, 0, none⟩ = some (.slice A0 x.cls.length k0) ∧ W'.cell? ⟨w.heap.size, 1, none⟩ = some (.slice A1 x.dec.length k1) ∧ W'.cell? ⟨w.heap.size, 2, none⟩ = some (.slice A2 x.exc.length k2) ∧ Below W0.heap.size W0 W')) (fun e W' hh => ⟨hh.1, SH.out W' (hb'.trans (hh.2.mono hb'.size))⟩))
    have p0 := (X0.below hb3 X0.lt).cell (i := 0) rfl
    have p1 := (X0.below hb3 X0.lt).cell (i := 1) rfl
    have p2 := (X0.below hb3 X0.lt).cell (i := 2) rfl
    go_wp2_with fail
    refine wp_region_held_drew (S := fun W' => W'.cell? ⟨w.heap.size, 0, none⟩ = some (.slice A0 x.cls.length k0) ∧ W'.cell? ⟨w.heap.size, 1, none⟩ = some (.slice A1 x.dec.length k1) ∧ W'.cell? ⟨w.heap.size, 2, none⟩ = some (.slice A2 x.exc.length k2) ∧ Below W0.heap.size W0 W') (by kernel_rfl) (SH.out _ (hb3.drew)) (fun hHeld => ?_)
    refine anyH_take (i := 0) (v := ?_) (some 32) rfl rfl (by kernel_rfl) (by kernel_rfl) (by kernel_rfl) (fun _ _ _ h => h) (by rfl) (by assumption) ?_ ?_
    rotate_left
    · intro w hSw; (try dsimp only at hSw); go_split_ands; go_simp; try (with_reducible rfl)
    try simp only [Act.put, List.setIfInBounds_toArray, List.set_cons_zero, List.set_cons_succ]
    refine anyH_take (i := 1) (v := ?_) (some 33) rfl rfl (by kernel_rfl) (by kernel_rfl) (by kernel_rfl) (fun _ _ _ h => h) (by rfl) (by assumption) ?_ ?_
    rotate_left
    · intro w hSw; (try dsimp only at hSw); go_split_ands; go_simp; try (with_reducible rfl)
    try simp only [Act.put, List.setIfInBounds_toArray, List.set_cons_zero, List.set_cons_succ]
    refine anyH_take (i := 2) (v := ?_) (some 34) rfl rfl (by kernel_rfl) (by kernel_rfl) (by kernel_rfl) (fun _ _ _ h => h) (by rfl) (by assumption) ?_ ?_
    rotate_left
    · intro w hSw; (try dsimp only at hSw); go_split_ands; go_simp; try (with_reducible rfl)
    try simp only [Act.put, List.setIfInBounds_toArray, List.set_cons_zero, List.set_cons_succ]
    refine anyH_take (i := 3) (v := ?_) (some 35) rfl rfl (by kernel_rfl) (by kernel_rfl) (by kernel_rfl) (fun _ _ _ h => h) (by rfl) (by assumption) ?_ ?_
    rotate_left
    · intro w hSw; (try dsimp only at hSw); go_split_ands; go_simp; try (with_reducible rfl)
    try simp only [Act.put, List.setIfInBounds_toArray, List.set_cons_zero, List.set_cons_succ]
    refine anyH_take (i := 4) (v := ?_) (some 36) rfl rfl (by kernel_rfl) (by kernel_rfl) (by kernel_rfl) (fun _ _ _ h => h) (by rfl) (by assumption) ?_ ?_
    rotate_left
    · intro w hSw; (try dsimp only at hSw); go_split_ands; go_simp; try (with_reducible rfl)
    try simp only [Act.put, List.setIfInBounds_toArray, List.set_cons_zero, List.set_cons_succ]
    refine anyH_take (i := 5) (v := ?_) (some 37) rfl rfl (by kernel_rfl) (by kernel_rfl) (by kernel_rfl) (fun _ _ _ h => h) (by rfl) (by assumption) ?_ ?_
    rotate_left
    · intro w hSw; (try dsimp only at hSw); go_split_ands; go_simp; try (with_reducible rfl)
    try simp only [Act.put, List.setIfInBounds_toArray, List.set_cons_zero, List.set_cons_succ]
    refine anyH_take (i := 6) (v := ?_) (some 38) rfl rfl (by kernel_rfl) (by kernel_rfl) (by kernel_rfl) (fun _ _ _ h => h) (by rfl) (by assumption) ?_ ?_
    rotate_left
    · intro w hSw; (try dsimp only at hSw); go_split_ands; go_simp; try (with_reducible rfl)
    try simp only [Act.put, List.setIfInBounds_toArray, List.set_cons_zero, List.set_cons_succ]
    refine anyH_take (i := 7) (v := ?_) (some 39) rfl rfl (by kernel_rfl) (by kernel_rfl) (by kernel_rfl) (fun _ _ _ h => h) (by rfl) (by assumption) ?_ ?_
    rotate_left
    · intro w hSw; (try dsimp only at hSw); go_split_ands; go_simp; try (with_reducible rfl)
    try simp only [Act.put, List.setIfInBounds_toArray, List.set_cons_zero, List.set_cons_succ]
    refine anyH_take (i := 8) (v := ?_) (some 40) rfl rfl (by kernel_rfl) (by kernel_rfl) (by kernel_rfl) (fun _ _ _ h => h) (by rfl) (by assumption) ?_ ?_
    rotate_left
    · intro w hSw; (try dsimp only at hSw); go_split_ands; go_simp; try (with_reducible rfl)
    try simp only [Act.put, List.setIfInBounds_toArray, List.set_cons_zero, List.set_cons_succ]
    refine anyH_take (i := 9) (v := ?_) (some 41) rfl rfl (by kernel_rfl) (by kernel_rfl) (by kernel_rfl) (fun _ _ _ h => h) (by rfl) (by assumption) ?_ ?_
    rotate_left
    · intro w hSw; (try dsimp only at hSw); go_split_ands; go_simp; try (with_reducible rfl)
    try simp only [Act.put, List.setIfInBounds_toArray, List.set_cons_zero, List.set_cons_succ]
    refine anyH_take (i := 10) (v := ?_) (some 42) rfl rfl (by kernel_rfl) (by kernel_rfl) (by kernel_rfl) (fun _ _ _ h => h) (by rfl) (by assumption) ?_ ?_
    rotate_left
    · intro w hSw; (try dsimp only at hSw); go_split_ands; go_simp; try (with_reducible rfl)
    try simp only [Act.put, List.setIfInBounds_toArray, List.set_cons_zero, List.set_cons_succ]
    refine anyH_take (i := 12) (v := ?_) (some 44) rfl rfl (by kernel_rfl) (by kernel_rfl) (by kernel_rfl) (fun _ _ _ h => h) (by rfl) (by assumption) ?_ ?_
    rotate_left
    · intro w hSw; (try dsimp only at hSw); go_split_ands; go_simp; try (with_reducible rfl)
    try simp only [Act.put, List.setIfInBounds_toArray, List.set_cons_zero, List.set_cons_succ]
    refine anyH_take (i := 13) (v := ?_) (some 45) rfl rfl (by kernel_rfl) (by kernel_rfl) (by kernel_rfl) (fun _ _ _ h => h) (by rfl) (by assumption) ?_ ?_
    rotate_left
    · intro w hSw; (try dsimp only at hSw); go_split_ands; go_simp; try (with_reducible rfl)
    try simp only [Act.put, List.setIfInBounds_toArray, List.set_cons_zero, List.set_cons_succ]
    refine anyH_call (i := 11) (some 43) rfl rfl (by kernel_rfl) (by rfl) (by go_simp) (XUH.out _ hHeld.2.2.2) (fun W4 hS6 => ?_)
    clear hHeld
    have hHeld := hS6
    clear hS6
    try simp only [Act.put, List.setIfInBounds_toArray, List.set_cons_zero, List.set_cons_succ]
    refine anyH_call (i := 14) (some 46) rfl rfl (by kernel_rfl) (by rfl) (by go_simp) (YUH.out _ hHeld.2.2.2) (fun W5 hS6 => ?_)
    clear hHeld
    have hHeld := hS6
    clear hS6
    try simp only [Act.put, List.setIfInBounds_toArray, List.set_cons_zero, List.set_cons_succ]
    refine anyH_take (i := 15) (v := ?_) (some 47) rfl rfl (by kernel_rfl) (by kernel_rfl) (by kernel_rfl) (fun _ _ _ h => h) (by rfl) (by assumption) ?_ ?_
    rotate_left
    · intro w hSw; (try dsimp only at hSw); go_split_ands; go_simp; try (with_reducible rfl)
    try simp only [Act.put, List.setIfInBounds_toArray, List.set_cons_zero, List.set_cons_succ]
    refine anyH_take (i := 16) (v := ?_) (some 48) rfl rfl (by kernel_rfl) (by kernel_rfl) (by kernel_rfl) (fun _ _ _ h => h) (by rfl) (by assumption) ?_ ?_
    rotate_left
    · intro w hSw; (try dsimp only at hSw); go_split_ands; go_simp; try (with_reducible rfl)
    try simp only [Act.put, List.setIfInBounds_toArray, List.set_cons_zero, List.set_cons_succ]
    refine wpAnyH_done (by kernel_rfl) ?_ _
    have hb5 := hHeld.2.2.2
    clear hHeld XUH YUH XU YU p0 p1 p2
    have p0 := (X0.below hb5 X0.lt).cell (i := 0) rfl
    have p1 := (X0.below hb5 X0.lt).cell (i := 1) rfl
    have p2 := (X0.below hb5 X0.lt).cell (i := 2) rfl
    go_wp2_with fail
    refine wp_region_held_drew (S := fun W' => W'.cell? ⟨w.heap.size, 0, none⟩ = some (.slice A0 x.cls.length k0) ∧ W'.cell? ⟨w.heap.size, 1, none⟩ = some (.slice A1 x.dec.length k1) ∧ W'.cell? ⟨w.heap.size, 2, none⟩ = some (.slice A2 x.exc.length k2) ∧ Below W0.heap.size W0 W') (by kernel_rfl) (SH.out _ (hb5.drew)) (fun hHeld => ?_)
    refine anyH_take (i := 0) (v := ?_) (some 49) rfl rfl (by kernel_rfl) (by kernel_rfl) (by kernel_rfl) (fun _ _ _ h => h) (by rfl) (by assumption) ?_ ?_
    rotate_left
    · intro w hSw; (try dsimp only at hSw); go_split_ands; go_simp; try (with_reducible rfl)
    try simp only [Act.put, List.setIfInBounds_toArray, List.set_cons_zero, List.set_cons_succ]
    refine anyH_take (i := 2) (v := ?_) (some 51) rfl rfl (by kernel_rfl) (by kernel_rfl) (by kernel_rfl) (fun _ _ _ h => h) (by rfl) (by assumption) ?_ ?_
    rotate_left
    · intro w hSw; (try dsimp only at hSw); go_split_ands; go_simp; try (with_reducible rfl)
    try simp only [Act.put, List.setIfInBounds_toArray, List.set_cons_zero, List.set_cons_succ]
    refine anyH_callE (i := 1) (some 50) rfl rfl (by kernel_rfl) (by rfl) (by go_simp) (KL.out _ hHeld.2.2.2) ?_
    rintro _ W6 hS6 ⟨L, E1, d1, rfl, hP1, hS1, hbe6⟩
    clear hHeld
    have hHeld := hS6
    clear hS6
    try simp only [Act.put, List.setIfInBounds_toArray, List.set_cons_zero, List.set_cons_succ]
    refine anyH_callE (i := 3) (some 52) rfl rfl (by kernel_rfl) (by rfl) (by go_simp) (KN.out _ hHeld.2.2.2) ?_
    rintro _ W7 hS6 ⟨L2, E2, d2, rfl, hP2, hS2, hL2, hbe7⟩
    clear hHeld
    have hHeld := hS6
    clear hS6
    try simp only [Act.put, List.setIfInBounds_toArray, List.set_cons_zero, List.set_cons_succ]
    obtain rfl := UNQ.out L L2 hP1 hP2
    have HS1 := Lib.hid (hS1.below hbe7)
    have HS2 := Lib.hid hS2
    clear hS1 hS2 hP1 hP2 hbe6 hbe7
    refine anyH_take (i := 4) (v := ?_) (some 11) rfl rfl (by kernel_rfl) (by kernel_rfl) (by kernel_rfl) (fun _ _ _ h => h) (by rfl) (by assumption) ?_ ?_
    rotate_left
    · intro w hSw; (try dsimp only at hSw); go_split_ands; go_simp; try (with_reducible rfl)
    try simp only [Act.put, List.setIfInBounds_toArray, List.set_cons_zero, List.set_cons_succ]
    refine anyH_take (i := 5) (v := ?_) (some 12) rfl rfl (by kernel_rfl) (by kernel_rfl) (by kernel_rfl) (fun _ _ _ h => h) (by rfl) (by assumption) ?_ ?_
    rotate_left
    · intro w hSw; (try dsimp only at hSw); go_split_ands; go_simp; try (with_reducible rfl)
    try simp only [Act.put, List.setIfInBounds_toArray, List.set_cons_zero, List.set_cons_succ]
    refine wpAnyH_done (by kernel_rfl) ?_ _
    have hb7 := hHeld.2.2.2
    have hll : ((L.length : Int) != (L.length : Int)) = false := by simp
    clear hHeld KL KN p0 p1 p2 UNQ
    go_wp2_with fail
    go_loopw [13] (fun u wr => ∃ i : Nat, i ≤ L.length ∧ u = .int .i64 i ∧ Below W7.heap.size W7 wr) (fun u _ => L.length - (intOf u).toNat)
    case atStart => exact ⟨0, Nat.zero_le _, rfl, Below.refl _ _⟩
    case round =>
      obtain ⟨i, hi, rfl, hbr⟩ := hrel
      by_cases hlt : i < L.length
      · obtain ⟨b1, o1, rfl, r0, r1, r2⟩ := tri_at (HS1.out.below hbr) hlt
        obtain ⟨b2, o2, rfl, s0, s1, s2⟩ := tri_at (HS2.out.below hbr) hlt
        generalize L[i] = li at *
        obtain ⟨l0, l1, l2⟩ := li
        dsimp only at *
        go_wp2_with fail
        go_quiet (fail)
        have hbz := below_drewN hbr nq
        go_wp2_with fail
        go_roundw
        case rel => exact ⟨i + 1, by omega, by go_num, hbz⟩
        case measure => simp [intOf]; omega
      · have hb8 := hb7.trans (hbr.mono hb7.size)
        have p0 := (X0.below hb8 X0.lt).cell (i := 0) rfl
        have p1 := (X0.below hb8 X0.lt).cell (i := 1) rfl
        have p2 := (X0.below hb8 X0.lt).cell (i := 2) rfl
        cases pb with
        | false =>
          go_wp2_with fail
          with_reducible refine (KA.out wr hb8).mono ?_
          rintro e W9 ⟨rfl, hb9⟩
          have hbn := B0.trans ((hb8.trans (hb9.mono hb8.size)).mono B0.size)
          go_wp2_with fail
          go_ret
          exact ⟨rfl, hbn⟩
        | true =>
          obtain rfl := PPS.out rfl
          go_wp2_with fail
          with_reducible refine (XV.out wr hb8).mono ?_
          rintro e W8 ⟨rfl, hbe8⟩
          have hb88 := hb8.trans (hbe8.mono hb8.size)
          go_wp2_with fail
          with_reducible refine (KA.out W8 hb88).mono ?_
          rintro e W9 ⟨rfl, hb9⟩
          have hbn := B0.trans ((hb88.trans (hb9.mono hb88.size)).mono B0.size)
          go_wp2_with fail
          go_ret
          exact ⟨rfl, hbn⟩

end Go.Proofs.YtjglanjfgbipmaaGreatDoor
