/- Texts that are merged into one file: LawD. -/
import Derived.Test.YtjglanjfgbipmaaGreatDoorG17
import Derived.Test.YtjglanjfgbipmaaGreatDoorG26
import Derived.Test.YtjglanjfgbipmaaGreatDoorG29
import Derived.Test.YtjglanjfgbipmaaGreatDoorG36
/- The walk of the law ComposeSecond. Written by gen_lawd.py. -/
namespace Go.Proofs.YtjglanjfgbipmaaGreatDoor
open Go.RowKit Go.Maps Go.WideMaps

set_option maxRecDepth 100000 in
set_option maxHeartbeats 25600000 in
theorem ComposeSecond_any (A0 : Option Addr) (k0 : Nat) (A1 : Option Addr) (k1 : Nat) (A2 : Option Addr) (k2 : Nat) (x : Nrm) (u v : Int) (w : World) (hN : NrmAt w A0 x.cls.length A1 x.dec.length A2 x.exc.length x) (hl : NrmLn x) (hu : iok u) (hv : iok v) (hL : Laid w) :
    Calls Tryz.prog 8 #[.agg #[.slice A0 x.cls.length k0, .slice A1 x.dec.length k1, .slice A2 x.exc.length k2], .int .i64 u, .int .i64 v] w (RetTrue w) := by
  have HU := Lib.hid hu
  have HV := Lib.hid hv
  clear hu hv
  have B0 : Below w.heap.size w (w.alloc (.cells #[.slice A0 x.cls.length k0, .slice A1 x.dec.length k1, .slice A2 x.exc.length k2] 28)) := (Below.refl _ _).alloc (Nat.le_refl _) _
  have X0 : Box (w.alloc (.cells #[.slice A0 x.cls.length k0, .slice A1 x.dec.length k1, .slice A2 x.exc.length k2] 28)) w.heap.size 28 [.slice A0 x.cls.length k0, .slice A1 x.dec.length k1, .slice A2 x.exc.length k2] := Box.new w 28 [.slice A0 x.cls.length k0, .slice A1 x.dec.length k1, .slice A2 x.exc.length k2] rfl
  have W0E : ∃ W0, (w.alloc (.cells #[.slice A0 x.cls.length k0, .slice A1 x.dec.length k1, .slice A2 x.exc.length k2] 28)) = W0 := ⟨_, rfl⟩
  have CA := Lib.hid (fun W (hb : Below w.heap.size w W) => hN.below hb)
  have HLd := Lib.hid (fun W (hb : Below w.heap.size w W) => hL.below hb)
  have HL := Lib.hid hl
  have SZ := Lib.hid (smallN_sz (x := x))
  clear hN hL hl
  go_enter Tryz.func8, Tryz.ntmps8
  go_wp2_with fail
  obtain ⟨W0, hW0⟩ := W0E
  try rw [hW0] at B0 X0 ⊢
  clear hW0
  have KM := Lib.hid (fun W (hb' : Below W0.heap.size W0 W) => smallN_any A0 _ k0 A1 _ k1 A2 _ k2 x W (CA.out W (B0.trans (hb'.mono B0.size))) HL.out.z0 HL.out.z1 HL.out.z2 HL.out.ze)
  have KA := Lib.hid (fun W (hb' : Below W0.heap.size W0 W) => awake_any W (HLd.out W (B0.trans (hb'.mono B0.size))))
  with_reducible refine (KM.out W0 (Below.refl _ _)).mono ?_
  rintro e W1 ⟨rfl, hb1⟩
  cases hs : smallN x with
  | false =>
    go_wp2_with fail
    with_reducible refine (KA.out W1 hb1).mono ?_
    rintro e W9 ⟨rfl, hb9⟩
    have hbn := B0.trans ((hb1).trans (hb9.mono (hb1).size) |>.mono B0.size)
    go_wp2_with fail
    go_ret
    exact ⟨rfl, hbn⟩
  | true =>
    have hz := SZ.out hs
    have hdz : x.dec.length ≤ 40 := by
      unfold smallN at hs
      simp at hs
      omega
    have hny := usN_ok x
    have KS := Lib.hid (fun W (hb' : Below W0.heap.size W0 W) => cpSecond_any A0 _ k0 A1 _ k1 A2 _ k2 x W (CA.out W (B0.trans (hb'.mono B0.size))) hz (HLd.out W (B0.trans (hb'.mono B0.size))) hdz)
    have KP := Lib.hid (fun W (hb' : Below W0.heap.size W0 W) => show Calls Tryz.prog 11 #[.agg #[.slice A0 x.cls.length k0, .slice A1 x.dec.length k1, .slice A2 x.exc.length k2], .int .i64 u, .int .i64 v] W (fun e w' => e = .returned (.tuple #[.int .i64 ((prN (usN x) u v).getD 0), .bool (prN (usN x) u v).isSome]) ∧ Below W.heap.size W w') from cpPair_any A0 _ k0 A1 _ k1 A2 _ k2 x u v W (CA.out W (B0.trans (hb'.mono B0.size))) hz (HLd.out W (B0.trans (hb'.mono B0.size))) ⟨HU.out, HV.out⟩)
    have KR := Lib.hid (fun W (hb' : Below W0.heap.size W0 W) => refSecond_any A0 _ k0 A1 _ k1 A2 _ k2 x W (CA.out W (B0.trans (hb'.mono B0.size))) hz hdz)
    have UNQ := Lib.hid (fun L M (h : PairsOk (usN x) L) (g : PairsOk (usN x) M) => h.unique g)
    have SHS := Lib.hid (fun L (h : PairsOk (usN x) L) (hp : (prN (usN x) u v).isSome = true) => show hasR (canR (secR L)) v = true from by
      cases hq : prN (usN x) u v with
      | none => rw [hq] at hp; cases hp
      | some p => exact sec_has hny h hq)
    have g0 := (X0.below hb1 X0.lt).cell (i := 0) rfl
    have g1 := (X0.below hb1 X0.lt).cell (i := 1) rfl
    have g2 := (X0.below hb1 X0.lt).cell (i := 2) rfl
    clear HU HV SZ hny
    generalize usN x = y at *
    generalize (prN y u v).getD 0 = pv at *
    generalize (prN y u v).isSome = pb at *
    go_wp2_with fail
    with_reducible refine (KS.out W1 hb1).mono ?_
    rintro e W2 ⟨L, hPO, hLL, F, f, rfl, hf, hF, hbe2⟩
    have hrl : (canR (secR L)).length ≤ 1048576 := by
      have := canR_len (secR L)
      rw [secR_len] at this
      omega
    have HPO := Lib.hid hPO
    have HSO := Lib.hid (fun h => SHS.out L hPO h)
    generalize hRR : canR (secR L) = R at *
    have HRE := Lib.hid hRR
    have hal := (Below.refl W2.heap.size W2).alloc (Nat.le_refl _) (.cells #[.slice F R.length f] 26)
    have hb2 := (hb1.trans (hbe2.mono hb1.size)).trans (hal.mono (hb1.trans (hbe2.mono hb1.size)).size)
    have HF3 := Lib.hid (Rgs.below hF hal)
    have HX3 : Box (W2.alloc (.cells #[.slice F R.length f] 26)) W2.heap.size 26 [.slice F R.length f] := Box.new W2 _ _ rfl
    have q0 := (X0.below hb2 X0.lt).cell (i := 0) rfl
    have q1 := (X0.below hb2 X0.lt).cell (i := 1) rfl
    have q2 := (X0.below hb2 X0.lt).cell (i := 2) rfl
    have WaE : ∃ Wa, W2.alloc (.cells #[.slice F R.length f] 26) = Wa := ⟨_, rfl⟩
    clear g0 g1 g2 hbe2 KS hF hPO hal SHS hRR
    go_wp2_with fail
    obtain ⟨Wa, hWa⟩ := WaE
    try rw [hWa] at hb2 HF3 HX3 q0 q1 q2 ⊢
    clear hWa
    with_reducible refine (KP.out Wa hb2).mono ?_
    rintro e W4 ⟨rfl, hbe4⟩
    have hb4 := hb2.trans (hbe4.mono hb2.size)
    have HF4 := Lib.hid (HF3.out.below hbe4)
    have XS4 := HX3.below hbe4 HX3.lt
    have p0 := (X0.below hb4 X0.lt).cell (i := 0) rfl
    have p1 := (X0.below hb4 X0.lt).cell (i := 1) rfl
    have p2 := (X0.below hb4 X0.lt).cell (i := 2) rfl
    have p3 := XS4.cell (i := 0) rfl
    clear q0 q1 q2 hbe4 HF3 HX3 KP
    have SG := Lib.hid (fun W' (hb' : Below W4.heap.size W4 W') => show W'.cell? ⟨w.heap.size, 0, none⟩ = some (.slice A0 x.cls.length k0) ∧ W'.cell? ⟨w.heap.size, 1, none⟩ = some (.slice A1 x.dec.length k1) ∧ W'.cell? ⟨w.heap.size, 2, none⟩ = some (.slice A2 x.exc.length k2) ∧ W'.cell? ⟨W2.heap.size, 0, none⟩ = some (.slice F R.length f) ∧ Below W4.heap.size W4 W' from ⟨(hb'.cell (World.block_lt_of_cell? _ _ p0)).trans p0, (hb'.cell (World.block_lt_of_cell? _ _ p1)).trans p1, (hb'.cell (World.block_lt_of_cell? _ _ p2)).trans p2, (hb'.cell (World.block_lt_of_cell? _ _ p3)).trans p3, hb'⟩)
    have KN := Lib.hid (fun W (hb' : Below W4.heap.size W4 W) => (KR.out W (hb4.trans (hb'.mono hb4.size))).mono (R' := fun e W' => ∃ v, e = .returned v ∧ (W'.cell? ⟨w.heap.size, 0, none⟩ = some (.slice A0 x.cls.length k0) ∧ W'.cell? ⟨w.heap.size, 1, none⟩ = some (.slice A1 x.dec.length k1) ∧ W'.cell? ⟨w.heap.size, 2, none⟩ = some (.slice A2 x.exc.length k2) ∧ W'.cell? ⟨W2.heap.size, 0, none⟩ = some (.slice F R.length f) ∧ Below W4.heap.size W4 W') ∧ (∃ F2 f2, v = .agg #[.slice F2 R.length f2] ∧ Rgs W' F2 R)) (fun e W' ⟨L2, hL2, hll, F2, f2, he, h1, h2, h3⟩ => by
      have e2 := UNQ.out L L2 HPO.out hL2
      rw [← e2, HRE.out] at he h2
      exact ⟨_, he, SG.out W' (hb'.trans (h3.mono hb'.size)), F2, f2, rfl, h2⟩))
    have SM := Lib.hid (fun F2 f2 W (hb' : Below W4.heap.size W4 W) (hF2 : Rgs W F2 R) => (refSame_any F R.length f F2 R.length f2 R R W (HF4.out.below hb') hF2 rfl rfl hrl hrl).mono (R' := fun e W' => e = .returned (.bool true) ∧ (W'.cell? ⟨w.heap.size, 0, none⟩ = some (.slice A0 x.cls.length k0) ∧ W'.cell? ⟨w.heap.size, 1, none⟩ = some (.slice A1 x.dec.length k1) ∧ W'.cell? ⟨w.heap.size, 2, none⟩ = some (.slice A2 x.exc.length k2) ∧ W'.cell? ⟨W2.heap.size, 0, none⟩ = some (.slice F R.length f) ∧ Below W4.heap.size W4 W')) (fun e W' hh => ⟨by rw [hh.1, decide_eq_true rfl], SG.out W' (hb'.trans (hh.2.mono hb'.size))⟩))
    have RH := Lib.hid (fun (hv : hasR R v = true) W (hb' : Below W4.heap.size W4 W) => (refHas_any F R.length f R v W (HF4.out.below hb') rfl hrl).mono (R' := fun e W' => e = .returned (.bool true) ∧ (W'.cell? ⟨w.heap.size, 0, none⟩ = some (.slice A0 x.cls.length k0) ∧ W'.cell? ⟨w.heap.size, 1, none⟩ = some (.slice A1 x.dec.length k1) ∧ W'.cell? ⟨w.heap.size, 2, none⟩ = some (.slice A2 x.exc.length k2) ∧ W'.cell? ⟨W2.heap.size, 0, none⟩ = some (.slice F R.length f) ∧ Below W4.heap.size W4 W')) (fun e W' hh => ⟨by rw [hh.1, hv], SG.out W' (hb'.trans (hh.2.mono hb'.size))⟩))
    have AW := Lib.hid (fun W (hb' : Below W4.heap.size W4 W) => (KA.out W (hb4.trans (hb'.mono hb4.size))).mono (R' := fun e W' => e = .returned (.bool true) ∧ (W'.cell? ⟨w.heap.size, 0, none⟩ = some (.slice A0 x.cls.length k0) ∧ W'.cell? ⟨w.heap.size, 1, none⟩ = some (.slice A1 x.dec.length k1) ∧ W'.cell? ⟨w.heap.size, 2, none⟩ = some (.slice A2 x.exc.length k2) ∧ W'.cell? ⟨W2.heap.size, 0, none⟩ = some (.slice F R.length f) ∧ Below W4.heap.size W4 W')) (fun e W' hh => ⟨hh.1, SG.out W' (hb'.trans (hh.2.mono hb'.size))⟩))
    clear p0 p1 p2 p3 KR XS4 HF4 UNQ
    cases pb with
    | false =>
      go_wp2_with fail
      refine wp_region_held_drew (S := fun W' => W'.cell? ⟨w.heap.size, 0, none⟩ = some (.slice A0 x.cls.length k0) ∧ W'.cell? ⟨w.heap.size, 1, none⟩ = some (.slice A1 x.dec.length k1) ∧ W'.cell? ⟨w.heap.size, 2, none⟩ = some (.slice A2 x.exc.length k2) ∧ W'.cell? ⟨W2.heap.size, 0, none⟩ = some (.slice F R.length f) ∧ Below W4.heap.size W4 W') (by kernel_rfl) (SG.out _ ((Below.refl _ _).drew)) (fun hHeld => ?_)
      refine anyH_take (i := 0) (v := ?_) (some 23) rfl rfl (by kernel_rfl) (by kernel_rfl) (by kernel_rfl) (fun _ _ _ h => h) (by rfl) (by assumption) ?_ ?_
      rotate_left
      · intro w hSw; (try dsimp only at hSw); go_split_ands; go_simp; try (with_reducible rfl)
      try simp only [Act.put, List.setIfInBounds_toArray, List.set_cons_zero, List.set_cons_succ]
      refine anyH_take (i := 1) (v := ?_) (some 24) rfl rfl (by kernel_rfl) (by kernel_rfl) (by kernel_rfl) (fun _ _ _ h => h) (by rfl) (by assumption) ?_ ?_
      rotate_left
      · intro w hSw; (try dsimp only at hSw); go_split_ands; go_simp; try (with_reducible rfl)
      try simp only [Act.put, List.setIfInBounds_toArray, List.set_cons_zero, List.set_cons_succ]
      refine anyH_callE (i := 2) (some 25) rfl rfl (by kernel_rfl) (by rfl) (by go_simp) (KN.out _ hHeld.2.2.2.2) ?_
      rintro _ W5 hS6 ⟨F2, f2, rfl, hF2⟩
      clear hHeld
      have hHeld := hS6
      clear hS6
      try simp only [Act.put, List.setIfInBounds_toArray, List.set_cons_zero, List.set_cons_succ]
      refine anyH_call (i := 3) (some 26) rfl rfl (by kernel_rfl) (by rfl) (by go_simp) (SM.out F2 f2 _ hHeld.2.2.2.2 hF2) (fun W6 hS6 => ?_)
      clear hHeld
      have hHeld := hS6
      clear hS6
      try simp only [Act.put, List.setIfInBounds_toArray, List.set_cons_zero, List.set_cons_succ]
      refine anyH_take (i := 4) (v := ?_) (some 27) rfl rfl (by kernel_rfl) (by kernel_rfl) (by kernel_rfl) (fun _ _ _ h => h) (by rfl) (by assumption) ?_ ?_
      rotate_left
      · intro w hSw; (try dsimp only at hSw); go_split_ands; go_simp; try (with_reducible rfl)
      try simp only [Act.put, List.setIfInBounds_toArray, List.set_cons_zero, List.set_cons_succ]
      refine anyH_take (i := 5) (v := ?_) (some 28) rfl rfl (by kernel_rfl) (by kernel_rfl) (by kernel_rfl) (fun _ _ _ h => h) (by rfl) (by assumption) ?_ ?_
      rotate_left
      · intro w hSw; (try dsimp only at hSw); go_split_ands; go_simp; try (with_reducible rfl)
      try simp only [Act.put, List.setIfInBounds_toArray, List.set_cons_zero, List.set_cons_succ]
      refine anyH_take (i := 6) (v := ?_) (some 29) rfl rfl (by kernel_rfl) (by kernel_rfl) (by kernel_rfl) (fun _ _ _ h => h) (by rfl) (by assumption) ?_ ?_
      rotate_left
      · intro w hSw; (try dsimp only at hSw); go_split_ands; go_simp; try (with_reducible rfl)
      try simp only [Act.put, List.setIfInBounds_toArray, List.set_cons_zero, List.set_cons_succ]
      refine anyH_take (i := 7) (v := ?_) (some 30) rfl rfl (by kernel_rfl) (by kernel_rfl) (by kernel_rfl) (fun _ _ _ h => h) (by rfl) (by assumption) ?_ ?_
      rotate_left
      · intro w hSw; (try dsimp only at hSw); go_split_ands; go_simp; try (with_reducible rfl)
      try simp only [Act.put, List.setIfInBounds_toArray, List.set_cons_zero, List.set_cons_succ]
      refine anyH_skip (i := 8) (some 31) rfl rfl (by kernel_rfl) (by kernel_rfl) (by kernel_rfl) (fun _ _ _ h => h) (by rfl) (by assumption) ?_
      try simp only [Act.put, List.setIfInBounds_toArray, List.set_cons_zero, List.set_cons_succ]
      refine anyH_skip (i := 9) (some 32) rfl rfl (by kernel_rfl) (by kernel_rfl) (by kernel_rfl) (fun _ _ _ h => h) (by rfl) (by assumption) ?_
      try simp only [Act.put, List.setIfInBounds_toArray, List.set_cons_zero, List.set_cons_succ]
      refine anyH_skip (i := 10) (some 33) rfl rfl (by kernel_rfl) (by kernel_rfl) (by kernel_rfl) (fun _ _ _ h => h) (by rfl) (by assumption) ?_
      try simp only [Act.put, List.setIfInBounds_toArray, List.set_cons_zero, List.set_cons_succ]
      refine anyH_take (i := 11) (v := ?_) (some 34) rfl rfl (by kernel_rfl) (by kernel_rfl) (by kernel_rfl) (fun _ _ _ h => h) (by rfl) (by assumption) ?_ ?_
      rotate_left
      · intro w hSw; (try dsimp only at hSw); go_split_ands; go_simp; try (with_reducible rfl)
      try simp only [Act.put, List.setIfInBounds_toArray, List.set_cons_zero, List.set_cons_succ]
      refine anyH_take (i := 12) (v := ?_) (some 35) rfl rfl (by kernel_rfl) (by kernel_rfl) (by kernel_rfl) (fun _ _ _ h => h) (by rfl) (by assumption) ?_ ?_
      rotate_left
      · intro w hSw; (try dsimp only at hSw); go_split_ands; go_simp; try (with_reducible rfl)
      try simp only [Act.put, List.setIfInBounds_toArray, List.set_cons_zero, List.set_cons_succ]
      refine anyH_take (i := 13) (v := ?_) (some 36) rfl rfl (by kernel_rfl) (by kernel_rfl) (by kernel_rfl) (fun _ _ _ h => h) (by rfl) (by assumption) ?_ ?_
      rotate_left
      · intro w hSw; (try dsimp only at hSw); go_split_ands; go_simp; try (with_reducible rfl)
      try simp only [Act.put, List.setIfInBounds_toArray, List.set_cons_zero, List.set_cons_succ]
      refine anyH_call (i := 14) (some 37) rfl rfl (by kernel_rfl) (by rfl) (by go_simp) (AW.out _ hHeld.2.2.2.2) (fun W8 hS6 => ?_)
      clear hHeld
      have hHeld := hS6
      clear hS6
      try simp only [Act.put, List.setIfInBounds_toArray, List.set_cons_zero, List.set_cons_succ]
      refine anyH_take (i := 15) (v := ?_) (some 38) rfl rfl (by kernel_rfl) (by kernel_rfl) (by kernel_rfl) (fun _ _ _ h => h) (by rfl) (by assumption) ?_ ?_
      rotate_left
      · intro w hSw; (try dsimp only at hSw); go_split_ands; go_simp; try (with_reducible rfl)
      try simp only [Act.put, List.setIfInBounds_toArray, List.set_cons_zero, List.set_cons_succ]
      refine anyH_take (i := 16) (v := ?_) (some 6) rfl rfl (by kernel_rfl) (by kernel_rfl) (by kernel_rfl) (fun _ _ _ h => h) (by rfl) (by assumption) ?_ ?_
      rotate_left
      · intro w hSw; (try dsimp only at hSw); go_split_ands; go_simp; try (with_reducible rfl)
      try simp only [Act.put, List.setIfInBounds_toArray, List.set_cons_zero, List.set_cons_succ]
      refine wpAnyH_done (by kernel_rfl) ?_ _
      have hbn := B0.trans ((hb4.trans (hHeld.2.2.2.2.mono hb4.size)).mono B0.size)
      clear hHeld SG KN SM RH AW
      go_wp2_with fail
      go_ret
      exact ⟨rfl, hbn⟩
    | true =>
      have RHT := Lib.hid (RH.out (HSO.out rfl))
      clear RH
      go_wp2_with fail
      refine wp_region_held_drew (S := fun W' => W'.cell? ⟨w.heap.size, 0, none⟩ = some (.slice A0 x.cls.length k0) ∧ W'.cell? ⟨w.heap.size, 1, none⟩ = some (.slice A1 x.dec.length k1) ∧ W'.cell? ⟨w.heap.size, 2, none⟩ = some (.slice A2 x.exc.length k2) ∧ W'.cell? ⟨W2.heap.size, 0, none⟩ = some (.slice F R.length f) ∧ Below W4.heap.size W4 W') (by kernel_rfl) (SG.out _ ((Below.refl _ _).drew)) (fun hHeld => ?_)
      refine anyH_take (i := 0) (v := ?_) (some 23) rfl rfl (by kernel_rfl) (by kernel_rfl) (by kernel_rfl) (fun _ _ _ h => h) (by rfl) (by assumption) ?_ ?_
      rotate_left
      · intro w hSw; (try dsimp only at hSw); go_split_ands; go_simp; try (with_reducible rfl)
      try simp only [Act.put, List.setIfInBounds_toArray, List.set_cons_zero, List.set_cons_succ]
      refine anyH_take (i := 1) (v := ?_) (some 24) rfl rfl (by kernel_rfl) (by kernel_rfl) (by kernel_rfl) (fun _ _ _ h => h) (by rfl) (by assumption) ?_ ?_
      rotate_left
      · intro w hSw; (try dsimp only at hSw); go_split_ands; go_simp; try (with_reducible rfl)
      try simp only [Act.put, List.setIfInBounds_toArray, List.set_cons_zero, List.set_cons_succ]
      refine anyH_callE (i := 2) (some 25) rfl rfl (by kernel_rfl) (by rfl) (by go_simp) (KN.out _ hHeld.2.2.2.2) ?_
      rintro _ W5 hS6 ⟨F2, f2, rfl, hF2⟩
      clear hHeld
      have hHeld := hS6
      clear hS6
      try simp only [Act.put, List.setIfInBounds_toArray, List.set_cons_zero, List.set_cons_succ]
      refine anyH_call (i := 3) (some 26) rfl rfl (by kernel_rfl) (by rfl) (by go_simp) (SM.out F2 f2 _ hHeld.2.2.2.2 hF2) (fun W6 hS6 => ?_)
      clear hHeld
      have hHeld := hS6
      clear hS6
      try simp only [Act.put, List.setIfInBounds_toArray, List.set_cons_zero, List.set_cons_succ]
      refine anyH_take (i := 4) (v := ?_) (some 27) rfl rfl (by kernel_rfl) (by kernel_rfl) (by kernel_rfl) (fun _ _ _ h => h) (by rfl) (by assumption) ?_ ?_
      rotate_left
      · intro w hSw; (try dsimp only at hSw); go_split_ands; go_simp; try (with_reducible rfl)
      try simp only [Act.put, List.setIfInBounds_toArray, List.set_cons_zero, List.set_cons_succ]
      refine anyH_take (i := 5) (v := ?_) (some 28) rfl rfl (by kernel_rfl) (by kernel_rfl) (by kernel_rfl) (fun _ _ _ h => h) (by rfl) (by assumption) ?_ ?_
      rotate_left
      · intro w hSw; (try dsimp only at hSw); go_split_ands; go_simp; try (with_reducible rfl)
      try simp only [Act.put, List.setIfInBounds_toArray, List.set_cons_zero, List.set_cons_succ]
      refine anyH_take (i := 6) (v := ?_) (some 29) rfl rfl (by kernel_rfl) (by kernel_rfl) (by kernel_rfl) (fun _ _ _ h => h) (by rfl) (by assumption) ?_ ?_
      rotate_left
      · intro w hSw; (try dsimp only at hSw); go_split_ands; go_simp; try (with_reducible rfl)
      try simp only [Act.put, List.setIfInBounds_toArray, List.set_cons_zero, List.set_cons_succ]
      refine anyH_take (i := 7) (v := ?_) (some 30) rfl rfl (by kernel_rfl) (by kernel_rfl) (by kernel_rfl) (fun _ _ _ h => h) (by rfl) (by assumption) ?_ ?_
      rotate_left
      · intro w hSw; (try dsimp only at hSw); go_split_ands; go_simp; try (with_reducible rfl)
      try simp only [Act.put, List.setIfInBounds_toArray, List.set_cons_zero, List.set_cons_succ]
      refine anyH_take (i := 8) (v := ?_) (some 31) rfl rfl (by kernel_rfl) (by kernel_rfl) (by kernel_rfl) (fun _ _ _ h => h) (by rfl) (by assumption) ?_ ?_
      rotate_left
      · intro w hSw; (try dsimp only at hSw); go_split_ands; go_simp; try (with_reducible rfl)
      try simp only [Act.put, List.setIfInBounds_toArray, List.set_cons_zero, List.set_cons_succ]
      refine anyH_take (i := 9) (v := ?_) (some 32) rfl rfl (by kernel_rfl) (by kernel_rfl) (by kernel_rfl) (fun _ _ _ h => h) (by rfl) (by assumption) ?_ ?_
      rotate_left
      · intro w hSw; (try dsimp only at hSw); go_split_ands; go_simp; try (with_reducible rfl)
      try simp only [Act.put, List.setIfInBounds_toArray, List.set_cons_zero, List.set_cons_succ]
      refine anyH_call (i := 10) (some 33) rfl rfl (by kernel_rfl) (by rfl) (by go_simp) (RHT.out _ hHeld.2.2.2.2) (fun W7 hS6 => ?_)
      clear hHeld
      have hHeld := hS6
      clear hS6
      try simp only [Act.put, List.setIfInBounds_toArray, List.set_cons_zero, List.set_cons_succ]
      refine anyH_take (i := 11) (v := ?_) (some 34) rfl rfl (by kernel_rfl) (by kernel_rfl) (by kernel_rfl) (fun _ _ _ h => h) (by rfl) (by assumption) ?_ ?_
      rotate_left
      · intro w hSw; (try dsimp only at hSw); go_split_ands; go_simp; try (with_reducible rfl)
      try simp only [Act.put, List.setIfInBounds_toArray, List.set_cons_zero, List.set_cons_succ]
      refine anyH_take (i := 12) (v := ?_) (some 35) rfl rfl (by kernel_rfl) (by kernel_rfl) (by kernel_rfl) (fun _ _ _ h => h) (by rfl) (by assumption) ?_ ?_
      rotate_left
      · intro w hSw; (try dsimp only at hSw); go_split_ands; go_simp; try (with_reducible rfl)
      try simp only [Act.put, List.setIfInBounds_toArray, List.set_cons_zero, List.set_cons_succ]
      refine anyH_take (i := 13) (v := ?_) (some 36) rfl rfl (by kernel_rfl) (by kernel_rfl) (by kernel_rfl) (fun _ _ _ h => h) (by rfl) (by assumption) ?_ ?_
      rotate_left
      · intro w hSw; (try dsimp only at hSw); go_split_ands; go_simp; try (with_reducible rfl)
      try simp only [Act.put, List.setIfInBounds_toArray, List.set_cons_zero, List.set_cons_succ]
      refine anyH_call (i := 14) (some 37) rfl rfl (by kernel_rfl) (by rfl) (by go_simp) (AW.out _ hHeld.2.2.2.2) (fun W8 hS6 => ?_)
      clear hHeld
      have hHeld := hS6
      clear hS6
      try simp only [Act.put, List.setIfInBounds_toArray, List.set_cons_zero, List.set_cons_succ]
      refine anyH_take (i := 15) (v := ?_) (some 38) rfl rfl (by kernel_rfl) (by kernel_rfl) (by kernel_rfl) (fun _ _ _ h => h) (by rfl) (by assumption) ?_ ?_
      rotate_left
      · intro w hSw; (try dsimp only at hSw); go_split_ands; go_simp; try (with_reducible rfl)
      try simp only [Act.put, List.setIfInBounds_toArray, List.set_cons_zero, List.set_cons_succ]
      refine anyH_take (i := 16) (v := ?_) (some 6) rfl rfl (by kernel_rfl) (by kernel_rfl) (by kernel_rfl) (fun _ _ _ h => h) (by rfl) (by assumption) ?_ ?_
      rotate_left
      · intro w hSw; (try dsimp only at hSw); go_split_ands; go_simp; try (with_reducible rfl)
      try simp only [Act.put, List.setIfInBounds_toArray, List.set_cons_zero, List.set_cons_succ]
      refine wpAnyH_done (by kernel_rfl) ?_ _
      have hbn := B0.trans ((hb4.trans (hHeld.2.2.2.2.mono hb4.size)).mono B0.size)
      clear hHeld SG KN SM RHT AW
      go_wp2_with fail
      go_ret
      exact ⟨rfl, hbn⟩

end Go.Proofs.YtjglanjfgbipmaaGreatDoor
