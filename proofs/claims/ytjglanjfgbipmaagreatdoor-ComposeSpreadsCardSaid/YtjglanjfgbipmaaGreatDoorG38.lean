/- Texts that are merged into one file: LawC. -/
import Derived.Test.YtjglanjfgbipmaaGreatDoorG26
import Derived.Test.YtjglanjfgbipmaaGreatDoorG29
import Derived.Test.YtjglanjfgbipmaaGreatDoorG31
import Derived.Test.YtjglanjfgbipmaaGreatDoorG33
/- The walk of the law ComposeSpreads. Written by gen_lawc.py. -/
namespace Go.Proofs.YtjglanjfgbipmaaGreatDoor
open Go.RowKit Go.Maps Go.WideMaps

theorem usN_us (x : Nrm) : usN (usN x) = usN x := by
  unfold usN
  by_cases h : nErr x = 0
  · rw [if_pos h, if_pos h]
  · rw [if_neg h]
    split <;> rfl

set_option maxRecDepth 100000 in
set_option maxHeartbeats 25600000 in
theorem ComposeSpreads_any (A0 : Option Addr) (k0 : Nat) (A1 : Option Addr) (k1 : Nat) (A2 : Option Addr) (k2 : Nat) (x : Nrm) (A : Option Addr) (n a : Nat) (t : List Int) (A' : Option Addr) (n' a' : Nat) (t' : List Int) (w : World) (hN : NrmAt w A0 x.cls.length A1 x.dec.length A2 x.exc.length x) (hl : NrmLn x) (hA : Ints w A t) (hn : t.length = n) (hna : n ≤ a) (hok : ∀ c ∈ t, iok c) (hA' : Ints w A' t') (hn' : t'.length = n') (hna' : n' ≤ a') (hok' : ∀ c ∈ t', iok c) (hL : Laid w) :
    Calls Tryz.prog 6 #[.agg #[.slice A0 x.cls.length k0, .slice A1 x.dec.length k1, .slice A2 x.exc.length k2], .slice A n a, .slice A' n' a'] w (RetTrue w) := by
  subst hn
  subst hn'
  have HOK := Lib.hid hok
  have HOK' := Lib.hid hok'
  clear hok hok'
  have B0 : Below w.heap.size w (w.alloc (.cells #[.slice A0 x.cls.length k0, .slice A1 x.dec.length k1, .slice A2 x.exc.length k2] 28)) := (Below.refl _ _).alloc (Nat.le_refl _) _
  have X0 : Box (w.alloc (.cells #[.slice A0 x.cls.length k0, .slice A1 x.dec.length k1, .slice A2 x.exc.length k2] 28)) w.heap.size 28 [.slice A0 x.cls.length k0, .slice A1 x.dec.length k1, .slice A2 x.exc.length k2] := Box.new w 28 [.slice A0 x.cls.length k0, .slice A1 x.dec.length k1, .slice A2 x.exc.length k2] rfl
  have W0E : ∃ W0, (w.alloc (.cells #[.slice A0 x.cls.length k0, .slice A1 x.dec.length k1, .slice A2 x.exc.length k2] 28)) = W0 := ⟨_, rfl⟩
  have CA := Lib.hid (fun W (hb : Below w.heap.size w W) => hN.below hb)
  have HLd := Lib.hid (fun W (hb : Below w.heap.size w W) => hL.below hb)
  have HL := Lib.hid hl
  have SZ := Lib.hid (smallN_sz (x := x))
  have HA := Lib.hid (fun W (hb : Below w.heap.size w W) => hA.below hb)
  have HB := Lib.hid (fun W (hb : Below w.heap.size w W) => hA'.below hb)
  clear hN hL hl hA hA'
  go_enter Tryz.func6, Tryz.ntmps6
  go_wp2_with fail
  obtain ⟨W0, hW0⟩ := W0E
  try rw [hW0] at B0 X0 ⊢
  clear hW0
  have KM := Lib.hid (fun W (hb' : Below W0.heap.size W0 W) => smallN_any A0 _ k0 A1 _ k1 A2 _ k2 x W (CA.out W (B0.trans (hb'.mono B0.size))) HL.out.z0 HL.out.z1 HL.out.z2 HL.out.ze)
  have KA := Lib.hid (fun W (hb' : Below W0.heap.size W0 W) => awake_any W (HLd.out W (B0.trans (hb'.mono B0.size))))
  with_reducible refine (KM.out W0 (Below.refl _ _)).mono ?_
  rintro e W1 ⟨rfl, hb1⟩
  cases hs : smallN x with
  | false =>
    go_wp2_with fail
    with_reducible refine (KA.out W1 hb1).mono ?_
    rintro e W9 ⟨rfl, hb9⟩
    have hbn := B0.trans ((hb1).trans (hb9.mono (hb1).size) |>.mono B0.size)
    go_wp2_with fail
    go_ret
    exact ⟨rfl, hbn⟩
  | true =>
    have hz := SZ.out hs
    by_cases h40 : 40 < t.length
    · have d40 : decide ((40 : Int) < (t.length : Int)) = true := by simp; omega
      go_wp2_with fail
      with_reducible refine (KA.out W1 hb1).mono ?_
      rintro e W9 ⟨rfl, hb9⟩
      have hbn := B0.trans ((hb1).trans (hb9.mono (hb1).size) |>.mono B0.size)
      go_wp2_with fail
      go_ret
      exact ⟨rfl, hbn⟩
    · have d40 : decide ((40 : Int) < (t.length : Int)) = false := by simp; omega
      by_cases h41 : 40 < t'.length
      · have d41 : decide ((40 : Int) < (t'.length : Int)) = true := by simp; omega
        go_wp2_with fail
        with_reducible refine (KA.out W1 hb1).mono ?_
        rintro e W9 ⟨rfl, hb9⟩
        have hbn := B0.trans ((hb1).trans (hb9.mono (hb1).size) |>.mono B0.size)
        go_wp2_with fail
        go_ret
        exact ⟨rfl, hbn⟩
      · have d41 : decide ((40 : Int) < (t'.length : Int)) = false := by simp; omega
        have hdz : (usN x).dec.length ≤ 40 := by
          unfold smallN at hs
          simp at hs
          unfold usN
          split
          · omega
          · simp
        have hzu := hz.us
        have hny := usN_ok x
        have huu := usN_us x
        have g0 := (X0.below hb1 X0.lt).cell (i := 0) rfl
        have g1 := (X0.below hb1 X0.lt).cell (i := 1) rfl
        have g2 := (X0.below hb1 X0.lt).cell (i := 2) rfl
        have KC := Lib.hid (refCounted_eq A0 _ k0 A1 _ k1 A2 _ k2 x W1 (CA.out W1 (B0.trans (hb1.mono B0.size))) hz)
        obtain ⟨B0', c0, B1', c1, B2', c2, hv, hNW⟩ := usV_at (CA.out w (Below.refl _ _)) k0 k1 k2
        rw [hv] at KC
        have HNW := Lib.hid hNW
        clear hv hNW SZ hs hz
        generalize usN x = y at *
        have TC := Lib.hid (fun D n1 d1 l W (hb : Below w.heap.size w W) (hD : Ints W D l) (hn : l.length = n1) (hz1 : n1 ≤ 1048576) (hok : ∀ c ∈ l, iok c) => cpText_any B0' _ c0 B1' _ c1 B2' _ c2 y D n1 d1 l W (HNW.out W hb) hzu (HLd.out W hb) hD hn hz1 hok)
        have SC := Lib.hid (fun W (hb : Below w.heap.size w W) => refSecond_any B0' _ c0 B1' _ c1 B2' _ c2 y W (HNW.out W hb) hzu hdz)
        rw [huu] at TC SC
        have STC := Lib.hid (fun c W (hb : Below w.heap.size w W) => refStarter_any B0' y.cls.length c0 y.cls c W (HNW.out W hb).s0 rfl (by have := hzu.z0; omega))
        have SPR := Lib.hid (fun (a b : List Int) c (h1 : clz y.cls c = 0) (h2 : ∀ z, prN y z c = none) => Cps.text_spread (cl := clz y.cls) (pr := prN y) a b h1 h2)
        have TLN := Lib.hid (fun l => Cps.text_len (cl := clz y.cls) (pr := prN y) l)
        have HSN := Lib.hid (fun L (hL : PairsOk y L) b (hb : hasR (canR (secR L)) b = false) => sec_none hny hL hb)
        clear huu hny hdz hzu
        go_wp2_with fail
        with_reducible refine KC.out.mono ?_
        rintro e W2 ⟨rfl, hb2⟩
        have hX1 := X0.below (hb1.trans (hb2.mono hb1.size)) X0.lt
        have hbw2 := B0.trans ((hb1.trans (hb2.mono hb1.size)).mono B0.size)
        clear g0 g1 g2
        have d0 := hX1.cell (i := 0) rfl
        have d1 := hX1.cell (i := 1) rfl
        have d2 := hX1.cell (i := 2) rfl
        have f0 := hX1.free 0
        have f1 := hX1.free 1
        have f2 := hX1.free 2
        have hX2 := ((hX1.set 0 (.slice B0' y.cls.length c0)).set 1 (.slice B1' y.dec.length c1)).set 2 (.slice B2' y.exc.length c2)
        have hb4 : Below w.heap.size w (((W2.setCell ⟨w.heap.size, 0, none⟩ (.slice B0' y.cls.length c0)).setCell ⟨w.heap.size, 1, none⟩ (.slice B1' y.dec.length c1)).setCell ⟨w.heap.size, 2, none⟩ (.slice B2' y.exc.length c2)) := ((hbw2.setCell (by simp) _).setCell (by simp) _).setCell (by simp) _
        have W3E : ∃ W3, (((W2.setCell ⟨w.heap.size, 0, none⟩ (.slice B0' y.cls.length c0)).setCell ⟨w.heap.size, 1, none⟩ (.slice B1' y.dec.length c1)).setCell ⟨w.heap.size, 2, none⟩ (.slice B2' y.exc.length c2)) = W3 := ⟨_, rfl⟩
        go_wp2_with fail
        obtain ⟨W3, hW3⟩ := W3E
        rw [hW3] at hX2 hb4 ⊢
        clear hW3 d0 d1 d2 f0 f1 f2 hX1 hbw2 hb1 hb2 KC X0 KM
        have hxl := hX2.lt
        have X3 := Lib.hid hX2
        clear hX2
        have AW := Lib.hid (fun W (hb : Below W3.heap.size W3 W) => awake_any W (HLd.out W (hb4.trans (hb.mono hb4.size))))
        have p0 := X3.out.cell (i := 0) rfl
        have p1 := X3.out.cell (i := 1) rfl
        have p2 := X3.out.cell (i := 2) rfl
        cases t' with
        | nil =>
          have SH := Lib.hid (fun W' (hb' : Below W3.heap.size W3 W') => show W'.cell? ⟨w.heap.size, 0, none⟩ = some (.slice B0' y.cls.length c0) ∧ W'.cell? ⟨w.heap.size, 1, none⟩ = some (.slice B1' y.dec.length c1) ∧ W'.cell? ⟨w.heap.size, 2, none⟩ = some (.slice B2' y.exc.length c2) ∧ Below W3.heap.size W3 W' from ⟨(hb'.cell hxl).trans p0, (hb'.cell hxl).trans p1, (hb'.cell hxl).trans p2, hb'⟩)
          go_wp2_with fail
          refine wp_region_held_drew (S := fun W' => W'.cell? ⟨w.heap.size, 0, none⟩ = some (.slice B0' y.cls.length c0) ∧ W'.cell? ⟨w.heap.size, 1, none⟩ = some (.slice B1' y.dec.length c1) ∧ W'.cell? ⟨w.heap.size, 2, none⟩ = some (.slice B2' y.exc.length c2) ∧ Below W3.heap.size W3 W') (by kernel_rfl) (SH.out _ ((Below.refl _ _).drew)) (fun hHeld => ?_)
          refine anyH_take (i := 0) (v := ?_) (some 25) rfl rfl (by kernel_rfl) (by kernel_rfl) (by kernel_rfl) (fun _ _ _ h => h) (by rfl) (by assumption) ?_ ?_
          rotate_left
          · intro w hSw; (try dsimp only at hSw); go_split_ands; go_simp; try (with_reducible rfl)
          try simp only [Act.put, List.setIfInBounds_toArray, List.set_cons_zero, List.set_cons_succ]
          refine anyH_take (i := 1) (v := ?_) (some 26) rfl rfl (by kernel_rfl) (by kernel_rfl) (by kernel_rfl) (fun _ _ _ h => h) (by rfl) (by assumption) ?_ ?_
          rotate_left
          · intro w hSw; (try dsimp only at hSw); go_split_ands; go_simp; try (with_reducible rfl)
          try simp only [Act.put, List.setIfInBounds_toArray, List.set_cons_zero, List.set_cons_succ]
          refine anyH_take (i := 2) (v := ?_) (some 27) rfl rfl (by kernel_rfl) (by kernel_rfl) (by kernel_rfl) (fun _ _ _ h => h) (by rfl) (by assumption) ?_ ?_
          rotate_left
          · intro w hSw; (try dsimp only at hSw); go_split_ands; go_simp; try (with_reducible rfl)
          try simp only [Act.put, List.setIfInBounds_toArray, List.set_cons_zero, List.set_cons_succ]
          refine anyH_take (i := 3) (v := ?_) (some 28) rfl rfl (by kernel_rfl) (by kernel_rfl) (by kernel_rfl) (fun _ _ _ h => h) (by rfl) (by assumption) ?_ ?_
          rotate_left
          · intro w hSw; (try dsimp only at hSw); go_split_ands; go_simp; try (with_reducible rfl)
          try simp only [Act.put, List.setIfInBounds_toArray, List.set_cons_zero, List.set_cons_succ]
          refine anyH_skip (i := 4) (some 29) rfl rfl (by kernel_rfl) (by kernel_rfl) (by kernel_rfl) (fun _ _ _ h => h) (by rfl) (by assumption) ?_
          try simp only [Act.put, List.setIfInBounds_toArray, List.set_cons_zero, List.set_cons_succ]
          refine anyH_skip (i := 5) (some 30) rfl rfl (by kernel_rfl) (by kernel_rfl) (by kernel_rfl) (fun _ _ _ h => h) (by rfl) (by assumption) ?_
          try simp only [Act.put, List.setIfInBounds_toArray, List.set_cons_zero, List.set_cons_succ]
          refine anyH_skip (i := 6) (some 31) rfl rfl (by kernel_rfl) (by kernel_rfl) (by kernel_rfl) (fun _ _ _ h => h) (by rfl) (by assumption) ?_
          try simp only [Act.put, List.setIfInBounds_toArray, List.set_cons_zero, List.set_cons_succ]
          refine anyH_skip (i := 7) (some 32) rfl rfl (by kernel_rfl) (by kernel_rfl) (by kernel_rfl) (fun _ _ _ h => h) (by rfl) (by assumption) ?_
          try simp only [Act.put, List.setIfInBounds_toArray, List.set_cons_zero, List.set_cons_succ]
          refine anyH_skip (i := 8) (some 33) rfl rfl (by kernel_rfl) (by kernel_rfl) (by kernel_rfl) (fun _ _ _ h => h) (by rfl) (by assumption) ?_
          try simp only [Act.put, List.setIfInBounds_toArray, List.set_cons_zero, List.set_cons_succ]
          refine anyH_skip (i := 9) (some 34) rfl rfl (by kernel_rfl) (by kernel_rfl) (by kernel_rfl) (fun _ _ _ h => h) (by rfl) (by assumption) ?_
          try simp only [Act.put, List.setIfInBounds_toArray, List.set_cons_zero, List.set_cons_succ]
          refine anyH_skip (i := 10) (some 35) rfl rfl (by kernel_rfl) (by kernel_rfl) (by kernel_rfl) (fun _ _ _ h => h) (by rfl) (by assumption) ?_
          try simp only [Act.put, List.setIfInBounds_toArray, List.set_cons_zero, List.set_cons_succ]
          refine anyH_take (i := 11) (v := ?_) (some 36) rfl rfl (by kernel_rfl) (by kernel_rfl) (by kernel_rfl) (fun _ _ _ h => h) (by rfl) (by assumption) ?_ ?_
          rotate_left
          · intro w hSw; (try dsimp only at hSw); go_split_ands; go_simp; try (with_reducible rfl)
          try simp only [Act.put, List.setIfInBounds_toArray, List.set_cons_zero, List.set_cons_succ]
          refine anyH_take (i := 12) (v := ?_) (some 37) rfl rfl (by kernel_rfl) (by kernel_rfl) (by kernel_rfl) (fun _ _ _ h => h) (by rfl) (by assumption) ?_ ?_
          rotate_left
          · intro w hSw; (try dsimp only at hSw); go_split_ands; go_simp; try (with_reducible rfl)
          try simp only [Act.put, List.setIfInBounds_toArray, List.set_cons_zero, List.set_cons_succ]
          refine anyH_skip (i := 13) (some 38) rfl rfl (by kernel_rfl) (by kernel_rfl) (by kernel_rfl) (fun _ _ _ h => h) (by rfl) (by assumption) ?_
          try simp only [Act.put, List.setIfInBounds_toArray, List.set_cons_zero, List.set_cons_succ]
          refine anyH_skip (i := 14) (some 39) rfl rfl (by kernel_rfl) (by kernel_rfl) (by kernel_rfl) (fun _ _ _ h => h) (by rfl) (by assumption) ?_
          try simp only [Act.put, List.setIfInBounds_toArray, List.set_cons_zero, List.set_cons_succ]
          refine anyH_skip (i := 15) (some 40) rfl rfl (by kernel_rfl) (by kernel_rfl) (by kernel_rfl) (fun _ _ _ h => h) (by rfl) (by assumption) ?_
          try simp only [Act.put, List.setIfInBounds_toArray, List.set_cons_zero, List.set_cons_succ]
          refine anyH_skip (i := 16) (some 41) rfl rfl (by kernel_rfl) (by kernel_rfl) (by kernel_rfl) (fun _ _ _ h => h) (by rfl) (by assumption) ?_
          try simp only [Act.put, List.setIfInBounds_toArray, List.set_cons_zero, List.set_cons_succ]
          refine anyH_skip (i := 17) (some 42) rfl rfl (by kernel_rfl) (by kernel_rfl) (by kernel_rfl) (fun _ _ _ h => h) (by rfl) (by assumption) ?_
          try simp only [Act.put, List.setIfInBounds_toArray, List.set_cons_zero, List.set_cons_succ]
          refine anyH_skip (i := 18) (some 43) rfl rfl (by kernel_rfl) (by kernel_rfl) (by kernel_rfl) (fun _ _ _ h => h) (by rfl) (by assumption) ?_
          try simp only [Act.put, List.setIfInBounds_toArray, List.set_cons_zero, List.set_cons_succ]
          refine anyH_take (i := 19) (v := ?_) (some 44) rfl rfl (by kernel_rfl) (by kernel_rfl) (by kernel_rfl) (fun _ _ _ h => h) (by rfl) (by assumption) ?_ ?_
          rotate_left
          · intro w hSw; (try dsimp only at hSw); go_split_ands; go_simp; try (with_reducible rfl)
          try simp only [Act.put, List.setIfInBounds_toArray, List.set_cons_zero, List.set_cons_succ]
          refine wpAnyH_done (by kernel_rfl) ?_ _
          have hb9 := hHeld.2.2.2
          clear hHeld SH
          go_wp2_with fail
          with_reducible refine (AW.out _ hb9).mono ?_
          rintro e Wz ⟨rfl, hbz⟩
          have hbn := hb4.trans ((hb9.trans (hbz.mono hb9.size)).mono hb4.size)
          go_wp2_with fail
          go_ret
          exact ⟨rfl, hbn⟩
        | cons c0' b' =>
          obtain ⟨bb, ob, rfl, hcb⟩ := (HB.out W3 hb4).at (k := 0) (by simp)
          have cb0 := hcb 0 (by simp)
          simp only [List.getElem_cons_zero, Nat.add_zero] at cb0
          have dl0 : (((c0' :: b').length : Int) == 0) = false := by simp; omega
          have dl1 : (0 : Int) < ((c0' :: b').length : Int) := by rw [List.length_cons]; omega
          have dl2 : 0 < (c0' :: b').length := by rw [List.length_cons]; omega
          clear hcb
          have STI := Lib.hid (fun W hb => STC.out c0' W hb)
          have HCL := Lib.hid (fun (h : (clz y.cls c0' == 0) = true) => show clz y.cls c0' = 0 from by simpa using h)
          generalize (clz y.cls c0' == 0) = st at *
          generalize hLB : (c0' :: b').length = lb at *
          have HLB := Lib.hid hLB
          clear hLB
          have SH := Lib.hid (fun W' (hb' : Below W3.heap.size W3 W') => show W'.cell? ⟨w.heap.size, 0, none⟩ = some (.slice B0' y.cls.length c0) ∧ W'.cell? ⟨w.heap.size, 1, none⟩ = some (.slice B1' y.dec.length c1) ∧ W'.cell? ⟨w.heap.size, 2, none⟩ = some (.slice B2' y.exc.length c2) ∧ W'.cell? ⟨bb, ob, none⟩ = some (.int .i64 c0') ∧ Below W3.heap.size W3 W' from ⟨(hb'.cell hxl).trans p0, (hb'.cell hxl).trans p1, (hb'.cell hxl).trans p2, (hb'.cell (World.block_lt_of_cell? _ _ cb0)).trans cb0, hb'⟩)
          have STH := Lib.hid (fun W (hb' : Below W3.heap.size W3 W) => (STI.out W (hb4.trans (hb'.mono hb4.size))).mono (R' := fun e W' => e = .returned (.bool st) ∧ (W'.cell? ⟨w.heap.size, 0, none⟩ = some (.slice B0' y.cls.length c0) ∧ W'.cell? ⟨w.heap.size, 1, none⟩ = some (.slice B1' y.dec.length c1) ∧ W'.cell? ⟨w.heap.size, 2, none⟩ = some (.slice B2' y.exc.length c2) ∧ W'.cell? ⟨bb, ob, none⟩ = some (.int .i64 c0') ∧ Below W3.heap.size W3 W')) (fun e W' hh => ⟨hh.1, SH.out W' (hb'.trans (hh.2.mono hb'.size))⟩))
          clear p0 p1 p2 cb0 STC STI
          cases st with
          | false =>
            go_wp2_with fail
            refine wp_region_held_drew (S := fun W' => W'.cell? ⟨w.heap.size, 0, none⟩ = some (.slice B0' y.cls.length c0) ∧ W'.cell? ⟨w.heap.size, 1, none⟩ = some (.slice B1' y.dec.length c1) ∧ W'.cell? ⟨w.heap.size, 2, none⟩ = some (.slice B2' y.exc.length c2) ∧ W'.cell? ⟨bb, ob, none⟩ = some (.int .i64 c0') ∧ Below W3.heap.size W3 W') (by kernel_rfl) (SH.out _ ((Below.refl _ _).drew)) (fun hHeld => ?_)
            refine anyH_take (i := 0) (v := ?_) (some 25) rfl rfl (by kernel_rfl) (by kernel_rfl) (by kernel_rfl) (fun _ _ _ h => h) (by rfl) (by assumption) ?_ ?_
            rotate_left
            · intro w hSw; (try dsimp only at hSw); go_split_ands; go_simp; try (with_reducible rfl)
            try simp only [Act.put, List.setIfInBounds_toArray, List.set_cons_zero, List.set_cons_succ]
            refine anyH_take (i := 1) (v := ?_) (some 26) rfl rfl (by kernel_rfl) (by kernel_rfl) (by kernel_rfl) (fun _ _ _ h => h) (by rfl) (by assumption) ?_ ?_
            rotate_left
            · intro w hSw; (try dsimp only at hSw); go_split_ands; go_simp; try (with_reducible rfl)
            try simp only [Act.put, List.setIfInBounds_toArray, List.set_cons_zero, List.set_cons_succ]
            refine anyH_take (i := 2) (v := ?_) (some 27) rfl rfl (by kernel_rfl) (by kernel_rfl) (by kernel_rfl) (fun _ _ _ h => h) (by rfl) (by assumption) ?_ ?_
            rotate_left
            · intro w hSw; (try dsimp only at hSw); go_split_ands; go_simp; try (with_reducible rfl)
            try simp only [Act.put, List.setIfInBounds_toArray, List.set_cons_zero, List.set_cons_succ]
            refine anyH_take (i := 3) (v := ?_) (some 28) rfl rfl (by kernel_rfl) (by kernel_rfl) (by kernel_rfl) (fun _ _ _ h => h) (by rfl) (by assumption) ?_ ?_
            rotate_left
            · intro w hSw; (try dsimp only at hSw); go_split_ands; go_simp; try (with_reducible rfl)
            try simp only [Act.put, List.setIfInBounds_toArray, List.set_cons_zero, List.set_cons_succ]
            refine anyH_take (i := 4) (v := ?_) (some 29) rfl rfl (by kernel_rfl) (by kernel_rfl) (by kernel_rfl) (fun _ _ _ h => h) (by rfl) (by assumption) ?_ ?_
            rotate_left
            · intro w hSw; (try dsimp only at hSw); go_split_ands; go_simp; try (with_reducible rfl)
            try simp only [Act.put, List.setIfInBounds_toArray, List.set_cons_zero, List.set_cons_succ]
            refine anyH_take (i := 5) (v := ?_) (some 30) rfl rfl (by kernel_rfl) (by kernel_rfl) (by kernel_rfl) (fun _ _ _ h => h) (by rfl) (by assumption) ?_ ?_
            rotate_left
            · intro w hSw; (try dsimp only at hSw); go_split_ands; go_simp; try (with_reducible rfl)
            try simp only [Act.put, List.setIfInBounds_toArray, List.set_cons_zero, List.set_cons_succ]
            refine anyH_take (i := 6) (v := ?_) (some 31) rfl rfl (by kernel_rfl) (by kernel_rfl) (by kernel_rfl) (fun _ _ _ h => h) (by rfl) (by assumption) ?_ ?_
            rotate_left
            · intro w hSw; (try dsimp only at hSw); go_split_ands; go_simp; try (with_reducible rfl)
            try simp only [Act.put, List.setIfInBounds_toArray, List.set_cons_zero, List.set_cons_succ]
            refine anyH_take (i := 7) (v := ?_) (some 32) rfl rfl (by kernel_rfl) (by kernel_rfl) (by kernel_rfl) (fun _ _ _ h => h) (by rfl) (by assumption) ?_ ?_
            rotate_left
            · intro w hSw; (try dsimp only at hSw); go_split_ands; go_simp; try (with_reducible rfl)
            try simp only [Act.put, List.setIfInBounds_toArray, List.set_cons_zero, List.set_cons_succ]
            refine anyH_take (i := 8) (v := ?_) (some 33) rfl rfl (by kernel_rfl) (by kernel_rfl) (by kernel_rfl) (fun _ _ _ h => h) (by rfl) (by assumption) ?_ ?_
            rotate_left
            · intro w hSw; (try dsimp only at hSw); go_split_ands; go_simp; try (with_reducible rfl)
            try simp only [Act.put, List.setIfInBounds_toArray, List.set_cons_zero, List.set_cons_succ]
            refine anyH_call (i := 9) (some 34) rfl rfl (by kernel_rfl) (by rfl) (by go_simp) (STH.out _ hHeld.2.2.2.2) (fun W4 hS6 => ?_)
            clear hHeld
            have hHeld := hS6
            clear hS6
            try simp only [Act.put, List.setIfInBounds_toArray, List.set_cons_zero, List.set_cons_succ]
            refine anyH_take (i := 10) (v := ?_) (some 35) rfl rfl (by kernel_rfl) (by kernel_rfl) (by kernel_rfl) (fun _ _ _ h => h) (by rfl) (by assumption) ?_ ?_
            rotate_left
            · intro w hSw; (try dsimp only at hSw); go_split_ands; go_simp; try (with_reducible rfl)
            try simp only [Act.put, List.setIfInBounds_toArray, List.set_cons_zero, List.set_cons_succ]
            refine anyH_take (i := 11) (v := ?_) (some 36) rfl rfl (by kernel_rfl) (by kernel_rfl) (by kernel_rfl) (fun _ _ _ h => h) (by rfl) (by assumption) ?_ ?_
            rotate_left
            · intro w hSw; (try dsimp only at hSw); go_split_ands; go_simp; try (with_reducible rfl)
            try simp only [Act.put, List.setIfInBounds_toArray, List.set_cons_zero, List.set_cons_succ]
            refine anyH_take (i := 12) (v := ?_) (some 37) rfl rfl (by kernel_rfl) (by kernel_rfl) (by kernel_rfl) (fun _ _ _ h => h) (by rfl) (by assumption) ?_ ?_
            rotate_left
            · intro w hSw; (try dsimp only at hSw); go_split_ands; go_simp; try (with_reducible rfl)
            try simp only [Act.put, List.setIfInBounds_toArray, List.set_cons_zero, List.set_cons_succ]
            refine anyH_skip (i := 13) (some 38) rfl rfl (by kernel_rfl) (by kernel_rfl) (by kernel_rfl) (fun _ _ _ h => h) (by rfl) (by assumption) ?_
            try simp only [Act.put, List.setIfInBounds_toArray, List.set_cons_zero, List.set_cons_succ]
            refine anyH_skip (i := 14) (some 39) rfl rfl (by kernel_rfl) (by kernel_rfl) (by kernel_rfl) (fun _ _ _ h => h) (by rfl) (by assumption) ?_
            try simp only [Act.put, List.setIfInBounds_toArray, List.set_cons_zero, List.set_cons_succ]
            refine anyH_skip (i := 15) (some 40) rfl rfl (by kernel_rfl) (by kernel_rfl) (by kernel_rfl) (fun _ _ _ h => h) (by rfl) (by assumption) ?_
            try simp only [Act.put, List.setIfInBounds_toArray, List.set_cons_zero, List.set_cons_succ]
            refine anyH_skip (i := 16) (some 41) rfl rfl (by kernel_rfl) (by kernel_rfl) (by kernel_rfl) (fun _ _ _ h => h) (by rfl) (by assumption) ?_
            try simp only [Act.put, List.setIfInBounds_toArray, List.set_cons_zero, List.set_cons_succ]
            refine anyH_skip (i := 17) (some 42) rfl rfl (by kernel_rfl) (by kernel_rfl) (by kernel_rfl) (fun _ _ _ h => h) (by rfl) (by assumption) ?_
            try simp only [Act.put, List.setIfInBounds_toArray, List.set_cons_zero, List.set_cons_succ]
            refine anyH_skip (i := 18) (some 43) rfl rfl (by kernel_rfl) (by kernel_rfl) (by kernel_rfl) (fun _ _ _ h => h) (by rfl) (by assumption) ?_
            try simp only [Act.put, List.setIfInBounds_toArray, List.set_cons_zero, List.set_cons_succ]
            refine anyH_take (i := 19) (v := ?_) (some 44) rfl rfl (by kernel_rfl) (by kernel_rfl) (by kernel_rfl) (fun _ _ _ h => h) (by rfl) (by assumption) ?_ ?_
            rotate_left
            · intro w hSw; (try dsimp only at hSw); go_split_ands; go_simp; try (with_reducible rfl)
            try simp only [Act.put, List.setIfInBounds_toArray, List.set_cons_zero, List.set_cons_succ]
            refine wpAnyH_done (by kernel_rfl) ?_ _
            have hb9 := hHeld.2.2.2.2
            clear hHeld SH STH
            go_wp2_with fail
            with_reducible refine (AW.out _ hb9).mono ?_
            rintro e Wz ⟨rfl, hbz⟩
            have hbn := hb4.trans ((hb9.trans (hbz.mono hb9.size)).mono hb4.size)
            go_wp2_with fail
            go_ret
            exact ⟨rfl, hbn⟩
          | true =>
            have SCH := Lib.hid (fun W (hb' : Below W3.heap.size W3 W) => (SC.out W (hb4.trans (hb'.mono hb4.size))).mono (R' := fun e W' => ∃ v, e = .returned v ∧ (W'.cell? ⟨w.heap.size, 0, none⟩ = some (.slice B0' y.cls.length c0) ∧ W'.cell? ⟨w.heap.size, 1, none⟩ = some (.slice B1' y.dec.length c1) ∧ W'.cell? ⟨w.heap.size, 2, none⟩ = some (.slice B2' y.exc.length c2) ∧ W'.cell? ⟨bb, ob, none⟩ = some (.int .i64 c0') ∧ Below W3.heap.size W3 W') ∧ (∃ L F f, v = .agg #[.slice F (canR (secR L)).length f] ∧ PairsOk y L ∧ L.length ≤ 40 ∧ Rgs W' F (canR (secR L)))) (fun e W' ⟨L, hL, hll, F, f, he, g1, g2, g3⟩ => ⟨_, he, SH.out W' (hb'.trans (g3.mono hb'.size)), L, F, f, rfl, hL, hll, g2⟩))
            go_wp2_with fail
            refine wp_region_held_drew (S := fun W' => W'.cell? ⟨w.heap.size, 0, none⟩ = some (.slice B0' y.cls.length c0) ∧ W'.cell? ⟨w.heap.size, 1, none⟩ = some (.slice B1' y.dec.length c1) ∧ W'.cell? ⟨w.heap.size, 2, none⟩ = some (.slice B2' y.exc.length c2) ∧ W'.cell? ⟨bb, ob, none⟩ = some (.int .i64 c0') ∧ Below W3.heap.size W3 W') (by kernel_rfl) (SH.out _ ((Below.refl _ _).drew)) (fun hHeld => ?_)
            refine anyH_take (i := 0) (v := ?_) (some 25) rfl rfl (by kernel_rfl) (by kernel_rfl) (by kernel_rfl) (fun _ _ _ h => h) (by rfl) (by assumption) ?_ ?_
            rotate_left
            · intro w hSw; (try dsimp only at hSw); go_split_ands; go_simp; try (with_reducible rfl)
            try simp only [Act.put, List.setIfInBounds_toArray, List.set_cons_zero, List.set_cons_succ]
            refine anyH_take (i := 1) (v := ?_) (some 26) rfl rfl (by kernel_rfl) (by kernel_rfl) (by kernel_rfl) (fun _ _ _ h => h) (by rfl) (by assumption) ?_ ?_
            rotate_left
            · intro w hSw; (try dsimp only at hSw); go_split_ands; go_simp; try (with_reducible rfl)
            try simp only [Act.put, List.setIfInBounds_toArray, List.set_cons_zero, List.set_cons_succ]
            refine anyH_take (i := 2) (v := ?_) (some 27) rfl rfl (by kernel_rfl) (by kernel_rfl) (by kernel_rfl) (fun _ _ _ h => h) (by rfl) (by assumption) ?_ ?_
            rotate_left
            · intro w hSw; (try dsimp only at hSw); go_split_ands; go_simp; try (with_reducible rfl)
            try simp only [Act.put, List.setIfInBounds_toArray, List.set_cons_zero, List.set_cons_succ]
            refine anyH_take (i := 3) (v := ?_) (some 28) rfl rfl (by kernel_rfl) (by kernel_rfl) (by kernel_rfl) (fun _ _ _ h => h) (by rfl) (by assumption) ?_ ?_
            rotate_left
            · intro w hSw; (try dsimp only at hSw); go_split_ands; go_simp; try (with_reducible rfl)
            try simp only [Act.put, List.setIfInBounds_toArray, List.set_cons_zero, List.set_cons_succ]
            refine anyH_take (i := 4) (v := ?_) (some 29) rfl rfl (by kernel_rfl) (by kernel_rfl) (by kernel_rfl) (fun _ _ _ h => h) (by rfl) (by assumption) ?_ ?_
            rotate_left
            · intro w hSw; (try dsimp only at hSw); go_split_ands; go_simp; try (with_reducible rfl)
            try simp only [Act.put, List.setIfInBounds_toArray, List.set_cons_zero, List.set_cons_succ]
            refine anyH_take (i := 5) (v := ?_) (some 30) rfl rfl (by kernel_rfl) (by kernel_rfl) (by kernel_rfl) (fun _ _ _ h => h) (by rfl) (by assumption) ?_ ?_
            rotate_left
            · intro w hSw; (try dsimp only at hSw); go_split_ands; go_simp; try (with_reducible rfl)
            try simp only [Act.put, List.setIfInBounds_toArray, List.set_cons_zero, List.set_cons_succ]
            refine anyH_take (i := 6) (v := ?_) (some 31) rfl rfl (by kernel_rfl) (by kernel_rfl) (by kernel_rfl) (fun _ _ _ h => h) (by rfl) (by assumption) ?_ ?_
            rotate_left
            · intro w hSw; (try dsimp only at hSw); go_split_ands; go_simp; try (with_reducible rfl)
            try simp only [Act.put, List.setIfInBounds_toArray, List.set_cons_zero, List.set_cons_succ]
            refine anyH_take (i := 7) (v := ?_) (some 32) rfl rfl (by kernel_rfl) (by kernel_rfl) (by kernel_rfl) (fun _ _ _ h => h) (by rfl) (by assumption) ?_ ?_
            rotate_left
            · intro w hSw; (try dsimp only at hSw); go_split_ands; go_simp; try (with_reducible rfl)
            try simp only [Act.put, List.setIfInBounds_toArray, List.set_cons_zero, List.set_cons_succ]
            refine anyH_take (i := 8) (v := ?_) (some 33) rfl rfl (by kernel_rfl) (by kernel_rfl) (by kernel_rfl) (fun _ _ _ h => h) (by rfl) (by assumption) ?_ ?_
            rotate_left
            · intro w hSw; (try dsimp only at hSw); go_split_ands; go_simp; try (with_reducible rfl)
            try simp only [Act.put, List.setIfInBounds_toArray, List.set_cons_zero, List.set_cons_succ]
            refine anyH_call (i := 9) (some 34) rfl rfl (by kernel_rfl) (by rfl) (by go_simp) (STH.out _ hHeld.2.2.2.2) (fun W4 hS6 => ?_)
            clear hHeld
            have hHeld := hS6
            clear hS6
            try simp only [Act.put, List.setIfInBounds_toArray, List.set_cons_zero, List.set_cons_succ]
            refine anyH_take (i := 10) (v := ?_) (some 35) rfl rfl (by kernel_rfl) (by kernel_rfl) (by kernel_rfl) (fun _ _ _ h => h) (by rfl) (by assumption) ?_ ?_
            rotate_left
            · intro w hSw; (try dsimp only at hSw); go_split_ands; go_simp; try (with_reducible rfl)
            try simp only [Act.put, List.setIfInBounds_toArray, List.set_cons_zero, List.set_cons_succ]
            refine anyH_take (i := 11) (v := ?_) (some 36) rfl rfl (by kernel_rfl) (by kernel_rfl) (by kernel_rfl) (fun _ _ _ h => h) (by rfl) (by assumption) ?_ ?_
            rotate_left
            · intro w hSw; (try dsimp only at hSw); go_split_ands; go_simp; try (with_reducible rfl)
            try simp only [Act.put, List.setIfInBounds_toArray, List.set_cons_zero, List.set_cons_succ]
            refine anyH_take (i := 12) (v := ?_) (some 37) rfl rfl (by kernel_rfl) (by kernel_rfl) (by kernel_rfl) (fun _ _ _ h => h) (by rfl) (by assumption) ?_ ?_
            rotate_left
            · intro w hSw; (try dsimp only at hSw); go_split_ands; go_simp; try (with_reducible rfl)
            try simp only [Act.put, List.setIfInBounds_toArray, List.set_cons_zero, List.set_cons_succ]
            refine anyH_take (i := 13) (v := ?_) (some 38) rfl rfl (by kernel_rfl) (by kernel_rfl) (by kernel_rfl) (fun _ _ _ h => h) (by rfl) (by assumption) ?_ ?_
            rotate_left
            · intro w hSw; (try dsimp only at hSw); go_split_ands; go_simp; try (with_reducible rfl)
            try simp only [Act.put, List.setIfInBounds_toArray, List.set_cons_zero, List.set_cons_succ]
            refine anyH_take (i := 15) (v := ?_) (some 40) rfl rfl (by kernel_rfl) (by kernel_rfl) (by kernel_rfl) (fun _ _ _ h => h) (by rfl) (by assumption) ?_ ?_
            rotate_left
            · intro w hSw; (try dsimp only at hSw); go_split_ands; go_simp; try (with_reducible rfl)
            try simp only [Act.put, List.setIfInBounds_toArray, List.set_cons_zero, List.set_cons_succ]
            refine anyH_take (i := 16) (v := ?_) (some 41) rfl rfl (by kernel_rfl) (by kernel_rfl) (by kernel_rfl) (fun _ _ _ h => h) (by rfl) (by assumption) ?_ ?_
            rotate_left
            · intro w hSw; (try dsimp only at hSw); go_split_ands; go_simp; try (with_reducible rfl)
            try simp only [Act.put, List.setIfInBounds_toArray, List.set_cons_zero, List.set_cons_succ]
            refine anyH_take (i := 17) (v := ?_) (some 42) rfl rfl (by kernel_rfl) (by kernel_rfl) (by kernel_rfl) (fun _ _ _ h => h) (by rfl) (by assumption) ?_ ?_
            rotate_left
            · intro w hSw; (try dsimp only at hSw); go_split_ands; go_simp; try (with_reducible rfl)
            try simp only [Act.put, List.setIfInBounds_toArray, List.set_cons_zero, List.set_cons_succ]
            refine anyH_callE (i := 14) (some 39) rfl rfl (by kernel_rfl) (by rfl) (by go_simp) (SCH.out _ hHeld.2.2.2.2) ?_
            rintro _ W5 hS6 ⟨L, F, f, rfl, hPO, hLL, hF⟩
            clear hHeld
            have hHeld := hS6
            clear hS6
            try simp only [Act.put, List.setIfInBounds_toArray, List.set_cons_zero, List.set_cons_succ]
            have hrl : (canR (secR L)).length ≤ 1048576 := by
              have := canR_len (secR L)
              rw [secR_len] at this
              omega
            have HSI := Lib.hid (fun h => HSN.out L hPO c0' h)
            generalize canR (secR L) = R at *
            have HRH := Lib.hid ((refHas_any F R.length f R c0' W5 hF rfl hrl).mono (R' := fun e W' => e = .returned (.bool (hasR R c0')) ∧ (W'.cell? ⟨w.heap.size, 0, none⟩ = some (.slice B0' y.cls.length c0) ∧ W'.cell? ⟨w.heap.size, 1, none⟩ = some (.slice B1' y.dec.length c1) ∧ W'.cell? ⟨w.heap.size, 2, none⟩ = some (.slice B2' y.exc.length c2) ∧ W'.cell? ⟨bb, ob, none⟩ = some (.int .i64 c0') ∧ Below W3.heap.size W3 W')) (fun e W' hh => ⟨hh.1, SH.out W' (hHeld.2.2.2.2.trans (hh.2.mono hHeld.2.2.2.2.size))⟩))
            clear hF hPO HSN
            generalize hasR R c0' = hv at *
            refine anyH_call (i := 18) (some 43) rfl rfl (by kernel_rfl) (by rfl) (by go_simp) (HRH.out) (fun W9 hS6 => ?_)
            clear hHeld
            have hHeld := hS6
            clear hS6
            try simp only [Act.put, List.setIfInBounds_toArray, List.set_cons_zero, List.set_cons_succ]
            refine anyH_take (i := 19) (v := ?_) (some 44) rfl rfl (by kernel_rfl) (by kernel_rfl) (by kernel_rfl) (fun _ _ _ h => h) (by rfl) (by assumption) ?_ ?_
            rotate_left
            · intro w hSw; (try dsimp only at hSw); go_split_ands; go_simp; try (with_reducible rfl)
            try simp only [Act.put, List.setIfInBounds_toArray, List.set_cons_zero, List.set_cons_succ]
            refine wpAnyH_done (by kernel_rfl) ?_ _
            have hb9 := hHeld.2.2.2.2
            clear hHeld SH STH SCH HRH
            cases hv with
            | true =>
              go_wp2_with fail
              with_reducible refine (AW.out _ hb9).mono ?_
              rintro e Wz ⟨rfl, hbz⟩
              have hbn := hb4.trans ((hb9.trans (hbz.mono hb9.size)).mono hb4.size)
              go_wp2_with fail
              go_ret
              exact ⟨rfl, hbn⟩
            | false =>
              have hbw := hb4.trans (hb9.mono hb4.size)
              have hz0 := HCL.out (by simp)
              have HSP := Lib.hid (SPR.out t b' c0' hz0 (HSI.out rfl))
              have hl1 := TLN.out t
              have hl2 := TLN.out (c0' :: b')
              have TA := Lib.hid (fun W hb => TC.out A t.length a t W hb (HA.out W hb) rfl (by omega) HOK.out)
              have TB := Lib.hid (fun W hb => TC.out (some ⟨bb, ob, none⟩) lb a' (c0' :: b') W hb (HB.out W hb) HLB.out (by omega) HOK'.out)
              have TAB := Lib.hid (fun D d W hb hD => TC.out D (t.length + lb) d (t ++ c0' :: b') W hb hD (by rw [List.length_append, HLB.out]) (by omega) (fun c hc => by
                rcases List.mem_append.1 hc with h | h
                · exact HOK.out c h
                · exact HOK'.out c h))
              have hlb2 := HLB.out
              clear SPR TLN HCL HSI TC hz0 HOK HOK'
              rw [hlb2] at hl2
              clear hlb2
              generalize Cps.text (clz y.cls) (prN y) t = za at *
              generalize Cps.text (clz y.cls) (prN y) (c0' :: b') = zb at *
              generalize Cps.text (clz y.cls) (prN y) (t ++ c0' :: b') = zab at *
              obtain rfl := HSP.out
              have hIA := HA.out W9 hbw
              have hIB := HB.out W9 hbw
              have HIB := Lib.hid (show Ints W9 (some ⟨bb, ob, none⟩) (c0' :: b') from hIB)
              have HLN := Lib.hid (show ((c0' :: b').map (Value.int .i64)).length = lb * 1 from by rw [List.length_map, HLB.out, Nat.mul_one])
              clear hIB HSP
              go_wp2_with (first | (at_builtin; refine wpList_app0 _ _ 38 3 (.int .i64 0) 1 8 rfl rfl Tryz.underlying38 info_int rfl (by decide) (by decide) rfl rfl (HA.out _ (hb4.trans (hb9.mono hb4.size))) (by simp) (oneCell_ints _) (by omega) ?_; intro Y1 yd1 y1 howny1 hyd1 hby1; have HI2 := Lib.hid (HIB.out.below hby1)) | (at_builtin; refine wpList_app _ _ 38 3 (.int .i64 0) 1 8 rfl rfl Tryz.underlying38 info_int rfl (by decide) (by decide) rfl howny1 rfl HI2.out HLN.out (oneCell_ints _) (by omega) hby1.size ?_; intro Y2 yd2 y2 howny2 hyd2 hby2 _ _; have hby12 := hby1.trans (hby2.mono (Nat.le_refl _)); have q0 := (X3.out.below (hb9.trans (hby12.mono hb9.size)) hxl).cell (i := 0) rfl; have q1 := (X3.out.below (hb9.trans (hby12.mono hb9.size)) hxl).cell (i := 1) rfl; have q2 := (X3.out.below (hb9.trans (hby12.mono hb9.size)) hxl).cell (i := 2) rfl))
              have hbx2 := hb9.trans (hby12.mono hb9.size)
              have hbw2 := hb4.trans (hbx2.mono hb4.size)
              have HAB := Lib.hid (show Ints y2 Y2 (t ++ c0' :: b') from by
                have := Sl.of_own howny2
                rw [← List.map_append] at this
                exact this)
              clear howny1 howny2 hby1 hby2 hby12 HI2 hIA HIB
              with_reducible refine (TA.out y2 hbw2).mono ?_
              rintro e W10 ⟨E1, e1, rfl, he1, hE1, hb10⟩
              have HAB2 := Lib.hid (HAB.out.below hb10)
              have hbx3 := hbx2.trans (hb10.mono hbx2.size)
              have hbw3 := hb4.trans (hbx3.mono hb4.size)
              clear HAB hb10 hbx2 hbw2 q0 q1 q2 TA
              go_wp2_with (at_builtin; refine wpList_app0 _ _ 38 3 (.int .i64 0) 1 8 rfl rfl Tryz.underlying38 info_int rfl (by decide) (by decide) rfl rfl hE1 (by simp) (oneCell_ints _) (by omega) ?_; intro Y3 yd3 y3 howny3 hyd3 hby3; have q0 := (X3.out.below (hbx3.trans (hby3.mono hbx3.size)) hxl).cell (i := 0) rfl; have q1 := (X3.out.below (hbx3.trans (hby3.mono hbx3.size)) hxl).cell (i := 1) rfl; have q2 := (X3.out.below (hbx3.trans (hby3.mono hbx3.size)) hxl).cell (i := 2) rfl)
              have hbx4 := hbx3.trans (hby3.mono hbx3.size)
              have hbw4 := hb4.trans (hbx4.mono hb4.size)
              have HO3 := Lib.hid howny3
              have hy34 := hby3.size
              clear hE1 howny3 hbw3
              with_reducible refine (TB.out y3 hbw4).mono ?_
              rintro e W11 ⟨E2, e2, rfl, he2, hE2, hb11⟩
              have HO4 := Lib.hid (own_keep HO3.out hb11)
              have hk11 : Below W10.heap.size W10 W11 := hby3.trans (hb11.mono hy34)
              have hsz5 : W10.heap.size ≤ W11.heap.size := hk11.size
              clear HO3 q0 q1 q2 TB hbw4 hby3 hb11
              go_wp2_with (at_builtin; refine wpList_app _ _ 38 3 (.int .i64 0) 1 8 rfl rfl Tryz.underlying38 info_int rfl (by decide) (by decide) rfl HO4.out rfl hE2 (by simp) (oneCell_ints _) (by omega) hsz5 ?_; intro Y4 yd4 y4 howny4 hyd4 hby4 _ _; have hk := hk11.trans hby4; have q0 := (X3.out.below (hbx3.trans (hk.mono hbx3.size)) hxl).cell (i := 0) rfl; have q1 := (X3.out.below (hbx3.trans (hk.mono hbx3.size)) hxl).cell (i := 1) rfl; have q2 := (X3.out.below (hbx3.trans (hk.mono hbx3.size)) hxl).cell (i := 2) rfl)
              have hbx6 := hbx3.trans (hk.mono hbx3.size)
              have hbw6 := hb4.trans (hbx6.mono hb4.size)
              have HAB5 := Lib.hid (HAB2.out.below hk)
              have HZ := Lib.hid (show Ints y4 Y4 (za ++ zb) from by
                have := Sl.of_own howny4
                rw [← List.map_append] at this
                exact this)
              clear howny4 HAB2 HO4 hE2 hk hk11
              with_reducible refine (TAB.out _ _ y4 hbw6 HAB5.out).mono ?_
              rintro e W12 ⟨E3, e3, rfl, he3, hE3, hb12⟩
              have hbx7 := hbx6.trans (hb12.mono hbx6.size)
              have KE := Lib.hid ((Equal_any E3 Y4 (za.length + zb.length) (za.length + zb.length) e3 yd4 (za ++ zb) (za ++ zb) W12 hE3 (HZ.out.below hb12) (by rw [List.length_append]) (by rw [List.length_append]) (by omega) (by omega)).mono (R' := fun e w' => e = .returned (.bool true) ∧ Qt W12 w') (fun e w' h => ⟨by rw [h.1, decide_eq_true rfl], h.2⟩))
              clear q0 q1 q2 hE3 HZ HAB5 TAB
              go_wp2_with fail
              with_reducible refine KE.out.mono ?_
              rintro e W13 ⟨rfl, hq⟩
              have hb9 := hbx7.trans (hq.below.mono hbx7.size)
              go_wp2_with fail
              with_reducible refine (AW.out _ hb9).mono ?_
              rintro e Wz ⟨rfl, hbz⟩
              have hbn := hb4.trans ((hb9.trans (hbz.mono hb9.size)).mono hb4.size)
              go_wp2_with fail
              go_ret
              exact ⟨rfl, hbn⟩

end Go.Proofs.YtjglanjfgbipmaaGreatDoor
