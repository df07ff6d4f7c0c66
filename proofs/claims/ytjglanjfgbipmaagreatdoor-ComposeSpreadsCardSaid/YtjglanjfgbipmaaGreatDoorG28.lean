/- Texts that are merged into one file: RefCpText. -/
import Derived.Test.YtjglanjfgbipmaaGreatDoorG24
import Derived.Test.YtjglanjfgbipmaaGreatDoorG26
import Derived.Test.YtjglanjfgbipmaaGreatDoorG27
/- The contract of the reference's Text of composing. Written by gen_reftext.py. -/
namespace Go.Proofs.YtjglanjfgbipmaaGreatDoor
open Go.RowKit Go.Maps Go.WideMaps

set_option maxRecDepth 100000 in
set_option maxHeartbeats 12800000 in
theorem refCpText_any (A0 : Option Addr) (n0 k0 : Nat) (A1 : Option Addr) (n1 k1 : Nat) (A2 : Option Addr) (n2 k2 : Nat) (x : Nrm) (A : Option Addr) (n k : Nat) (t : List Int) (w : World) (hN : NrmAt w A0 n0 A1 n1 A2 n2 x) (hz : NrmSz x)
    (hA : Ints w A t) (hn : t.length = n) (hbig : n ≤ 1048576) :
    Calls Tryz.prog 19 #[.agg #[.slice A0 n0 k0, .slice A1 n1 k1, .slice A2 n2 k2], .slice A n k] w (RetHg (Cps.text (clz (usN x).cls) (prN (usN x)) t) w) := by
  subst hn
  have hB : Below w.heap.size w (w.alloc (.cells #[.slice A0 n0 k0, .slice A1 n1 k1, .slice A2 n2 k2] 28)) := (Below.refl _ _).alloc (Nat.le_refl _) _
  have hX : Box (w.alloc (.cells #[.slice A0 n0 k0, .slice A1 n1 k1, .slice A2 n2 k2] 28)) w.heap.size 28 [.slice A0 n0 k0, .slice A1 n1 k1, .slice A2 n2 k2] := Box.new w _ [.slice A0 n0 k0, .slice A1 n1 k1, .slice A2 n2 k2] rfl
  have UC := Lib.hid (refCounted_eq A0 n0 k0 A1 n1 k1 A2 n2 k2 x _ (hN.below hB) hz)
  obtain ⟨B0, c0, B1, c1, B2, c2, hv, hNW⟩ := usV_at hN k0 k1 k2
  rw [hv] at UC
  have HNW := Lib.hid hNW
  clear hv hNW
  have HB := Lib.hid hB
  have HX := Lib.hid hX
  have HA := Lib.hid hA
  have hzu := hz.us
  have HRT := Lib.hid (fun i (hi : i < t.length) => run_take (cl := clz (usN x).cls) (pr := prN (usN x)) hi)
  have HRL := Lib.hid (fun i => take_run_len (cl := clz (usN x).cls) (pr := prN (usN x)) t i)
  have HRE := Lib.hid (show Cps.text (clz (usN x).cls) (prN (usN x)) t = (Cps.run (clz (usN x).cls) (prN (usN x)) Cps.s0 (t.take t.length)).out from by rw [List.take_length]; rfl)
  have z0 := hzu.z0
  clear hN hz hB hX hA
  generalize usN x = y at *
  have PRC := Lib.hid (fun u v W (hb : Below w.heap.size w W) => refpair_any B0 _ c0 B1 _ c1 B2 _ c2 y u v W (HNW.out W hb) hzu)
  have CLC := Lib.hid (fun c W (hb : Below w.heap.size w W) => refClass_any B0 y.cls.length c0 y.cls c W (HNW.out W hb).s0 rfl (by omega))
  have STC := Lib.hid (fun c W (hb : Below w.heap.size w W) => refStarter_any B0 y.cls.length c0 y.cls c W (HNW.out W hb).s0 rfl (by omega))
  clear hzu
  go_enter Tryz.func19, Tryz.ntmps19
  go_wp2_with fail
  have g0 := HX.out.cell (i := 0) rfl
  have g1 := HX.out.cell (i := 1) rfl
  have g2 := HX.out.cell (i := 2) rfl
  go_wp2_with fail
  with_reducible refine UC.out.mono ?_
  rintro e W1 ⟨rfl, hb1⟩
  have hX1 := HX.out.below hb1 HX.out.lt
  have hb := HB.out.trans (hb1.mono HB.out.size)
  clear g0 g1 g2
  have d0 := hX1.cell (i := 0) rfl
  have d1 := hX1.cell (i := 1) rfl
  have d2 := hX1.cell (i := 2) rfl
  have f0 := hX1.free 0
  have f1 := hX1.free 1
  have f2 := hX1.free 2
  have hX2 := ((hX1.set 0 (.slice B0 y.cls.length c0)).set 1 (.slice B1 y.dec.length c1)).set 2 (.slice B2 y.exc.length c2)
  have hb4 : Below w.heap.size w (((W1.setCell ⟨w.heap.size, 0, none⟩ (.slice B0 y.cls.length c0)).setCell ⟨w.heap.size, 1, none⟩ (.slice B1 y.dec.length c1)).setCell ⟨w.heap.size, 2, none⟩ (.slice B2 y.exc.length c2)) := ((hb.setCell (by simp) _).setCell (by simp) _).setCell (by simp) _
  have W2E : ∃ W3, (((W1.setCell ⟨w.heap.size, 0, none⟩ (.slice B0 y.cls.length c0)).setCell ⟨w.heap.size, 1, none⟩ (.slice B1 y.dec.length c1)).setCell ⟨w.heap.size, 2, none⟩ (.slice B2 y.exc.length c2)) = W3 := ⟨_, rfl⟩
  go_wp2_with fail
  obtain ⟨W3, hW2⟩ := W2E
  rw [hW2] at hX2 hb4 ⊢
  clear hW2 d0 d1 d2 f0 f1 f2 hX1 hb hb1 UC HX HB
  have hXl := hX2.lt
  have X3 := Lib.hid hX2
  clear hX2
  generalize hcl : clz y.cls = cl at *
  generalize hpr : prN y = pr at *
  clear hcl hpr
  go_loopw [5, 6, 7] (fun v5 v6 u wr => ∃ (i : Nat) (s : Cps.CSt) (B : Option Addr) (c : Nat), i ≤ t.length ∧ u = .int .i64 i ∧ Cps.run cl pr Cps.s0 (t.take i) = s ∧ v5 = .slice B s.out.length c ∧ v6 = .int .i64 (lastV s) ∧ (∀ b ∈ s.bt, cl b ≠ 0) ∧
      wr.ownsRow W3.heap.size 3 1 (.slice B s.out.length c) s.out.length (s.out.map (Value.int .i64)) ∧ Below W3.heap.size W3 wr) (fun _ _ u _ => t.length - (intOf u).toNat)
  case atStart => exact ⟨0, Cps.s0, none, 0, Nat.zero_le _, rfl, rfl, rfl, rfl, fun b hb => (by cases hb), World.ownsRow_nil _ _ _ _, Below.refl _ _⟩
  case round =>
    obtain ⟨i, s, B, c, hi, rfl, hs, rfl, rfl, hbt, hown, hb⟩ := hrel
    have HS := Lib.hid hs
    have HBT := Lib.hid hbt
    have HOWN := Lib.hid hown
    have hsl := HRL.out i
    rw [hs] at hsl
    clear hs hbt hown
    have hbw := hb4.trans (hb.mono hb4.size)
    have q0 := (X3.out.below hb X3.out.lt).cell (i := 0) rfl
    by_cases hlt : i < t.length
    · obtain ⟨b1, o1, rfl, hcell⟩ := (HA.out.below hbw).at hlt
      have c1' := hcell i hlt
      have HT1 := Lib.hid (HRT.out i hlt)
      clear hcell
      generalize t[i] = z at *
      rw [HS.out] at HT1
      have KZ := Lib.hid (CLC.out z wr hbw)
      generalize hcz : cl z = cz at *
      have HCZ := Lib.hid hcz
      clear hcz
      go_wp2_with fail
      with_reducible refine KZ.out.mono ?_
      rintro e W5 ⟨rfl, hb5⟩
      have hb6 := hb.trans (hb5.mono hb.size)
      have HO5 := Lib.hid (own_keep HOWN.out hb5)
      clear HOWN hbw q0 c1' hb HS KZ hb5
      cases hst : s.st with
      | none =>
        have hlv : lastV s = -1 := by unfold lastV; rw [hst]
        have HLV := Lib.hid (show Value.int .i64 (-1) = .int .i64 (lastV s) from by rw [hlv])
        have HJN := Lib.hid (show Cps.join cl pr s z = none from by unfold Cps.join; rw [hst])
        rw [hlv]
        clear hlv hst
        have HSTEP := Lib.hid (show Cps.run cl pr Cps.s0 (t.take (i + 1)) = Cps.put cl s z from by rw [HT1.out]; exact Cps.step_none HJN.out)
        have HPO := Lib.hid (Cps.put_out (cl := cl) s z)
        by_cases hz0 : cz = 0
        · have HPV := Lib.hid (show lastV (Cps.put cl s z) = s.out.length from by unfold Cps.put; rw [if_pos (by rw [HCZ.out]; exact hz0)]; rfl)
          have HPB := Lib.hid (show ∀ b ∈ (Cps.put cl s z).bt, cl b ≠ 0 from by unfold Cps.put; rw [if_pos (by rw [HCZ.out]; exact hz0)]; intro b hb; cases hb)
          subst hz0
          clear HJN
          go_wp2_with (at_builtin; refine wpList_app _ _ 38 3 (.int .i64 0) 1 8 rfl rfl Tryz.underlying38 info_int rfl (by decide) (by decide) rfl (HO5.out.alloc _) rfl (Sl_new W5 [.int .i64 z] 3 rfl) (by simp) (oneCell_ints [z]) (by omega) (by have := hb6.size; simp; omega) ?_; intro B1' c1' w1 hown1 hc1' hb1 hg1 hB1)
          have hbn := hb6.trans (((Below.refl _ _).alloc (Nat.le_refl _) _).mono hb6.size |>.trans hb1)
          go_roundw
          case rel =>
            refine ⟨i + 1, Cps.put cl s z, B1', c1', by omega, by go_num, HSTEP.out, ?_, by rw [HPV.out], HPB.out, ?_, hbn⟩
            · rw [HPO.out, List.length_append]; rfl
            · rw [HPO.out, List.length_append, List.map_append]; exact hown1
          case measure => simp [intOf]; omega
        · have HPV := Lib.hid (show lastV (Cps.put cl s z) = lastV s from by unfold Cps.put; rw [if_neg (by rw [HCZ.out]; exact hz0)]; rfl)
          have HPB := Lib.hid (show ∀ b ∈ (Cps.put cl s z).bt, cl b ≠ 0 from by
            unfold Cps.put; rw [if_neg (by rw [HCZ.out]; exact hz0)]; intro b hb
            rcases List.mem_append.1 hb with hb | hb
            · exact HBT.out b hb
            · simp at hb; subst hb; rw [HCZ.out]; exact hz0)
          have hz1 : (cz == 0) = false := by simpa using hz0
          clear HJN
          go_wp2_with (at_builtin; refine wpList_app _ _ 38 3 (.int .i64 0) 1 8 rfl rfl Tryz.underlying38 info_int rfl (by decide) (by decide) rfl (HO5.out.alloc _) rfl (Sl_new W5 [.int .i64 z] 3 rfl) (by simp) (oneCell_ints [z]) (by omega) (by have := hb6.size; simp; omega) ?_; intro B1' c1' w1 hown1 hc1' hb1 hg1 hB1)
          have hbn := hb6.trans (((Below.refl _ _).alloc (Nat.le_refl _) _).mono hb6.size |>.trans hb1)
          go_roundw
          case rel =>
            refine ⟨i + 1, Cps.put cl s z, B1', c1', by omega, by go_num, HSTEP.out, ?_, by rw [HPV.out]; exact HLV.out, HPB.out, ?_, hbn⟩
            · rw [HPO.out, List.length_append]; rfl
            · rw [HPO.out, List.length_append, List.map_append]; exact hown1
          case measure => simp [intOf]; omega
      | some L =>
        have hlv : lastV s = s.pre.length := by unfold lastV; rw [hst]
        have hol : s.out.length = s.pre.length + 1 + s.bt.length := by unfold Cps.CSt.out; rw [hst]; simp; omega
        have HLV := Lib.hid (show Value.int .i64 (s.pre.length : Int) = .int .i64 (lastV s) from by rw [hlv])
        have hgL : s.out[s.pre.length]? = some L := by unfold Cps.CSt.out; rw [hst]; simp
        rw [hlv]
        clear hlv
        obtain ⟨g, hBg, hgb, _, hcells, _⟩ := own_ints HO5.out (by omega)
        subst hBg
        have HGL := Lib.hid hgL
        have HLT2 := Lib.hid (show s.pre.length < s.out.length from by omega)
        have HLT3 := Lib.hid (show 0 < s.out.length from by omega)
        have hoc : s.out.length ≤ c := by
          obtain ⟨_, _, hvf, hcc⟩ := own_form HO5.out
          injection hvf with _ _ hcf
          omega
        have hst' := Lib.hid hst
        have p0 := (X3.out.below hb6 X3.out.lt).cell (i := 0) rfl
        have hb45 := hb4.trans (hb6.mono hb4.size)
        by_cases hbe : s.bt = []
        · have rc : ∀ W, (Instr.sliceAt 38 (.slice (some ⟨g, 0, none⟩) s.out.length c) (some (.int .i64 ((s.pre.length : Int) + 1))) none none).run Tryz.prog W = .ok (.slice (subA (some ⟨g, 0, none⟩) c (s.pre.length + 1)) 0 (c - (s.pre.length + 1))) W := fun W => by
            have h := run_cutFrom (some ⟨g, 0, none⟩) s.out.length c (s.pre.length + 1) (by omega) W
            rw [show s.out.length - (s.pre.length + 1) = 0 from by rw [hol, hbe]; simp] at h
            exact h
          have HPRx := Lib.hid (show Cps.join cl pr s z = pr L z from by unfold Cps.join Cps.free; rw [hst, hbe]; simp)
          have SH := Lib.hid (fun W' (hb' : Below W5.heap.size W5 W') => show W'.cell? ⟨w.heap.size, 0, none⟩ = some (.slice B0 y.cls.length c0) ∧ Below W5.heap.size W5 W' from ⟨(hb'.cell (World.block_lt_of_cell? _ _ p0)).trans p0, hb'⟩)
          generalize subA (some ⟨g, 0, none⟩) c (s.pre.length + 1) = SA at *
          clear hol hgL hcells hst p0 hbe
          have hlt2 : s.pre.length < s.out.length := HLT2.out
          go_wp2_with fail
          refine wp_region_held_drew (S := fun W' => W'.cell? ⟨w.heap.size, 0, none⟩ = some (.slice B0 y.cls.length c0) ∧ Below W5.heap.size W5 W') (by kernel_rfl) (SH.out _ ((Below.refl _ _).drew)) (fun hHeld => ?_)
          refine anyH_take (i := 0) (v := ?_) (some 36) rfl rfl (by kernel_rfl) (by kernel_rfl) (by kernel_rfl) (fun _ _ _ h => h) (by rfl) (by assumption) ?_ ?_
          rotate_left
          · intro w hSw; (try dsimp only at hSw); go_split_ands; go_simp; try (with_reducible rfl)
          try simp only [Act.put, List.setIfInBounds_toArray, List.set_cons_zero, List.set_cons_succ]
          refine anyH_take (i := 1) (v := ?_) (some 37) rfl rfl (by kernel_rfl) (by kernel_rfl) (by kernel_rfl) (fun _ _ _ h => h) (by rfl) (by assumption) ?_ ?_
          rotate_left
          · intro w hSw; (try dsimp only at hSw); go_split_ands; go_simp; try (with_reducible rfl)
          try simp only [Act.put, List.setIfInBounds_toArray, List.set_cons_zero, List.set_cons_succ]
          refine anyH_take (i := 2) (v := ?_) (some 38) rfl rfl (by kernel_rfl) (by kernel_rfl) (by kernel_rfl) (fun _ _ _ h => h) (by rfl) (by assumption) ?_ ?_
          rotate_left
          · intro w hSw; (try dsimp only at hSw); go_split_ands; go_simp; try (with_reducible rfl)
          try simp only [Act.put, List.setIfInBounds_toArray, List.set_cons_zero, List.set_cons_succ]
          refine anyH_take (i := 3) (v := ?_) (some 39) rfl rfl (by kernel_rfl) (by kernel_rfl) (by kernel_rfl) (fun _ _ _ h => h) (by rfl) (by assumption) ?_ ?_
          rotate_left
          · intro w hSw; (try dsimp only at hSw); go_split_ands; go_simp; try (with_reducible rfl)
          try simp only [Act.put, List.setIfInBounds_toArray, List.set_cons_zero, List.set_cons_succ]
          refine anyH_skip (i := 4) (some 40) rfl rfl (by kernel_rfl) (by kernel_rfl) (by kernel_rfl) (fun _ _ _ h => h) (by rfl) (by assumption) ?_
          try simp only [Act.put, List.setIfInBounds_toArray, List.set_cons_zero, List.set_cons_succ]
          refine anyH_skip (i := 5) (some 41) rfl rfl (by kernel_rfl) (by kernel_rfl) (by kernel_rfl) (fun _ _ _ h => h) (by rfl) (by assumption) ?_
          try simp only [Act.put, List.setIfInBounds_toArray, List.set_cons_zero, List.set_cons_succ]
          refine anyH_skip (i := 6) (some 42) rfl rfl (by kernel_rfl) (by kernel_rfl) (by kernel_rfl) (fun _ _ _ h => h) (by rfl) (by assumption) ?_
          try simp only [Act.put, List.setIfInBounds_toArray, List.set_cons_zero, List.set_cons_succ]
          refine anyH_skip (i := 7) (some 43) rfl rfl (by kernel_rfl) (by kernel_rfl) (by kernel_rfl) (fun _ _ _ h => h) (by rfl) (by assumption) ?_
          try simp only [Act.put, List.setIfInBounds_toArray, List.set_cons_zero, List.set_cons_succ]
          refine anyH_skip (i := 8) (some 44) rfl rfl (by kernel_rfl) (by kernel_rfl) (by kernel_rfl) (fun _ _ _ h => h) (by rfl) (by assumption) ?_
          try simp only [Act.put, List.setIfInBounds_toArray, List.set_cons_zero, List.set_cons_succ]
          refine anyH_skip (i := 9) (some 45) rfl rfl (by kernel_rfl) (by kernel_rfl) (by kernel_rfl) (fun _ _ _ h => h) (by rfl) (by assumption) ?_
          try simp only [Act.put, List.setIfInBounds_toArray, List.set_cons_zero, List.set_cons_succ]
          refine anyH_skip (i := 10) (some 46) rfl rfl (by kernel_rfl) (by kernel_rfl) (by kernel_rfl) (fun _ _ _ h => h) (by rfl) (by assumption) ?_
          try simp only [Act.put, List.setIfInBounds_toArray, List.set_cons_zero, List.set_cons_succ]
          refine anyH_skip (i := 11) (some 47) rfl rfl (by kernel_rfl) (by kernel_rfl) (by kernel_rfl) (fun _ _ _ h => h) (by rfl) (by assumption) ?_
          try simp only [Act.put, List.setIfInBounds_toArray, List.set_cons_zero, List.set_cons_succ]
          refine anyH_skip (i := 12) (some 48) rfl rfl (by kernel_rfl) (by kernel_rfl) (by kernel_rfl) (fun _ _ _ h => h) (by rfl) (by assumption) ?_
          try simp only [Act.put, List.setIfInBounds_toArray, List.set_cons_zero, List.set_cons_succ]
          refine anyH_skip (i := 13) (some 49) rfl rfl (by kernel_rfl) (by kernel_rfl) (by kernel_rfl) (fun _ _ _ h => h) (by rfl) (by assumption) ?_
          try simp only [Act.put, List.setIfInBounds_toArray, List.set_cons_zero, List.set_cons_succ]
          refine anyH_skip (i := 14) (some 50) rfl rfl (by kernel_rfl) (by kernel_rfl) (by kernel_rfl) (fun _ _ _ h => h) (by rfl) (by assumption) ?_
          try simp only [Act.put, List.setIfInBounds_toArray, List.set_cons_zero, List.set_cons_succ]
          refine anyH_skip (i := 15) (some 51) rfl rfl (by kernel_rfl) (by kernel_rfl) (by kernel_rfl) (fun _ _ _ h => h) (by rfl) (by assumption) ?_
          try simp only [Act.put, List.setIfInBounds_toArray, List.set_cons_zero, List.set_cons_succ]
          refine anyH_skip (i := 16) (some 52) rfl rfl (by kernel_rfl) (by kernel_rfl) (by kernel_rfl) (fun _ _ _ h => h) (by rfl) (by assumption) ?_
          try simp only [Act.put, List.setIfInBounds_toArray, List.set_cons_zero, List.set_cons_succ]
          refine anyH_skip (i := 17) (some 53) rfl rfl (by kernel_rfl) (by kernel_rfl) (by kernel_rfl) (fun _ _ _ h => h) (by rfl) (by assumption) ?_
          try simp only [Act.put, List.setIfInBounds_toArray, List.set_cons_zero, List.set_cons_succ]
          refine anyH_skip (i := 18) (some 54) rfl rfl (by kernel_rfl) (by kernel_rfl) (by kernel_rfl) (fun _ _ _ h => h) (by rfl) (by assumption) ?_
          try simp only [Act.put, List.setIfInBounds_toArray, List.set_cons_zero, List.set_cons_succ]
          refine anyH_skip (i := 19) (some 55) rfl rfl (by kernel_rfl) (by kernel_rfl) (by kernel_rfl) (fun _ _ _ h => h) (by rfl) (by assumption) ?_
          try simp only [Act.put, List.setIfInBounds_toArray, List.set_cons_zero, List.set_cons_succ]
          refine anyH_skip (i := 20) (some 56) rfl rfl (by kernel_rfl) (by kernel_rfl) (by kernel_rfl) (fun _ _ _ h => h) (by rfl) (by assumption) ?_
          try simp only [Act.put, List.setIfInBounds_toArray, List.set_cons_zero, List.set_cons_succ]
          refine anyH_skip (i := 21) (some 57) rfl rfl (by kernel_rfl) (by kernel_rfl) (by kernel_rfl) (fun _ _ _ h => h) (by rfl) (by assumption) ?_
          try simp only [Act.put, List.setIfInBounds_toArray, List.set_cons_zero, List.set_cons_succ]
          refine anyH_skip (i := 22) (some 58) rfl rfl (by kernel_rfl) (by kernel_rfl) (by kernel_rfl) (fun _ _ _ h => h) (by rfl) (by assumption) ?_
          try simp only [Act.put, List.setIfInBounds_toArray, List.set_cons_zero, List.set_cons_succ]
          refine anyH_skip (i := 23) (some 59) rfl rfl (by kernel_rfl) (by kernel_rfl) (by kernel_rfl) (fun _ _ _ h => h) (by rfl) (by assumption) ?_
          try simp only [Act.put, List.setIfInBounds_toArray, List.set_cons_zero, List.set_cons_succ]
          refine anyH_skip (i := 24) (some 60) rfl rfl (by kernel_rfl) (by kernel_rfl) (by kernel_rfl) (fun _ _ _ h => h) (by rfl) (by assumption) ?_
          try simp only [Act.put, List.setIfInBounds_toArray, List.set_cons_zero, List.set_cons_succ]
          refine anyH_skip (i := 25) (some 61) rfl rfl (by kernel_rfl) (by kernel_rfl) (by kernel_rfl) (fun _ _ _ h => h) (by rfl) (by assumption) ?_
          try simp only [Act.put, List.setIfInBounds_toArray, List.set_cons_zero, List.set_cons_succ]
          refine anyH_take (i := 26) (v := ?_) (some 62) rfl rfl (by kernel_rfl) (by kernel_rfl) (by kernel_rfl) (fun _ _ _ h => h) (by rfl) (by assumption) ?_ ?_
          rotate_left
          · intro w hSw; (try dsimp only at hSw); go_split_ands; go_simp; try (with_reducible rfl)
          try simp only [Act.put, List.setIfInBounds_toArray, List.set_cons_zero, List.set_cons_succ]
          refine anyH_take (i := 27) (v := ?_) (some 11) rfl rfl (by kernel_rfl) (by kernel_rfl) (by kernel_rfl) (fun _ _ _ h => h) (by rfl) (by assumption) ?_ ?_
          rotate_left
          · intro w hSw; (try dsimp only at hSw); go_split_ands; go_simp; try (with_reducible rfl)
          try simp only [Act.put, List.setIfInBounds_toArray, List.set_cons_zero, List.set_cons_succ]
          refine wpAnyH_done (by kernel_rfl) ?_ _
          have hbv := hHeld.2
          clear hHeld SH rc
          have HO6 := Lib.hid (own_keep HO5.out hbv)
          replace hb6 := hb6.trans (hbv.mono hb6.size)
          clear hbv HO5
          obtain ⟨W6, hW6⟩ : ∃ W6, W5.drew = W6 := ⟨_, rfl⟩
          try rw [hW6] at HO6 hb6 ⊢
          clear hW6
          have p0 := (X3.out.below hb6 X3.out.lt).cell (i := 0) rfl
          have p1 := (X3.out.below hb6 X3.out.lt).cell (i := 1) rfl
          have p2 := (X3.out.below hb6 X3.out.lt).cell (i := 2) rfl
          obtain ⟨_, hA9, _, hdl, hcells, hfr⟩ := own_ints HO6.out HLT3.out
          injection hA9 with hA9; injection hA9 with hA9; subst hA9
          have cL6 := hcells s.pre.length L HGL.out
          clear hcells hfr hdl
          have hb46 := hb4.trans (hb6.mono hb4.size)
          have hlt2 : s.pre.length < s.out.length := HLT2.out
          have SH2 := Lib.hid (fun W' (hb' : Below W6.heap.size W6 W') => show W'.cell? ⟨w.heap.size, 0, none⟩ = some (.slice B0 y.cls.length c0) ∧ W'.cell? ⟨w.heap.size, 1, none⟩ = some (.slice B1 y.dec.length c1) ∧ W'.cell? ⟨w.heap.size, 2, none⟩ = some (.slice B2 y.exc.length c2) ∧ W'.cell? ⟨g, s.pre.length, none⟩ = some (.int .i64 L) ∧ Below W6.heap.size W6 W' from ⟨(hb'.cell (World.block_lt_of_cell? _ _ p0)).trans p0, (hb'.cell (World.block_lt_of_cell? _ _ p1)).trans p1, (hb'.cell (World.block_lt_of_cell? _ _ p2)).trans p2, (hb'.cell (World.block_lt_of_cell? _ _ cL6)).trans cL6, hb'⟩)
          have JC := Lib.hid (fun W' (hb' : Below W6.heap.size W6 W') => (PRC.out L z W' (hb46.trans (hb'.mono hb46.size))).mono (R' := fun e W'' => e = .returned (.tuple #[.int .i64 ((pr L z).getD 0), .bool (pr L z).isSome]) ∧ (W''.cell? ⟨w.heap.size, 0, none⟩ = some (.slice B0 y.cls.length c0) ∧ W''.cell? ⟨w.heap.size, 1, none⟩ = some (.slice B1 y.dec.length c1) ∧ W''.cell? ⟨w.heap.size, 2, none⟩ = some (.slice B2 y.exc.length c2) ∧ W''.cell? ⟨g, s.pre.length, none⟩ = some (.int .i64 L) ∧ Below W6.heap.size W6 W'')) (fun e W'' hh => ⟨hh.1, SH2.out W'' (hb'.trans (hh.2.mono hb'.size))⟩))
          clear p0 p1 p2 cL6
          have HPR := Lib.hid (show Cps.join cl pr s z = pr L z from HPRx.out)
          generalize hpo : pr L z = po at *
          clear hpo
          go_wp2_with fail
          refine wp_region_held_drew (S := fun W' => W'.cell? ⟨w.heap.size, 0, none⟩ = some (.slice B0 y.cls.length c0) ∧ W'.cell? ⟨w.heap.size, 1, none⟩ = some (.slice B1 y.dec.length c1) ∧ W'.cell? ⟨w.heap.size, 2, none⟩ = some (.slice B2 y.exc.length c2) ∧ W'.cell? ⟨g, s.pre.length, none⟩ = some (.int .i64 L) ∧ Below W6.heap.size W6 W') (by kernel_rfl) (SH2.out _ ((Below.refl _ _).drew)) (fun hHeld => ?_)
          refine anyH_take (i := 0) (v := ?_) (some 64) rfl rfl (by kernel_rfl) (by kernel_rfl) (by kernel_rfl) (fun _ _ _ h => h) (by rfl) (by assumption) ?_ ?_
          rotate_left
          · intro w hSw; (try dsimp only at hSw); go_split_ands; go_simp; try (with_reducible rfl)
          try simp only [Act.put, List.setIfInBounds_toArray, List.set_cons_zero, List.set_cons_succ]
          refine anyH_take (i := 1) (v := ?_) (some 65) rfl rfl (by kernel_rfl) (by kernel_rfl) (by kernel_rfl) (fun _ _ _ h => h) (by rfl) (by assumption) ?_ ?_
          rotate_left
          · intro w hSw; (try dsimp only at hSw); go_split_ands; go_simp; try (with_reducible rfl)
          try simp only [Act.put, List.setIfInBounds_toArray, List.set_cons_zero, List.set_cons_succ]
          refine anyH_take (i := 2) (v := ?_) (some 66) rfl rfl (by kernel_rfl) (by kernel_rfl) (by kernel_rfl) (fun _ _ _ h => h) (by rfl) (by assumption) ?_ ?_
          rotate_left
          · intro w hSw; (try dsimp only at hSw); go_split_ands; go_simp; try (with_reducible rfl)
          try simp only [Act.put, List.setIfInBounds_toArray, List.set_cons_zero, List.set_cons_succ]
          refine anyH_take (i := 3) (v := ?_) (some 67) rfl rfl (by kernel_rfl) (by kernel_rfl) (by kernel_rfl) (fun _ _ _ h => h) (by rfl) (by assumption) ?_ ?_
          rotate_left
          · intro w hSw; (try dsimp only at hSw); go_split_ands; go_simp; try (with_reducible rfl)
          try simp only [Act.put, List.setIfInBounds_toArray, List.set_cons_zero, List.set_cons_succ]
          refine anyH_take (i := 4) (v := ?_) (some 68) rfl rfl (by kernel_rfl) (by kernel_rfl) (by kernel_rfl) (fun _ _ _ h => h) (by rfl) (by assumption) ?_ ?_
          rotate_left
          · intro w hSw; (try dsimp only at hSw); go_split_ands; go_simp; try (with_reducible rfl)
          try simp only [Act.put, List.setIfInBounds_toArray, List.set_cons_zero, List.set_cons_succ]
          refine anyH_take (i := 5) (v := ?_) (some 69) rfl rfl (by kernel_rfl) (by kernel_rfl) (by kernel_rfl) (fun _ _ _ h => h) (by rfl) (by assumption) ?_ ?_
          rotate_left
          · intro w hSw; (try dsimp only at hSw); go_split_ands; go_simp; try (with_reducible rfl)
          try simp only [Act.put, List.setIfInBounds_toArray, List.set_cons_zero, List.set_cons_succ]
          refine anyH_call (i := 6) (some 70) rfl rfl (by kernel_rfl) (by rfl) (by go_simp) (JC.out _ hHeld.2.2.2.2) (fun W7 hS6 => ?_)
          clear hHeld
          have hHeld := hS6
          clear hS6
          try simp only [Act.put, List.setIfInBounds_toArray, List.set_cons_zero, List.set_cons_succ]
          refine anyH_take (i := 7) (v := ?_) (some 63) rfl rfl (by kernel_rfl) (by kernel_rfl) (by kernel_rfl) (fun _ _ _ h => h) (by rfl) (by assumption) ?_ ?_
          rotate_left
          · intro w hSw; (try dsimp only at hSw); go_split_ands; go_simp; try (with_reducible rfl)
          try simp only [Act.put, List.setIfInBounds_toArray, List.set_cons_zero, List.set_cons_succ]
          refine anyH_take (i := 8) (v := ?_) (some 71) rfl rfl (by kernel_rfl) (by kernel_rfl) (by kernel_rfl) (fun _ _ _ h => h) (by rfl) (by assumption) ?_ ?_
          rotate_left
          · intro w hSw; (try dsimp only at hSw); go_split_ands; go_simp; try (with_reducible rfl)
          try simp only [Act.put, List.setIfInBounds_toArray, List.set_cons_zero, List.set_cons_succ]
          refine anyH_take (i := 9) (v := ?_) (some 72) rfl rfl (by kernel_rfl) (by kernel_rfl) (by kernel_rfl) (fun _ _ _ h => h) (by rfl) (by assumption) ?_ ?_
          rotate_left
          · intro w hSw; (try dsimp only at hSw); go_split_ands; go_simp; try (with_reducible rfl)
          try simp only [Act.put, List.setIfInBounds_toArray, List.set_cons_zero, List.set_cons_succ]
          refine anyH_take (i := 10) (v := ?_) (some 12) rfl rfl (by kernel_rfl) (by kernel_rfl) (by kernel_rfl) (fun _ _ _ h => h) (by rfl) (by assumption) ?_ ?_
          rotate_left
          · intro w hSw; (try dsimp only at hSw); go_split_ands; go_simp; try (with_reducible rfl)
          try simp only [Act.put, List.setIfInBounds_toArray, List.set_cons_zero, List.set_cons_succ]
          refine anyH_take (i := 11) (v := ?_) (some 13) rfl rfl (by kernel_rfl) (by kernel_rfl) (by kernel_rfl) (fun _ _ _ h => h) (by rfl) (by assumption) ?_ ?_
          rotate_left
          · intro w hSw; (try dsimp only at hSw); go_split_ands; go_simp; try (with_reducible rfl)
          try simp only [Act.put, List.setIfInBounds_toArray, List.set_cons_zero, List.set_cons_succ]
          refine wpAnyH_done (by kernel_rfl) ?_ _
          have hbv := hHeld.2.2.2.2
          have hb8 := hb6.trans (hbv.mono hb6.size)
          clear hHeld SH2 JC
          have HO8 := Lib.hid (own_keep HO6.out hbv)
          clear hbv
          cases po with
          | none =>
            have HJN := Lib.hid (show Cps.join cl pr s z = none from HPR.out)
            clear HPR
            have HSTEP := Lib.hid (show Cps.run cl pr Cps.s0 (t.take (i + 1)) = Cps.put cl s z from by rw [HT1.out]; exact Cps.step_none HJN.out)
            have HPO := Lib.hid (Cps.put_out (cl := cl) s z)
            by_cases hz0 : cz = 0
            · have HPV := Lib.hid (show lastV (Cps.put cl s z) = s.out.length from by unfold Cps.put; rw [if_pos (by rw [HCZ.out]; exact hz0)]; rfl)
              have HPB := Lib.hid (show ∀ b ∈ (Cps.put cl s z).bt, cl b ≠ 0 from by unfold Cps.put; rw [if_pos (by rw [HCZ.out]; exact hz0)]; intro b hb; cases hb)
              subst hz0
              clear HJN
              go_wp2_with (at_builtin; refine wpList_app _ _ 38 3 (.int .i64 0) 1 8 rfl rfl Tryz.underlying38 info_int rfl (by decide) (by decide) rfl (HO8.out.alloc _) rfl (Sl_new W7 [.int .i64 z] 3 rfl) (by simp) (oneCell_ints [z]) (by omega) (by have := hb8.size; simp; omega) ?_; intro B1' c1' w1 hown1 hc1' hb1 hg1 hB1)
              have hbn := hb8.trans (((Below.refl _ _).alloc (Nat.le_refl _) _).mono hb8.size |>.trans hb1)
              go_roundw
              case rel =>
                refine ⟨i + 1, Cps.put cl s z, B1', c1', by omega, by go_num, HSTEP.out, ?_, by rw [HPV.out], HPB.out, ?_, hbn⟩
                · rw [HPO.out, List.length_append]; rfl
                · rw [HPO.out, List.length_append, List.map_append]; exact hown1
              case measure => simp [intOf]; omega
            · have HPV := Lib.hid (show lastV (Cps.put cl s z) = lastV s from by unfold Cps.put; rw [if_neg (by rw [HCZ.out]; exact hz0)]; rfl)
              have HPB := Lib.hid (show ∀ b ∈ (Cps.put cl s z).bt, cl b ≠ 0 from by
                unfold Cps.put; rw [if_neg (by rw [HCZ.out]; exact hz0)]; intro b hb
                rcases List.mem_append.1 hb with hb | hb
                · exact HBT.out b hb
                · simp at hb; subst hb; rw [HCZ.out]; exact hz0)
              have hz1 : (cz == 0) = false := by simpa using hz0
              clear HJN
              go_wp2_with (at_builtin; refine wpList_app _ _ 38 3 (.int .i64 0) 1 8 rfl rfl Tryz.underlying38 info_int rfl (by decide) (by decide) rfl (HO8.out.alloc _) rfl (Sl_new W7 [.int .i64 z] 3 rfl) (by simp) (oneCell_ints [z]) (by omega) (by have := hb8.size; simp; omega) ?_; intro B1' c1' w1 hown1 hc1' hb1 hg1 hB1)
              have hbn := hb8.trans (((Below.refl _ _).alloc (Nat.le_refl _) _).mono hb8.size |>.trans hb1)
              go_roundw
              case rel =>
                refine ⟨i + 1, Cps.put cl s z, B1', c1', by omega, by go_num, HSTEP.out, ?_, by rw [HPV.out]; exact HLV.out, HPB.out, ?_, hbn⟩
                · rw [HPO.out, List.length_append]; rfl
                · rw [HPO.out, List.length_append, List.map_append]; exact hown1
              case measure => simp [intOf]; omega
          | some p =>
            have HSTEP := Lib.hid (show Cps.run cl pr Cps.s0 (t.take (i + 1)) = ⟨s.pre, some p, s.bt⟩ from by rw [HT1.out]; exact Cps.step_some HPR.out)
            have HST := Lib.hid (HO8.out.stored s.pre.length (.int .i64 p))
            obtain ⟨_, hA9, _, hdl, hcells, hfr⟩ := own_ints HO8.out HLT3.out
            injection hA9 with hA9; injection hA9 with hA9; subst hA9
            have cL8 := hcells s.pre.length L HGL.out
            have fL8 := hfr s.pre.length
            clear hcells hfr hdl
            have HEO := Lib.hid (show (s.out.map (Value.int .i64)).set s.pre.length (.int .i64 p) = (Cps.CSt.out ⟨s.pre, some p, s.bt⟩).map (Value.int .i64) from by
              rw [← List.map_set]
              unfold Cps.CSt.out
              rw [hst'.out]
              simp)
            have HEL := Lib.hid (show (Cps.CSt.out ⟨s.pre, some p, s.bt⟩).length = s.out.length from by
              unfold Cps.CSt.out
              rw [hst'.out]
              simp)
            have hlv' := Lib.hid (show (s.pre.length : Int) = lastV ⟨s.pre, some p, s.bt⟩ from rfl)
            clear HPR
            go_wp2_with fail
            go_roundw
            case rel =>
              refine ⟨i + 1, ⟨s.pre, some p, s.bt⟩, some ⟨g, 0, none⟩, c, by omega, by go_num, HSTEP.out, by rw [HEL.out], by rw [← hlv'.out], HBT.out, ?_, below_grown hb8 HST.out.2 hgb hb8.size⟩
              rw [HEL.out, ← HEO.out]
              exact HST.out.1
            case measure => simp [intOf]; omega
        · obtain ⟨r, bl, hrb⟩ : ∃ r b, s.bt = r ++ [b] := ⟨s.bt.dropLast, s.bt.getLast hbe, (List.dropLast_concat_getLast hbe).symm⟩
          have hml : s.bt.length = r.length + 1 := by rw [hrb]; simp
          have hgB : s.out[s.pre.length + 1 + r.length]? = some bl := by
            unfold Cps.CSt.out
            rw [hst, hrb, List.getElem?_append_right (by omega), show s.pre.length + 1 + r.length - s.pre.length = r.length + 1 from by omega]
            simp
          have cB := hcells _ bl hgB
          have hkb := HBT.out bl (by rw [hrb]; simp)
          have rc : ∀ W, (Instr.sliceAt 38 (.slice (some ⟨g, 0, none⟩) s.out.length c) (some (.int .i64 ((s.pre.length : Int) + 1))) none none).run Tryz.prog W = .ok (.slice (some ⟨g, s.pre.length + 1, none⟩) (r.length + 1) (c - (s.pre.length + 1))) W := fun W => by
            have h := run_cutFrom (some ⟨g, 0, none⟩) s.out.length c (s.pre.length + 1) (by omega) W
            rw [show s.out.length - (s.pre.length + 1) = r.length + 1 from by omega] at h
            have e : subA (some ⟨g, 0, none⟩) c (s.pre.length + 1) = some ⟨g, s.pre.length + 1, none⟩ := by
              unfold subA
              rw [if_neg (by omega)]
              simp [Addr.add]
            rw [e] at h
            exact h
          have SH := Lib.hid (fun W' (hb' : Below W5.heap.size W5 W') => show W'.cell? ⟨w.heap.size, 0, none⟩ = some (.slice B0 y.cls.length c0) ∧ W'.cell? ⟨g, s.pre.length + 1 + r.length, none⟩ = some (.int .i64 bl) ∧ Below W5.heap.size W5 W' from ⟨(hb'.cell (World.block_lt_of_cell? _ _ p0)).trans p0, (hb'.cell (World.block_lt_of_cell? _ _ cB)).trans cB, hb'⟩)
          have SC := Lib.hid (fun W' (hb' : Below W5.heap.size W5 W') => (STC.out bl W' (hb45.trans (hb'.mono hb45.size))).mono (R' := fun e W' => e = .returned (.bool false) ∧ (W'.cell? ⟨w.heap.size, 0, none⟩ = some (.slice B0 y.cls.length c0) ∧ W'.cell? ⟨g, s.pre.length + 1 + r.length, none⟩ = some (.int .i64 bl) ∧ Below W5.heap.size W5 W')) (fun e W'' hh => ⟨by rw [hh.1]; simp [hkb], SH.out W'' (hb'.trans (hh.2.mono hb'.size))⟩))
          have KC := Lib.hid (fun W' (hb' : Below W5.heap.size W5 W') => (CLC.out bl W' (hb45.trans (hb'.mono hb45.size))).mono (R' := fun e W' => e = .returned (.int .i64 (cl bl)) ∧ (W'.cell? ⟨w.heap.size, 0, none⟩ = some (.slice B0 y.cls.length c0) ∧ W'.cell? ⟨g, s.pre.length + 1 + r.length, none⟩ = some (.int .i64 bl) ∧ Below W5.heap.size W5 W')) (fun e W'' hh => ⟨hh.1, SH.out W'' (hb'.trans (hh.2.mono hb'.size))⟩))
          have HFR := Lib.hid (fun (h : cl bl < cz) => show Cps.join cl pr s z = pr L z from by unfold Cps.join Cps.free; rw [hst, hrb]; simp [HCZ.out, h])
          have HNF := Lib.hid (fun (h : ¬ cl bl < cz) => show Cps.join cl pr s z = none from by unfold Cps.join Cps.free; rw [hst, hrb]; simp [HCZ.out]; try omega)
          generalize cl bl = kb at *
          have dpos : decide ((0 : Int) < (r.length : Int) + 1) = true := by simp only [decide_eq_true_eq]; omega
          have hrl : r.length + 1 < s.out.length := by omega
          have hlr : (r.length : Int) < (r.length : Int) + 1 := by omega
          have hwr : IntKind.i64.wrap (r.length : Int) = (r.length : Int) := by simp [IntKind.wrap, IntKind.bits, IntKind.signed]; omega
          clear hol hgL hcells hst p0 hbe hrb hml hgB cB hkb
          have hlt2 : s.pre.length < s.out.length := HLT2.out
          go_wp2_with fail
          refine wp_region_held_drew (S := fun W' => W'.cell? ⟨w.heap.size, 0, none⟩ = some (.slice B0 y.cls.length c0) ∧ W'.cell? ⟨g, s.pre.length + 1 + r.length, none⟩ = some (.int .i64 bl) ∧ Below W5.heap.size W5 W') (by kernel_rfl) (SH.out _ ((Below.refl _ _).drew)) (fun hHeld => ?_)
          refine anyH_take (i := 0) (v := ?_) (some 36) rfl rfl (by kernel_rfl) (by kernel_rfl) (by kernel_rfl) (fun _ _ _ h => h) (by rfl) (by assumption) ?_ ?_
          rotate_left
          · intro w hSw; (try dsimp only at hSw); go_split_ands; go_simp; try (with_reducible rfl)
          try simp only [Act.put, List.setIfInBounds_toArray, List.set_cons_zero, List.set_cons_succ]
          refine anyH_take (i := 1) (v := ?_) (some 37) rfl rfl (by kernel_rfl) (by kernel_rfl) (by kernel_rfl) (fun _ _ _ h => h) (by rfl) (by assumption) ?_ ?_
          rotate_left
          · intro w hSw; (try dsimp only at hSw); go_split_ands; go_simp; try (with_reducible rfl)
          try simp only [Act.put, List.setIfInBounds_toArray, List.set_cons_zero, List.set_cons_succ]
          refine anyH_take (i := 2) (v := ?_) (some 38) rfl rfl (by kernel_rfl) (by kernel_rfl) (by kernel_rfl) (fun _ _ _ h => h) (by rfl) (by assumption) ?_ ?_
          rotate_left
          · intro w hSw; (try dsimp only at hSw); go_split_ands; go_simp; try (with_reducible rfl)
          try simp only [Act.put, List.setIfInBounds_toArray, List.set_cons_zero, List.set_cons_succ]
          refine anyH_take (i := 3) (v := ?_) (some 39) rfl rfl (by kernel_rfl) (by kernel_rfl) (by kernel_rfl) (fun _ _ _ h => h) (by rfl) (by assumption) ?_ ?_
          rotate_left
          · intro w hSw; (try dsimp only at hSw); go_split_ands; go_simp; try (with_reducible rfl)
          try simp only [Act.put, List.setIfInBounds_toArray, List.set_cons_zero, List.set_cons_succ]
          refine anyH_take (i := 4) (v := ?_) (some 40) rfl rfl (by kernel_rfl) (by kernel_rfl) (by kernel_rfl) (fun _ _ _ h => h) (by rfl) (by assumption) ?_ ?_
          rotate_left
          · intro w hSw; (try dsimp only at hSw); go_split_ands; go_simp; try (with_reducible rfl)
          try simp only [Act.put, List.setIfInBounds_toArray, List.set_cons_zero, List.set_cons_succ]
          refine anyH_take (i := 5) (v := ?_) (some 41) rfl rfl (by kernel_rfl) (by kernel_rfl) (by kernel_rfl) (fun _ _ _ h => h) (by rfl) (by assumption) ?_ ?_
          rotate_left
          · intro w hSw; (try dsimp only at hSw); go_split_ands; go_simp; try (with_reducible rfl)
          try simp only [Act.put, List.setIfInBounds_toArray, List.set_cons_zero, List.set_cons_succ]
          refine anyH_take (i := 6) (v := ?_) (some 42) rfl rfl (by kernel_rfl) (by kernel_rfl) (by kernel_rfl) (fun _ _ _ h => h) (by rfl) (by assumption) ?_ ?_
          rotate_left
          · intro w hSw; (try dsimp only at hSw); go_split_ands; go_simp; try (with_reducible rfl)
          try simp only [Act.put, List.setIfInBounds_toArray, List.set_cons_zero, List.set_cons_succ]
          refine anyH_take (i := 7) (v := ?_) (some 43) rfl rfl (by kernel_rfl) (by kernel_rfl) (by kernel_rfl) (fun _ _ _ h => h) (by rfl) (by assumption) ?_ ?_
          rotate_left
          · intro w hSw; (try dsimp only at hSw); go_split_ands; go_simp; try (with_reducible rfl)
          try simp only [Act.put, List.setIfInBounds_toArray, List.set_cons_zero, List.set_cons_succ]
          refine anyH_take (i := 8) (v := ?_) (some 44) rfl rfl (by kernel_rfl) (by kernel_rfl) (by kernel_rfl) (fun _ _ _ h => h) (by rfl) (by assumption) ?_ ?_
          rotate_left
          · intro w hSw; (try dsimp only at hSw); go_split_ands; go_simp; try (with_reducible rfl)
          try simp only [Act.put, List.setIfInBounds_toArray, List.set_cons_zero, List.set_cons_succ]
          refine anyH_take (i := 9) (v := ?_) (some 45) rfl rfl (by kernel_rfl) (by kernel_rfl) (by kernel_rfl) (fun _ _ _ h => h) (by rfl) (by assumption) ?_ ?_
          rotate_left
          · intro w hSw; (try dsimp only at hSw); go_split_ands; go_simp; try (with_reducible rfl)
          try simp only [Act.put, List.setIfInBounds_toArray, List.set_cons_zero, List.set_cons_succ]
          refine anyH_take (i := 10) (v := ?_) (some 46) rfl rfl (by kernel_rfl) (by kernel_rfl) (by kernel_rfl) (fun _ _ _ h => h) (by rfl) (by assumption) ?_ ?_
          rotate_left
          · intro w hSw; (try dsimp only at hSw); go_split_ands; go_simp; try (with_reducible rfl)
          try simp only [Act.put, List.setIfInBounds_toArray, List.set_cons_zero, List.set_cons_succ]
          refine anyH_take (i := 11) (v := ?_) (some 47) rfl rfl (by kernel_rfl) (by kernel_rfl) (by kernel_rfl) (fun _ _ _ h => h) (by rfl) (by assumption) ?_ ?_
          rotate_left
          · intro w hSw; (try dsimp only at hSw); go_split_ands; go_simp; try (with_reducible rfl)
          try simp only [Act.put, List.setIfInBounds_toArray, List.set_cons_zero, List.set_cons_succ]
          refine anyH_call (i := 12) (some 48) rfl rfl (by kernel_rfl) (by rfl) (by go_simp) (SC.out _ hHeld.2.2) (fun W5a hS6 => ?_)
          clear hHeld
          have hHeld := hS6
          clear hS6
          try simp only [Act.put, List.setIfInBounds_toArray, List.set_cons_zero, List.set_cons_succ]
          refine anyH_take (i := 13) (v := ?_) (some 49) rfl rfl (by kernel_rfl) (by kernel_rfl) (by kernel_rfl) (fun _ _ _ h => h) (by rfl) (by assumption) ?_ ?_
          rotate_left
          · intro w hSw; (try dsimp only at hSw); go_split_ands; go_simp; try (with_reducible rfl)
          try simp only [Act.put, List.setIfInBounds_toArray, List.set_cons_zero, List.set_cons_succ]
          refine anyH_take (i := 14) (v := ?_) (some 50) rfl rfl (by kernel_rfl) (by kernel_rfl) (by kernel_rfl) (fun _ _ _ h => h) (by rfl) (by assumption) ?_ ?_
          rotate_left
          · intro w hSw; (try dsimp only at hSw); go_split_ands; go_simp; try (with_reducible rfl)
          try simp only [Act.put, List.setIfInBounds_toArray, List.set_cons_zero, List.set_cons_succ]
          refine anyH_take (i := 15) (v := ?_) (some 51) rfl rfl (by kernel_rfl) (by kernel_rfl) (by kernel_rfl) (fun _ _ _ h => h) (by rfl) (by assumption) ?_ ?_
          rotate_left
          · intro w hSw; (try dsimp only at hSw); go_split_ands; go_simp; try (with_reducible rfl)
          try simp only [Act.put, List.setIfInBounds_toArray, List.set_cons_zero, List.set_cons_succ]
          refine anyH_take (i := 16) (v := ?_) (some 52) rfl rfl (by kernel_rfl) (by kernel_rfl) (by kernel_rfl) (fun _ _ _ h => h) (by rfl) (by assumption) ?_ ?_
          rotate_left
          · intro w hSw; (try dsimp only at hSw); go_split_ands; go_simp; try (with_reducible rfl)
          try simp only [Act.put, List.setIfInBounds_toArray, List.set_cons_zero, List.set_cons_succ]
          refine anyH_take (i := 17) (v := ?_) (some 53) rfl rfl (by kernel_rfl) (by kernel_rfl) (by kernel_rfl) (fun _ _ _ h => h) (by rfl) (by assumption) ?_ ?_
          rotate_left
          · intro w hSw; (try dsimp only at hSw); go_split_ands; go_simp; try (with_reducible rfl)
          try simp only [Act.put, List.setIfInBounds_toArray, List.set_cons_zero, List.set_cons_succ]
          refine anyH_take (i := 18) (v := ?_) (some 54) rfl rfl (by kernel_rfl) (by kernel_rfl) (by kernel_rfl) (fun _ _ _ h => h) (by rfl) (by assumption) ?_ ?_
          rotate_left
          · intro w hSw; (try dsimp only at hSw); go_split_ands; go_simp; try (with_reducible rfl)
          try simp only [Act.put, List.setIfInBounds_toArray, List.set_cons_zero, List.set_cons_succ]
          refine anyH_take (i := 19) (v := ?_) (some 55) rfl rfl (by kernel_rfl) (by kernel_rfl) (by kernel_rfl) (fun _ _ _ h => h) (by rfl) (by assumption) ?_ ?_
          rotate_left
          · intro w hSw; (try dsimp only at hSw); go_split_ands; go_simp; try (with_reducible rfl)
          try simp only [Act.put, List.setIfInBounds_toArray, List.set_cons_zero, List.set_cons_succ]
          refine anyH_take (i := 20) (v := ?_) (some 56) rfl rfl (by kernel_rfl) (by kernel_rfl) (by kernel_rfl) (fun _ _ _ h => h) (by rfl) (by assumption) ?_ ?_
          rotate_left
          · intro w hSw; (try dsimp only at hSw); go_split_ands; go_simp; try (with_reducible rfl)
          try simp only [Act.put, List.setIfInBounds_toArray, List.set_cons_zero, List.set_cons_succ]
          refine anyH_take (i := 21) (v := ?_) (some 57) rfl rfl (by kernel_rfl) (by kernel_rfl) (by kernel_rfl) (fun _ _ _ h => h) (by rfl) (by assumption) ?_ ?_
          rotate_left
          · intro w hSw; (try dsimp only at hSw); go_split_ands; go_simp; try (with_reducible rfl)
          try simp only [Act.put, List.setIfInBounds_toArray, List.set_cons_zero, List.set_cons_succ]
          refine anyH_take (i := 23) (v := ?_) (some 59) rfl rfl (by kernel_rfl) (by kernel_rfl) (by kernel_rfl) (fun _ _ _ h => h) (by rfl) (by assumption) ?_ ?_
          rotate_left
          · intro w hSw; (try dsimp only at hSw); go_split_ands; go_simp; try (with_reducible rfl)
          try simp only [Act.put, List.setIfInBounds_toArray, List.set_cons_zero, List.set_cons_succ]
          refine anyH_call (i := 22) (some 58) rfl rfl (by kernel_rfl) (by rfl) (by go_simp) (KC.out _ hHeld.2.2) (fun W6 hS6 => ?_)
          clear hHeld
          have hHeld := hS6
          clear hS6
          try simp only [Act.put, List.setIfInBounds_toArray, List.set_cons_zero, List.set_cons_succ]
          refine anyH_take (i := 24) (v := ?_) (some 60) rfl rfl (by kernel_rfl) (by kernel_rfl) (by kernel_rfl) (fun _ _ _ h => h) (by rfl) (by assumption) ?_ ?_
          rotate_left
          · intro w hSw; (try dsimp only at hSw); go_split_ands; go_simp; try (with_reducible rfl)
          try simp only [Act.put, List.setIfInBounds_toArray, List.set_cons_zero, List.set_cons_succ]
          refine anyH_take (i := 25) (v := ?_) (some 61) rfl rfl (by kernel_rfl) (by kernel_rfl) (by kernel_rfl) (fun _ _ _ h => h) (by rfl) (by assumption) ?_ ?_
          rotate_left
          · intro w hSw; (try dsimp only at hSw); go_split_ands; go_simp; try (with_reducible rfl)
          try simp only [Act.put, List.setIfInBounds_toArray, List.set_cons_zero, List.set_cons_succ]
          refine anyH_take (i := 26) (v := ?_) (some 62) rfl rfl (by kernel_rfl) (by kernel_rfl) (by kernel_rfl) (fun _ _ _ h => h) (by rfl) (by assumption) ?_ ?_
          rotate_left
          · intro w hSw; (try dsimp only at hSw); go_split_ands; go_simp; try (with_reducible rfl)
          try simp only [Act.put, List.setIfInBounds_toArray, List.set_cons_zero, List.set_cons_succ]
          refine anyH_take (i := 27) (v := ?_) (some 11) rfl rfl (by kernel_rfl) (by kernel_rfl) (by kernel_rfl) (fun _ _ _ h => h) (by rfl) (by assumption) ?_ ?_
          rotate_left
          · intro w hSw; (try dsimp only at hSw); go_split_ands; go_simp; try (with_reducible rfl)
          try simp only [Act.put, List.setIfInBounds_toArray, List.set_cons_zero, List.set_cons_succ]
          refine wpAnyH_done (by kernel_rfl) ?_ _
          have hbv := hHeld.2.2
          clear hHeld SH SC KC rc
          have HO6 := Lib.hid (own_keep HO5.out hbv)
          replace hb6 := hb6.trans (hbv.mono hb6.size)
          clear hbv HO5
          by_cases hf : kb < cz
          · have d1 : decide (cz ≤ kb) = false := by simp; omega
            have HPRx := Lib.hid (HFR.out hf)
            clear HFR HNF hf
            have p0 := (X3.out.below hb6 X3.out.lt).cell (i := 0) rfl
            have p1 := (X3.out.below hb6 X3.out.lt).cell (i := 1) rfl
            have p2 := (X3.out.below hb6 X3.out.lt).cell (i := 2) rfl
            obtain ⟨_, hA9, _, hdl, hcells, hfr⟩ := own_ints HO6.out HLT3.out
            injection hA9 with hA9; injection hA9 with hA9; subst hA9
            have cL6 := hcells s.pre.length L HGL.out
            clear hcells hfr hdl
            have hb46 := hb4.trans (hb6.mono hb4.size)
            have hlt2 : s.pre.length < s.out.length := HLT2.out
            have SH2 := Lib.hid (fun W' (hb' : Below W6.heap.size W6 W') => show W'.cell? ⟨w.heap.size, 0, none⟩ = some (.slice B0 y.cls.length c0) ∧ W'.cell? ⟨w.heap.size, 1, none⟩ = some (.slice B1 y.dec.length c1) ∧ W'.cell? ⟨w.heap.size, 2, none⟩ = some (.slice B2 y.exc.length c2) ∧ W'.cell? ⟨g, s.pre.length, none⟩ = some (.int .i64 L) ∧ Below W6.heap.size W6 W' from ⟨(hb'.cell (World.block_lt_of_cell? _ _ p0)).trans p0, (hb'.cell (World.block_lt_of_cell? _ _ p1)).trans p1, (hb'.cell (World.block_lt_of_cell? _ _ p2)).trans p2, (hb'.cell (World.block_lt_of_cell? _ _ cL6)).trans cL6, hb'⟩)
            have JC := Lib.hid (fun W' (hb' : Below W6.heap.size W6 W') => (PRC.out L z W' (hb46.trans (hb'.mono hb46.size))).mono (R' := fun e W'' => e = .returned (.tuple #[.int .i64 ((pr L z).getD 0), .bool (pr L z).isSome]) ∧ (W''.cell? ⟨w.heap.size, 0, none⟩ = some (.slice B0 y.cls.length c0) ∧ W''.cell? ⟨w.heap.size, 1, none⟩ = some (.slice B1 y.dec.length c1) ∧ W''.cell? ⟨w.heap.size, 2, none⟩ = some (.slice B2 y.exc.length c2) ∧ W''.cell? ⟨g, s.pre.length, none⟩ = some (.int .i64 L) ∧ Below W6.heap.size W6 W'')) (fun e W'' hh => ⟨hh.1, SH2.out W'' (hb'.trans (hh.2.mono hb'.size))⟩))
            clear p0 p1 p2 cL6
            have HPR := Lib.hid (show Cps.join cl pr s z = pr L z from HPRx.out)
            generalize hpo : pr L z = po at *
            clear hpo
            go_wp2_with fail
            refine wp_region_held_drew (S := fun W' => W'.cell? ⟨w.heap.size, 0, none⟩ = some (.slice B0 y.cls.length c0) ∧ W'.cell? ⟨w.heap.size, 1, none⟩ = some (.slice B1 y.dec.length c1) ∧ W'.cell? ⟨w.heap.size, 2, none⟩ = some (.slice B2 y.exc.length c2) ∧ W'.cell? ⟨g, s.pre.length, none⟩ = some (.int .i64 L) ∧ Below W6.heap.size W6 W') (by kernel_rfl) (SH2.out _ ((Below.refl _ _).drew)) (fun hHeld => ?_)
            refine anyH_take (i := 0) (v := ?_) (some 64) rfl rfl (by kernel_rfl) (by kernel_rfl) (by kernel_rfl) (fun _ _ _ h => h) (by rfl) (by assumption) ?_ ?_
            rotate_left
            · intro w hSw; (try dsimp only at hSw); go_split_ands; go_simp; try (with_reducible rfl)
            try simp only [Act.put, List.setIfInBounds_toArray, List.set_cons_zero, List.set_cons_succ]
            refine anyH_take (i := 1) (v := ?_) (some 65) rfl rfl (by kernel_rfl) (by kernel_rfl) (by kernel_rfl) (fun _ _ _ h => h) (by rfl) (by assumption) ?_ ?_
            rotate_left
            · intro w hSw; (try dsimp only at hSw); go_split_ands; go_simp; try (with_reducible rfl)
            try simp only [Act.put, List.setIfInBounds_toArray, List.set_cons_zero, List.set_cons_succ]
            refine anyH_take (i := 2) (v := ?_) (some 66) rfl rfl (by kernel_rfl) (by kernel_rfl) (by kernel_rfl) (fun _ _ _ h => h) (by rfl) (by assumption) ?_ ?_
            rotate_left
            · intro w hSw; (try dsimp only at hSw); go_split_ands; go_simp; try (with_reducible rfl)
            try simp only [Act.put, List.setIfInBounds_toArray, List.set_cons_zero, List.set_cons_succ]
            refine anyH_take (i := 3) (v := ?_) (some 67) rfl rfl (by kernel_rfl) (by kernel_rfl) (by kernel_rfl) (fun _ _ _ h => h) (by rfl) (by assumption) ?_ ?_
            rotate_left
            · intro w hSw; (try dsimp only at hSw); go_split_ands; go_simp; try (with_reducible rfl)
            try simp only [Act.put, List.setIfInBounds_toArray, List.set_cons_zero, List.set_cons_succ]
            refine anyH_take (i := 4) (v := ?_) (some 68) rfl rfl (by kernel_rfl) (by kernel_rfl) (by kernel_rfl) (fun _ _ _ h => h) (by rfl) (by assumption) ?_ ?_
            rotate_left
            · intro w hSw; (try dsimp only at hSw); go_split_ands; go_simp; try (with_reducible rfl)
            try simp only [Act.put, List.setIfInBounds_toArray, List.set_cons_zero, List.set_cons_succ]
            refine anyH_take (i := 5) (v := ?_) (some 69) rfl rfl (by kernel_rfl) (by kernel_rfl) (by kernel_rfl) (fun _ _ _ h => h) (by rfl) (by assumption) ?_ ?_
            rotate_left
            · intro w hSw; (try dsimp only at hSw); go_split_ands; go_simp; try (with_reducible rfl)
            try simp only [Act.put, List.setIfInBounds_toArray, List.set_cons_zero, List.set_cons_succ]
            refine anyH_call (i := 6) (some 70) rfl rfl (by kernel_rfl) (by rfl) (by go_simp) (JC.out _ hHeld.2.2.2.2) (fun W7 hS6 => ?_)
            clear hHeld
            have hHeld := hS6
            clear hS6
            try simp only [Act.put, List.setIfInBounds_toArray, List.set_cons_zero, List.set_cons_succ]
            refine anyH_take (i := 7) (v := ?_) (some 63) rfl rfl (by kernel_rfl) (by kernel_rfl) (by kernel_rfl) (fun _ _ _ h => h) (by rfl) (by assumption) ?_ ?_
            rotate_left
            · intro w hSw; (try dsimp only at hSw); go_split_ands; go_simp; try (with_reducible rfl)
            try simp only [Act.put, List.setIfInBounds_toArray, List.set_cons_zero, List.set_cons_succ]
            refine anyH_take (i := 8) (v := ?_) (some 71) rfl rfl (by kernel_rfl) (by kernel_rfl) (by kernel_rfl) (fun _ _ _ h => h) (by rfl) (by assumption) ?_ ?_
            rotate_left
            · intro w hSw; (try dsimp only at hSw); go_split_ands; go_simp; try (with_reducible rfl)
            try simp only [Act.put, List.setIfInBounds_toArray, List.set_cons_zero, List.set_cons_succ]
            refine anyH_take (i := 9) (v := ?_) (some 72) rfl rfl (by kernel_rfl) (by kernel_rfl) (by kernel_rfl) (fun _ _ _ h => h) (by rfl) (by assumption) ?_ ?_
            rotate_left
            · intro w hSw; (try dsimp only at hSw); go_split_ands; go_simp; try (with_reducible rfl)
            try simp only [Act.put, List.setIfInBounds_toArray, List.set_cons_zero, List.set_cons_succ]
            refine anyH_take (i := 10) (v := ?_) (some 12) rfl rfl (by kernel_rfl) (by kernel_rfl) (by kernel_rfl) (fun _ _ _ h => h) (by rfl) (by assumption) ?_ ?_
            rotate_left
            · intro w hSw; (try dsimp only at hSw); go_split_ands; go_simp; try (with_reducible rfl)
            try simp only [Act.put, List.setIfInBounds_toArray, List.set_cons_zero, List.set_cons_succ]
            refine anyH_take (i := 11) (v := ?_) (some 13) rfl rfl (by kernel_rfl) (by kernel_rfl) (by kernel_rfl) (fun _ _ _ h => h) (by rfl) (by assumption) ?_ ?_
            rotate_left
            · intro w hSw; (try dsimp only at hSw); go_split_ands; go_simp; try (with_reducible rfl)
            try simp only [Act.put, List.setIfInBounds_toArray, List.set_cons_zero, List.set_cons_succ]
            refine wpAnyH_done (by kernel_rfl) ?_ _
            have hbv := hHeld.2.2.2.2
            have hb8 := hb6.trans (hbv.mono hb6.size)
            clear hHeld SH2 JC
            have HO8 := Lib.hid (own_keep HO6.out hbv)
            clear hbv
            cases po with
            | none =>
              have HJN := Lib.hid (show Cps.join cl pr s z = none from HPR.out)
              clear HPR
              have HSTEP := Lib.hid (show Cps.run cl pr Cps.s0 (t.take (i + 1)) = Cps.put cl s z from by rw [HT1.out]; exact Cps.step_none HJN.out)
              have HPO := Lib.hid (Cps.put_out (cl := cl) s z)
              by_cases hz0 : cz = 0
              · have HPV := Lib.hid (show lastV (Cps.put cl s z) = s.out.length from by unfold Cps.put; rw [if_pos (by rw [HCZ.out]; exact hz0)]; rfl)
                have HPB := Lib.hid (show ∀ b ∈ (Cps.put cl s z).bt, cl b ≠ 0 from by unfold Cps.put; rw [if_pos (by rw [HCZ.out]; exact hz0)]; intro b hb; cases hb)
                subst hz0
                clear HJN
                go_wp2_with (at_builtin; refine wpList_app _ _ 38 3 (.int .i64 0) 1 8 rfl rfl Tryz.underlying38 info_int rfl (by decide) (by decide) rfl (HO8.out.alloc _) rfl (Sl_new W7 [.int .i64 z] 3 rfl) (by simp) (oneCell_ints [z]) (by omega) (by have := hb8.size; simp; omega) ?_; intro B1' c1' w1 hown1 hc1' hb1 hg1 hB1)
                have hbn := hb8.trans (((Below.refl _ _).alloc (Nat.le_refl _) _).mono hb8.size |>.trans hb1)
                go_roundw
                case rel =>
                  refine ⟨i + 1, Cps.put cl s z, B1', c1', by omega, by go_num, HSTEP.out, ?_, by rw [HPV.out], HPB.out, ?_, hbn⟩
                  · rw [HPO.out, List.length_append]; rfl
                  · rw [HPO.out, List.length_append, List.map_append]; exact hown1
                case measure => simp [intOf]; omega
              · have HPV := Lib.hid (show lastV (Cps.put cl s z) = lastV s from by unfold Cps.put; rw [if_neg (by rw [HCZ.out]; exact hz0)]; rfl)
                have HPB := Lib.hid (show ∀ b ∈ (Cps.put cl s z).bt, cl b ≠ 0 from by
                  unfold Cps.put; rw [if_neg (by rw [HCZ.out]; exact hz0)]; intro b hb
                  rcases List.mem_append.1 hb with hb | hb
                  · exact HBT.out b hb
                  · simp at hb; subst hb; rw [HCZ.out]; exact hz0)
                have hz1 : (cz == 0) = false := by simpa using hz0
                clear HJN
                go_wp2_with (at_builtin; refine wpList_app _ _ 38 3 (.int .i64 0) 1 8 rfl rfl Tryz.underlying38 info_int rfl (by decide) (by decide) rfl (HO8.out.alloc _) rfl (Sl_new W7 [.int .i64 z] 3 rfl) (by simp) (oneCell_ints [z]) (by omega) (by have := hb8.size; simp; omega) ?_; intro B1' c1' w1 hown1 hc1' hb1 hg1 hB1)
                have hbn := hb8.trans (((Below.refl _ _).alloc (Nat.le_refl _) _).mono hb8.size |>.trans hb1)
                go_roundw
                case rel =>
                  refine ⟨i + 1, Cps.put cl s z, B1', c1', by omega, by go_num, HSTEP.out, ?_, by rw [HPV.out]; exact HLV.out, HPB.out, ?_, hbn⟩
                  · rw [HPO.out, List.length_append]; rfl
                  · rw [HPO.out, List.length_append, List.map_append]; exact hown1
                case measure => simp [intOf]; omega
            | some p =>
              have HSTEP := Lib.hid (show Cps.run cl pr Cps.s0 (t.take (i + 1)) = ⟨s.pre, some p, s.bt⟩ from by rw [HT1.out]; exact Cps.step_some HPR.out)
              have HST := Lib.hid (HO8.out.stored s.pre.length (.int .i64 p))
              obtain ⟨_, hA9, _, hdl, hcells, hfr⟩ := own_ints HO8.out HLT3.out
              injection hA9 with hA9; injection hA9 with hA9; subst hA9
              have cL8 := hcells s.pre.length L HGL.out
              have fL8 := hfr s.pre.length
              clear hcells hfr hdl
              have HEO := Lib.hid (show (s.out.map (Value.int .i64)).set s.pre.length (.int .i64 p) = (Cps.CSt.out ⟨s.pre, some p, s.bt⟩).map (Value.int .i64) from by
                rw [← List.map_set]
                unfold Cps.CSt.out
                rw [hst'.out]
                simp)
              have HEL := Lib.hid (show (Cps.CSt.out ⟨s.pre, some p, s.bt⟩).length = s.out.length from by
                unfold Cps.CSt.out
                rw [hst'.out]
                simp)
              have hlv' := Lib.hid (show (s.pre.length : Int) = lastV ⟨s.pre, some p, s.bt⟩ from rfl)
              clear HPR
              go_wp2_with fail
              go_roundw
              case rel =>
                refine ⟨i + 1, ⟨s.pre, some p, s.bt⟩, some ⟨g, 0, none⟩, c, by omega, by go_num, HSTEP.out, by rw [HEL.out], by rw [← hlv'.out], HBT.out, ?_, below_grown hb8 HST.out.2 hgb hb8.size⟩
                rw [HEL.out, ← HEO.out]
                exact HST.out.1
              case measure => simp [intOf]; omega
          · have d1 : decide (cz ≤ kb) = true := by simp; omega
            have HPRx := Lib.hid (HNF.out (by omega))
            clear HFR HNF hf
            have p0 := (X3.out.below hb6 X3.out.lt).cell (i := 0) rfl
            have p1 := (X3.out.below hb6 X3.out.lt).cell (i := 1) rfl
            have p2 := (X3.out.below hb6 X3.out.lt).cell (i := 2) rfl
            obtain ⟨_, hA9, _, hdl, hcells, hfr⟩ := own_ints HO6.out HLT3.out
            injection hA9 with hA9; injection hA9 with hA9; subst hA9
            have cL6 := hcells s.pre.length L HGL.out
            clear hcells hfr hdl
            have hb46 := hb4.trans (hb6.mono hb4.size)
            have hlt2 : s.pre.length < s.out.length := HLT2.out
            have SH2 := Lib.hid (fun W' (hb' : Below W6.heap.size W6 W') => show W'.cell? ⟨w.heap.size, 0, none⟩ = some (.slice B0 y.cls.length c0) ∧ W'.cell? ⟨w.heap.size, 1, none⟩ = some (.slice B1 y.dec.length c1) ∧ W'.cell? ⟨w.heap.size, 2, none⟩ = some (.slice B2 y.exc.length c2) ∧ W'.cell? ⟨g, s.pre.length, none⟩ = some (.int .i64 L) ∧ Below W6.heap.size W6 W' from ⟨(hb'.cell (World.block_lt_of_cell? _ _ p0)).trans p0, (hb'.cell (World.block_lt_of_cell? _ _ p1)).trans p1, (hb'.cell (World.block_lt_of_cell? _ _ p2)).trans p2, (hb'.cell (World.block_lt_of_cell? _ _ cL6)).trans cL6, hb'⟩)
            have JC := Lib.hid (fun W' (hb' : Below W6.heap.size W6 W') => (PRC.out L z W' (hb46.trans (hb'.mono hb46.size))).mono (R' := fun e W'' => e = .returned (.tuple #[.int .i64 ((pr L z).getD 0), .bool (pr L z).isSome]) ∧ (W''.cell? ⟨w.heap.size, 0, none⟩ = some (.slice B0 y.cls.length c0) ∧ W''.cell? ⟨w.heap.size, 1, none⟩ = some (.slice B1 y.dec.length c1) ∧ W''.cell? ⟨w.heap.size, 2, none⟩ = some (.slice B2 y.exc.length c2) ∧ W''.cell? ⟨g, s.pre.length, none⟩ = some (.int .i64 L) ∧ Below W6.heap.size W6 W'')) (fun e W'' hh => ⟨hh.1, SH2.out W'' (hb'.trans (hh.2.mono hb'.size))⟩))
            clear p0 p1 p2 cL6
            have HPR := Lib.hid (show Cps.join cl pr s z = none from HPRx.out)
            generalize hpo : pr L z = po at *
            clear hpo
            go_wp2_with fail
            refine wp_region_held_drew (S := fun W' => W'.cell? ⟨w.heap.size, 0, none⟩ = some (.slice B0 y.cls.length c0) ∧ W'.cell? ⟨w.heap.size, 1, none⟩ = some (.slice B1 y.dec.length c1) ∧ W'.cell? ⟨w.heap.size, 2, none⟩ = some (.slice B2 y.exc.length c2) ∧ W'.cell? ⟨g, s.pre.length, none⟩ = some (.int .i64 L) ∧ Below W6.heap.size W6 W') (by kernel_rfl) (SH2.out _ ((Below.refl _ _).drew)) (fun hHeld => ?_)
            refine anyH_take (i := 0) (v := ?_) (some 64) rfl rfl (by kernel_rfl) (by kernel_rfl) (by kernel_rfl) (fun _ _ _ h => h) (by rfl) (by assumption) ?_ ?_
            rotate_left
            · intro w hSw; (try dsimp only at hSw); go_split_ands; go_simp; try (with_reducible rfl)
            try simp only [Act.put, List.setIfInBounds_toArray, List.set_cons_zero, List.set_cons_succ]
            refine anyH_take (i := 1) (v := ?_) (some 65) rfl rfl (by kernel_rfl) (by kernel_rfl) (by kernel_rfl) (fun _ _ _ h => h) (by rfl) (by assumption) ?_ ?_
            rotate_left
            · intro w hSw; (try dsimp only at hSw); go_split_ands; go_simp; try (with_reducible rfl)
            try simp only [Act.put, List.setIfInBounds_toArray, List.set_cons_zero, List.set_cons_succ]
            refine anyH_take (i := 2) (v := ?_) (some 66) rfl rfl (by kernel_rfl) (by kernel_rfl) (by kernel_rfl) (fun _ _ _ h => h) (by rfl) (by assumption) ?_ ?_
            rotate_left
            · intro w hSw; (try dsimp only at hSw); go_split_ands; go_simp; try (with_reducible rfl)
            try simp only [Act.put, List.setIfInBounds_toArray, List.set_cons_zero, List.set_cons_succ]
            refine anyH_take (i := 3) (v := ?_) (some 67) rfl rfl (by kernel_rfl) (by kernel_rfl) (by kernel_rfl) (fun _ _ _ h => h) (by rfl) (by assumption) ?_ ?_
            rotate_left
            · intro w hSw; (try dsimp only at hSw); go_split_ands; go_simp; try (with_reducible rfl)
            try simp only [Act.put, List.setIfInBounds_toArray, List.set_cons_zero, List.set_cons_succ]
            refine anyH_take (i := 4) (v := ?_) (some 68) rfl rfl (by kernel_rfl) (by kernel_rfl) (by kernel_rfl) (fun _ _ _ h => h) (by rfl) (by assumption) ?_ ?_
            rotate_left
            · intro w hSw; (try dsimp only at hSw); go_split_ands; go_simp; try (with_reducible rfl)
            try simp only [Act.put, List.setIfInBounds_toArray, List.set_cons_zero, List.set_cons_succ]
            refine anyH_take (i := 5) (v := ?_) (some 69) rfl rfl (by kernel_rfl) (by kernel_rfl) (by kernel_rfl) (fun _ _ _ h => h) (by rfl) (by assumption) ?_ ?_
            rotate_left
            · intro w hSw; (try dsimp only at hSw); go_split_ands; go_simp; try (with_reducible rfl)
            try simp only [Act.put, List.setIfInBounds_toArray, List.set_cons_zero, List.set_cons_succ]
            refine anyH_call (i := 6) (some 70) rfl rfl (by kernel_rfl) (by rfl) (by go_simp) (JC.out _ hHeld.2.2.2.2) (fun W7 hS6 => ?_)
            clear hHeld
            have hHeld := hS6
            clear hS6
            try simp only [Act.put, List.setIfInBounds_toArray, List.set_cons_zero, List.set_cons_succ]
            refine anyH_take (i := 7) (v := ?_) (some 63) rfl rfl (by kernel_rfl) (by kernel_rfl) (by kernel_rfl) (fun _ _ _ h => h) (by rfl) (by assumption) ?_ ?_
            rotate_left
            · intro w hSw; (try dsimp only at hSw); go_split_ands; go_simp; try (with_reducible rfl)
            try simp only [Act.put, List.setIfInBounds_toArray, List.set_cons_zero, List.set_cons_succ]
            refine anyH_take (i := 8) (v := ?_) (some 71) rfl rfl (by kernel_rfl) (by kernel_rfl) (by kernel_rfl) (fun _ _ _ h => h) (by rfl) (by assumption) ?_ ?_
            rotate_left
            · intro w hSw; (try dsimp only at hSw); go_split_ands; go_simp; try (with_reducible rfl)
            try simp only [Act.put, List.setIfInBounds_toArray, List.set_cons_zero, List.set_cons_succ]
            refine anyH_take (i := 9) (v := ?_) (some 72) rfl rfl (by kernel_rfl) (by kernel_rfl) (by kernel_rfl) (fun _ _ _ h => h) (by rfl) (by assumption) ?_ ?_
            rotate_left
            · intro w hSw; (try dsimp only at hSw); go_split_ands; go_simp; try (with_reducible rfl)
            try simp only [Act.put, List.setIfInBounds_toArray, List.set_cons_zero, List.set_cons_succ]
            refine anyH_take (i := 10) (v := ?_) (some 12) rfl rfl (by kernel_rfl) (by kernel_rfl) (by kernel_rfl) (fun _ _ _ h => h) (by rfl) (by assumption) ?_ ?_
            rotate_left
            · intro w hSw; (try dsimp only at hSw); go_split_ands; go_simp; try (with_reducible rfl)
            try simp only [Act.put, List.setIfInBounds_toArray, List.set_cons_zero, List.set_cons_succ]
            refine anyH_take (i := 11) (v := ?_) (some 13) rfl rfl (by kernel_rfl) (by kernel_rfl) (by kernel_rfl) (fun _ _ _ h => h) (by rfl) (by assumption) ?_ ?_
            rotate_left
            · intro w hSw; (try dsimp only at hSw); go_split_ands; go_simp; try (with_reducible rfl)
            try simp only [Act.put, List.setIfInBounds_toArray, List.set_cons_zero, List.set_cons_succ]
            refine wpAnyH_done (by kernel_rfl) ?_ _
            have hbv := hHeld.2.2.2.2
            have hb8 := hb6.trans (hbv.mono hb6.size)
            clear hHeld SH2 JC
            have HO8 := Lib.hid (own_keep HO6.out hbv)
            clear hbv
            have HJN := HPR
            clear HPR
            cases po with
            | none =>
              have HSTEP := Lib.hid (show Cps.run cl pr Cps.s0 (t.take (i + 1)) = Cps.put cl s z from by rw [HT1.out]; exact Cps.step_none HJN.out)
              have HPO := Lib.hid (Cps.put_out (cl := cl) s z)
              by_cases hz0 : cz = 0
              · have HPV := Lib.hid (show lastV (Cps.put cl s z) = s.out.length from by unfold Cps.put; rw [if_pos (by rw [HCZ.out]; exact hz0)]; rfl)
                have HPB := Lib.hid (show ∀ b ∈ (Cps.put cl s z).bt, cl b ≠ 0 from by unfold Cps.put; rw [if_pos (by rw [HCZ.out]; exact hz0)]; intro b hb; cases hb)
                subst hz0
                clear HJN
                go_wp2_with (at_builtin; refine wpList_app _ _ 38 3 (.int .i64 0) 1 8 rfl rfl Tryz.underlying38 info_int rfl (by decide) (by decide) rfl (HO8.out.alloc _) rfl (Sl_new W7 [.int .i64 z] 3 rfl) (by simp) (oneCell_ints [z]) (by omega) (by have := hb8.size; simp; omega) ?_; intro B1' c1' w1 hown1 hc1' hb1 hg1 hB1)
                have hbn := hb8.trans (((Below.refl _ _).alloc (Nat.le_refl _) _).mono hb8.size |>.trans hb1)
                go_roundw
                case rel =>
                  refine ⟨i + 1, Cps.put cl s z, B1', c1', by omega, by go_num, HSTEP.out, ?_, by rw [HPV.out], HPB.out, ?_, hbn⟩
                  · rw [HPO.out, List.length_append]; rfl
                  · rw [HPO.out, List.length_append, List.map_append]; exact hown1
                case measure => simp [intOf]; omega
              · have HPV := Lib.hid (show lastV (Cps.put cl s z) = lastV s from by unfold Cps.put; rw [if_neg (by rw [HCZ.out]; exact hz0)]; rfl)
                have HPB := Lib.hid (show ∀ b ∈ (Cps.put cl s z).bt, cl b ≠ 0 from by
                  unfold Cps.put; rw [if_neg (by rw [HCZ.out]; exact hz0)]; intro b hb
                  rcases List.mem_append.1 hb with hb | hb
                  · exact HBT.out b hb
                  · simp at hb; subst hb; rw [HCZ.out]; exact hz0)
                have hz1 : (cz == 0) = false := by simpa using hz0
                clear HJN
                go_wp2_with (at_builtin; refine wpList_app _ _ 38 3 (.int .i64 0) 1 8 rfl rfl Tryz.underlying38 info_int rfl (by decide) (by decide) rfl (HO8.out.alloc _) rfl (Sl_new W7 [.int .i64 z] 3 rfl) (by simp) (oneCell_ints [z]) (by omega) (by have := hb8.size; simp; omega) ?_; intro B1' c1' w1 hown1 hc1' hb1 hg1 hB1)
                have hbn := hb8.trans (((Below.refl _ _).alloc (Nat.le_refl _) _).mono hb8.size |>.trans hb1)
                go_roundw
                case rel =>
                  refine ⟨i + 1, Cps.put cl s z, B1', c1', by omega, by go_num, HSTEP.out, ?_, by rw [HPV.out]; exact HLV.out, HPB.out, ?_, hbn⟩
                  · rw [HPO.out, List.length_append]; rfl
                  · rw [HPO.out, List.length_append, List.map_append]; exact hown1
                case measure => simp [intOf]; omega
            | some p =>
              have HSTEP := Lib.hid (show Cps.run cl pr Cps.s0 (t.take (i + 1)) = Cps.put cl s z from by rw [HT1.out]; exact Cps.step_none HJN.out)
              have HPO := Lib.hid (Cps.put_out (cl := cl) s z)
              by_cases hz0 : cz = 0
              · have HPV := Lib.hid (show lastV (Cps.put cl s z) = s.out.length from by unfold Cps.put; rw [if_pos (by rw [HCZ.out]; exact hz0)]; rfl)
                have HPB := Lib.hid (show ∀ b ∈ (Cps.put cl s z).bt, cl b ≠ 0 from by unfold Cps.put; rw [if_pos (by rw [HCZ.out]; exact hz0)]; intro b hb; cases hb)
                subst hz0
                clear HJN
                go_wp2_with (at_builtin; refine wpList_app _ _ 38 3 (.int .i64 0) 1 8 rfl rfl Tryz.underlying38 info_int rfl (by decide) (by decide) rfl (HO8.out.alloc _) rfl (Sl_new W7 [.int .i64 z] 3 rfl) (by simp) (oneCell_ints [z]) (by omega) (by have := hb8.size; simp; omega) ?_; intro B1' c1' w1 hown1 hc1' hb1 hg1 hB1)
                have hbn := hb8.trans (((Below.refl _ _).alloc (Nat.le_refl _) _).mono hb8.size |>.trans hb1)
                go_roundw
                case rel =>
                  refine ⟨i + 1, Cps.put cl s z, B1', c1', by omega, by go_num, HSTEP.out, ?_, by rw [HPV.out], HPB.out, ?_, hbn⟩
                  · rw [HPO.out, List.length_append]; rfl
                  · rw [HPO.out, List.length_append, List.map_append]; exact hown1
                case measure => simp [intOf]; omega
              · have HPV := Lib.hid (show lastV (Cps.put cl s z) = lastV s from by unfold Cps.put; rw [if_neg (by rw [HCZ.out]; exact hz0)]; rfl)
                have HPB := Lib.hid (show ∀ b ∈ (Cps.put cl s z).bt, cl b ≠ 0 from by
                  unfold Cps.put; rw [if_neg (by rw [HCZ.out]; exact hz0)]; intro b hb
                  rcases List.mem_append.1 hb with hb | hb
                  · exact HBT.out b hb
                  · simp at hb; subst hb; rw [HCZ.out]; exact hz0)
                have hz1 : (cz == 0) = false := by simpa using hz0
                clear HJN
                go_wp2_with (at_builtin; refine wpList_app _ _ 38 3 (.int .i64 0) 1 8 rfl rfl Tryz.underlying38 info_int rfl (by decide) (by decide) rfl (HO8.out.alloc _) rfl (Sl_new W7 [.int .i64 z] 3 rfl) (by simp) (oneCell_ints [z]) (by omega) (by have := hb8.size; simp; omega) ?_; intro B1' c1' w1 hown1 hc1' hb1 hg1 hB1)
                have hbn := hb8.trans (((Below.refl _ _).alloc (Nat.le_refl _) _).mono hb8.size |>.trans hb1)
                go_roundw
                case rel =>
                  refine ⟨i + 1, Cps.put cl s z, B1', c1', by omega, by go_num, HSTEP.out, ?_, by rw [HPV.out]; exact HLV.out, HPB.out, ?_, hbn⟩
                  · rw [HPO.out, List.length_append]; rfl
                  · rw [HPO.out, List.length_append, List.map_append]; exact hown1
                case measure => simp [intOf]; omega
    · obtain rfl : i = t.length := by omega
      have hr := HRE.out
      rw [HS.out] at hr
      have hI := Lib.hid (Sl.of_own HOWN.out)
      generalize Cps.text cl pr t = R at *
      subst hr
      go_wp2_with fail
      go_ret
      obtain ⟨_, _, hv, hcc⟩ := own_form HOWN.out
      injection hv with _ _ hcc'
      subst hcc'
      exact ⟨_, _, rfl, hcc, hI.out, hbw⟩
end Go.Proofs.YtjglanjfgbipmaaGreatDoor
