/- Texts that are merged into one file: SlCopy. -/
import Derived.Test.YtpfbnikbebccjaaGreatDoorG15
import Derived.Test.YtpfbnikbebccjaaGreatDoorG22
import Derived.Deep.Cut
/- Contracts of sortlist's copies of settings. Written by gen_slcopy.py. -/
namespace Go.Proofs.YtpfbnikbebccjaaGreatDoor
open Go.RowKit Go.Maps Go.WideMaps

theorem spans_one (ss : List Spn) : ∀ u ∈ flat3 ss, u.oneCell' = true := by
  intro u hu
  obtain ⟨g, _, hg⟩ := List.mem_flatMap.1 hu
  simp only [List.mem_cons, List.not_mem_nil, or_false] at hg
  rcases hg with rfl | rfl | rfl <;> rfl
theorem rgs_one (rs : List Rg) : ∀ u ∈ flatK Rg.cells rs, u.oneCell' = true := by
  intro u hu
  obtain ⟨g, _, hg⟩ := List.mem_flatMap.1 hu
  simp only [Rg.cells, List.mem_cons, List.not_mem_nil, or_false] at hg
  rcases hg with rfl | rfl <;> rfl
theorem grps_one (gs : List Grp) : ∀ u ∈ flatK Grp.cells gs, u.oneCell' = true := by
  intro u hu
  obtain ⟨g, _, hg⟩ := List.mem_flatMap.1 hu
  simp only [Grp.cells, List.mem_cons, List.not_mem_nil, or_false] at hg
  rcases hg with rfl | rfl | rfl <;> rfl

set_option maxRecDepth 100000 in
set_option maxHeartbeats 12800000 in
theorem copiedNorm_any (A0 : Option Addr) (n0 k0 : Nat) (A1 : Option Addr) (n1 k1 : Nat) (A2 : Option Addr) (n2 k2 : Nat) (x : Nrm) (w : World) (hN : NrmAt w A0 n0 A1 n1 A2 n2 x) (hz : NrmSz x) :
    Calls Tryz.prog 38 #[.agg #[.slice A0 n0 k0, .slice A1 n1 k1, .slice A2 n2 k2]] w (RetNrm x w) := by
  obtain ⟨hS, hM, hR, rfl, rfl, rfl⟩ := hN
  have B0 : Below w.heap.size w ((w.alloc (.cells #[.slice A0 x.cls.length k0, .slice A1 x.dec.length k1, .slice A2 x.exc.length k2] 28)).alloc (.cells #[.slice none 0 0, .slice none 0 0, .slice none 0 0] 28)) := ((Below.refl _ _).alloc (Nat.le_refl _) _).alloc (by simp) _
  have X0 : Box ((w.alloc (.cells #[.slice A0 x.cls.length k0, .slice A1 x.dec.length k1, .slice A2 x.exc.length k2] 28)).alloc (.cells #[.slice none 0 0, .slice none 0 0, .slice none 0 0] 28)) w.heap.size 28 [.slice A0 x.cls.length k0, .slice A1 x.dec.length k1, .slice A2 x.exc.length k2] := bx_alloc (Box.new w 28 [.slice A0 x.cls.length k0, .slice A1 x.dec.length k1, .slice A2 x.exc.length k2] rfl) _
  have X1 : Box ((w.alloc (.cells #[.slice A0 x.cls.length k0, .slice A1 x.dec.length k1, .slice A2 x.exc.length k2] 28)).alloc (.cells #[.slice none 0 0, .slice none 0 0, .slice none 0 0] 28)) (w.heap.size + 1) 28 [.slice none 0 0, .slice none 0 0, .slice none 0 0] := Box.new _ _ _ (by simp)
  have W0E : ∃ W0, ((w.alloc (.cells #[.slice A0 x.cls.length k0, .slice A1 x.dec.length k1, .slice A2 x.exc.length k2] 28)).alloc (.cells #[.slice none 0 0, .slice none 0 0, .slice none 0 0] 28)) = W0 := ⟨_, rfl⟩
  obtain ⟨cs1, hc1, hl1, h11, hin⟩ := mps_raw hM
  have z0 := hz.z0
  have z1 := hz.z1.n
  have z2 := hz.z2
  have C0 := Lib.hid (fun W (hb : Below w.heap.size w W) => cloneSpan_raw A0 x.cls.length k0 (flat3 x.cls) W (Sl.below hS hb) (flat3_len x.cls) (spans_one _) (by omega))
  have C1 := Lib.hid (fun W (hb : Below w.heap.size w W) => cloneMapping_raw A1 x.dec.length k1 cs1 W (Sl.below hc1 hb) hl1 h11 (by omega))
  have C2 := Lib.hid (fun W (hb : Below w.heap.size w W) => cloneRange_raw A2 x.exc.length k2 (flatK Rg.cells x.exc) W (Sl.below hR hb) (flatK_len Rg.cells 2 (fun _ => rfl) x.exc) (rgs_one _) (by omega))
  have HIN := Lib.hid hin
  have CI := Lib.hid (fun i (hi : i < x.dec.length) C c W (hI : Ints W C x.dec[i].to) => cloneI_any C x.dec[i].to.length c x.dec[i].to W hI rfl (hz.z1.e i hi).1)
  have HFIN := Lib.hid (fun B0' B1' B2' W (h0 : Spans W B0' x.cls) (h1 : Mps W B1' x.dec) (h2 : Rgs W B2' x.exc) => (⟨h0, h1, h2, rfl, rfl, rfl⟩ : NrmAt W B0' x.cls.length B1' x.dec.length B2' x.exc.length x))
  have SZ := Lib.hid (fun i (hi : i < x.dec.length) => (hz.z1.e i hi).1)
  unfold RetOwnC at C0 C1 C2
  unfold RetOwnI at CI
  clear hS hM hR hz hc1 hl1 h11 hin z0 z2
  go_enter Tryz.func38, Tryz.ntmps38
  go_upto_region 1 with (fail)
  obtain ⟨W0, hW0⟩ := W0E
  try rw [hW0] at B0 X0 X1 ⊢
  clear hW0
  have s0 := X0.lt
  have s1 := X1.lt
  have d0 := X0.cell (i := 0) rfl
  go_wp2_with fail
  with_reducible refine (C0.out W0 B0).mono ?_
  rintro e Wa ⟨E0, e0, rfl, O0, hba⟩
  have f0 := (X0.below hba s0).free 0
  have g0 := (X0.below hba s0).cell (i := 0) rfl
  have Y0 : Box (Wa.setCell ⟨w.heap.size, 0, none⟩ (.slice E0 x.cls.length e0)) w.heap.size 28 [.slice E0 x.cls.length e0, .slice A1 x.dec.length k1, .slice A2 x.exc.length k2] := (X0.below hba s0).set 0 _
  have Y1 : Box (Wa.setCell ⟨w.heap.size, 0, none⟩ (.slice E0 x.cls.length e0)) (w.heap.size + 1) 28 [.slice none 0 0, .slice none 0 0, .slice none 0 0] := bx_ne (X1.below hba s1) _ (by simp) _
  have Bb : Below w.heap.size w (Wa.setCell ⟨w.heap.size, 0, none⟩ (.slice E0 x.cls.length e0)) := (B0.trans (hba.mono B0.size)).setCell (Nat.le_refl _) _
  have NO0 := ownsRow_setCell_below O0 (a := ⟨w.heap.size, 0, none⟩) s0 (.slice E0 x.cls.length e0)
  have hsz : W0.heap.size ≤ (Wa.setCell ⟨w.heap.size, 0, none⟩ (.slice E0 x.cls.length e0)).heap.size := by have := hba.size; simpa using this
  have hlq : Below W0.heap.size w (Wa.setCell ⟨w.heap.size, 0, none⟩ (.slice E0 x.cls.length e0)) → True := fun _ => trivial
  have WE : ∃ W, (Wa.setCell ⟨w.heap.size, 0, none⟩ (.slice E0 x.cls.length e0)) = W := ⟨_, rfl⟩
  clear O0 d0 X0 X1 hba B0 hlq
  go_upto_region 2 with (fail)
  obtain ⟨W1, hW⟩ := WE
  try rw [hW] at Bb Y0 Y1 hsz NO0 ⊢
  clear hW f0 g0 C0
  have O0 := NO0
  clear NO0
  have X0 := Y0
  have X1 := Y1
  have B0 := Bb
  have zW0 := hsz
  have tW0 := s1
  clear Y0 Y1 Bb hsz s1
  have sW0 := s0
  clear s0
  have s0 := X0.lt
  have s1 := X1.lt
  have Q0 := Lib.hid (fun q (hq : blk E0 = some q) => own_blk O0 hq)
  have d0 := X0.cell (i := 2) rfl
  go_wp2_with fail
  with_reducible refine (C2.out W1 B0).mono ?_
  rintro e Wb ⟨E2, e2, rfl, O2, hba⟩
  have f0 := (X0.below hba s0).free 2
  have g0 := (X0.below hba s0).cell (i := 2) rfl
  have Y0 : Box (Wb.setCell ⟨w.heap.size, 2, none⟩ (.slice E2 x.exc.length e2)) w.heap.size 28 [.slice E0 x.cls.length e0, .slice A1 x.dec.length k1, .slice E2 x.exc.length e2] := (X0.below hba s0).set 2 _
  have Y1 : Box (Wb.setCell ⟨w.heap.size, 2, none⟩ (.slice E2 x.exc.length e2)) (w.heap.size + 1) 28 [.slice none 0 0, .slice none 0 0, .slice none 0 0] := bx_ne (X1.below hba s1) _ (by simp) _
  have Bb : Below w.heap.size w (Wb.setCell ⟨w.heap.size, 2, none⟩ (.slice E2 x.exc.length e2)) := (B0.trans (hba.mono B0.size)).setCell (Nat.le_refl _) _
  have NO2 := ownsRow_setCell_below O2 (a := ⟨w.heap.size, 2, none⟩) s0 (.slice E2 x.exc.length e2)
  have NO0 := ownsRow_setCell_below (own_keep O0 hba) (a := ⟨w.heap.size, 2, none⟩) (by omega) (.slice E2 x.exc.length e2)
  have hsz : W1.heap.size ≤ (Wb.setCell ⟨w.heap.size, 2, none⟩ (.slice E2 x.exc.length e2)).heap.size := by have := hba.size; simpa using this
  have hlq : Below W1.heap.size w (Wb.setCell ⟨w.heap.size, 2, none⟩ (.slice E2 x.exc.length e2)) → True := fun _ => trivial
  have WE : ∃ W, (Wb.setCell ⟨w.heap.size, 2, none⟩ (.slice E2 x.exc.length e2)) = W := ⟨_, rfl⟩
  clear O2 O0 d0 X0 X1 hba B0 hlq
  go_upto_region 3 with (fail)
  obtain ⟨W2, hW⟩ := WE
  try rw [hW] at Bb Y0 Y1 hsz NO2 NO0 ⊢
  clear hW f0 g0 C2
  have O2 := NO2
  clear NO2
  have O0 := NO0
  clear NO0
  have X0 := Y0
  have X1 := Y1
  have B0 := Bb
  have zW1 := hsz
  have tW1 := s1
  clear Y0 Y1 Bb hsz s1
  have sW1 := s0
  clear s0
  have s0 := X0.lt
  have s1 := X1.lt
  have Q2 := Lib.hid (fun q (hq : blk E2 = some q) => own_blk O2 hq)
  have d0 := X0.cell (i := 1) rfl
  go_wp2_with fail
  with_reducible refine (C1.out W2 B0).mono ?_
  rintro e Wc ⟨E1, e1, rfl, O1, hba⟩
  have f0 := (X0.below hba s0).free 1
  have g0 := (X0.below hba s0).cell (i := 1) rfl
  have Y0 : Box (Wc.setCell ⟨w.heap.size, 1, none⟩ (.slice E1 x.dec.length e1)) w.heap.size 28 [.slice E0 x.cls.length e0, .slice E1 x.dec.length e1, .slice E2 x.exc.length e2] := (X0.below hba s0).set 1 _
  have Y1 : Box (Wc.setCell ⟨w.heap.size, 1, none⟩ (.slice E1 x.dec.length e1)) (w.heap.size + 1) 28 [.slice none 0 0, .slice none 0 0, .slice none 0 0] := bx_ne (X1.below hba s1) _ (by simp) _
  have Bb : Below w.heap.size w (Wc.setCell ⟨w.heap.size, 1, none⟩ (.slice E1 x.dec.length e1)) := (B0.trans (hba.mono B0.size)).setCell (Nat.le_refl _) _
  have NO1 := ownsRow_setCell_below O1 (a := ⟨w.heap.size, 1, none⟩) s0 (.slice E1 x.dec.length e1)
  have NO0 := ownsRow_setCell_below (own_keep O0 hba) (a := ⟨w.heap.size, 1, none⟩) (by omega) (.slice E1 x.dec.length e1)
  have NO2 := ownsRow_setCell_below (own_keep O2 hba) (a := ⟨w.heap.size, 1, none⟩) (by omega) (.slice E1 x.dec.length e1)
  have hsz : W2.heap.size ≤ (Wc.setCell ⟨w.heap.size, 1, none⟩ (.slice E1 x.dec.length e1)).heap.size := by have := hba.size; simpa using this
  have hlq : Below W2.heap.size w (Wc.setCell ⟨w.heap.size, 1, none⟩ (.slice E1 x.dec.length e1)) → True := fun _ => trivial
  have WE : ∃ W, (Wc.setCell ⟨w.heap.size, 1, none⟩ (.slice E1 x.dec.length e1)) = W := ⟨_, rfl⟩
  have HM := HIN.out W2.heap.size (w.heap.size + 1) E1 e1 _ Bb B0.size (by omega) NO1
  clear NO1 O1 O0 O2 d0 X0 X1 hba B0 hlq HIN
  go_upto_region 4 with (fail)
  obtain ⟨W3, hW⟩ := WE
  try rw [hW] at Bb Y0 Y1 hsz HM NO0 NO2 ⊢
  clear hW f0 g0 C1
  have O0 := NO0
  clear NO0
  have O2 := NO2
  clear NO2
  have X0 := Y0
  have X1 := Y1
  have B0 := Bb
  have zW2 := hsz
  have tW2 := s1
  clear Y0 Y1 Bb hsz s1
  have sW2 := s0
  clear s0
  have s0 := X0.lt
  have s1 := X1.lt
  have HO0 := Lib.hid O0
  have HO2 := Lib.hid O2
  have HX0 := Lib.hid X0
  have HX1 := Lib.hid X1
  have HB0 := Lib.hid B0
  have HMM := Lib.hid HM
  have HE1 := Lib.hid (fun q (hq : blk E1 = some q) => show W2.heap.size ≤ q from by
    obtain ⟨vs, _, h2, _⟩ := HM.ex
    exact (own_blk h2 hq).1)
  have hz3 : w.heap.size + 1 < W2.heap.size := by omega
  have hz2 : W2.heap.size ≤ W3.heap.size := by omega
  have q1 := X0.cell (i := 1) rfl
  clear O0 O2 X0 X1 B0 HM s0 s1
  go_wp2_with fail
  go_loopw [22] (fun u wr => ∃ i : Nat, i ≤ x.dec.length ∧ u = .int .i64 i ∧ MpsIn wr W2.heap.size (w.heap.size + 1) E1 e1 x.dec ∧ W3.grownBy wr (blk E1)) (fun u _ => x.dec.length - (intOf u).toNat)
  case atStart => exact ⟨0, Nat.zero_le _, rfl, HMM.out, grownR_refl _ _⟩
  case round =>
    obtain ⟨i, hi, rfl, hm, hg⟩ := hrel
    have hws := hg.size
    have HW := Lib.hid hg
    have n0 : some w.heap.size ≠ blk E1 := fun e => by have := HE1.out _ e.symm; omega
    have n1 : some (w.heap.size + 1) ≠ blk E1 := fun e => by have := HE1.out _ e.symm; omega
    have HXr := Lib.hid (HX0.out.grown hg n0)
    have HXs := Lib.hid (HX1.out.grown hg n1)
    clear n0 n1
    by_cases hlt : i < x.dec.length
    · obtain ⟨g, C, c, hE, hge, hgl, c0, c1, c2, f1, hC⟩ := hm.at hlt
      subst hE
      have HMi := Lib.hid hm
      have PUT := Lib.hid (fun (K : Option Addr) (k : Nat) (W : World) (h : MpsIn W W2.heap.size (w.heap.size + 1) (some ⟨g, 0, none⟩) e1 x.dec) hk hK hap => h.put (C := K) (c := k) hlt hk hK hap)
      have CIi := Lib.hid (CI.out i hlt)
      have HC := Lib.hid hC
      have HIS := Lib.hid (hm.is.at hlt)
      clear hm hg hC
      have hcap : x.dec[i].to.length ≤ 1048576 := SZ.out i hlt
      generalize x.dec[i] = m at *
      have hne : ¬ g = wr.heap.size := by omega
      have c0' : wr.cell? ⟨g, 0 + i * 3, none⟩ = some (.int .i64 m.frm) := by rw [Nat.zero_add]; exact c0
      have BA : Below wr.heap.size wr (wr.alloc (.cells #[.int .i64 m.frm, .slice C m.to.length c, .string m.tag] 116)) := (Below.refl _ _).alloc (Nat.le_refl _) _
      have XA : Box (wr.alloc (.cells #[.int .i64 m.frm, .slice C m.to.length c, .string m.tag] 116)) wr.heap.size 116 [.int .i64 m.frm, .slice C m.to.length c, .string m.tag] := Box.new wr 116 [.int .i64 m.frm, .slice C m.to.length c, .string m.tag] rfl
      have WaE : ∃ Wa, (wr.alloc (.cells #[.int .i64 m.frm, .slice C m.to.length c, .string m.tag] 116)) = Wa := ⟨_, rfl⟩
      go_upto_region 7 with (fail)
      obtain ⟨Wa, hWa⟩ := WaE
      try rw [hWa] at BA XA ⊢
      clear hWa c0 c1 c2 c0'
      have sa := XA.lt
      have XRa := HXr.out.below BA HXr.out.lt
      have sw := XRa.lt
      have hgw : g < Wa.heap.size := by omega
      have hga : g ≠ w.heap.size := by omega
      have hgb : g ≠ wr.heap.size := by omega
      have k1 := XRa.cell (i := 1) rfl
      have k2 := XA.cell (i := 1) rfl
      have SH := Lib.hid (fun W' (hg' : Wa.grownBy W' (some g)) => show W'.cell? ⟨w.heap.size, 1, none⟩ = some (.slice (some ⟨g, 0, none⟩) x.dec.length e1) ∧ W'.cell? ⟨wr.heap.size, 1, none⟩ = some (.slice C m.to.length c) ∧ Wa.grownBy W' (some g) from ⟨(World.cell?_of_block (hg'.block _ sw (fun e => hga (by injection e with e; exact e.symm)))).trans k1, (World.cell?_of_block (hg'.block _ sa (fun e => hgb (by injection e with e; exact e.symm)))).trans k2, hg'⟩)
      have FRZ := Lib.hid (MpsIn.below HMi.out BA)
      have TI := Lib.hid (fun W (hb' : Below Wa.heap.size Wa W) (hg' : Wa.grownBy W (some g)) => (CIi.out C c W ((HC.out.below BA).below hb')).mono (R' := fun e' W' => ∃ v, e' = .returned v ∧ (W'.cell? ⟨w.heap.size, 1, none⟩ = some (.slice (some ⟨g, 0, none⟩) x.dec.length e1) ∧ W'.cell? ⟨wr.heap.size, 1, none⟩ = some (.slice C m.to.length c) ∧ Wa.grownBy W' (some g)) ∧ (∃ K k, v = .slice K m.to.length k ∧ W'.ownsRow W.heap.size 3 1 (.slice K m.to.length k) m.to.length (m.to.map (Value.int .i64)) ∧ Below Wa.heap.size Wa W')) (fun e' W' ⟨K, k, he, g1, g2⟩ => ⟨_, he, SH.out W' (grownR_below hg' g2), K, k, rfl, g1, hb'.trans (g2.mono hb'.size)⟩))
      have HBA := Lib.hid BA
      clear k1 k2 BA
      go_wp2_with fail
      refine wp_region_held_drew (S := fun W' => W'.cell? ⟨w.heap.size, 1, none⟩ = some (.slice (some ⟨g, 0, none⟩) x.dec.length e1) ∧ W'.cell? ⟨wr.heap.size, 1, none⟩ = some (.slice C m.to.length c) ∧ Wa.grownBy W' (some g)) (by kernel_rfl) (SH.out _ (grownR_drew (grownR_refl Wa _))) (fun hHeld => ?_)
      refine anyH_take (i := 0) (v := ?_) (some 27) rfl rfl (by kernel_rfl) (by kernel_rfl) (by kernel_rfl) (fun _ _ _ h => h) (by rfl) (by assumption) ?_ ?_
      rotate_left
      · intro w hSw; (try dsimp only at hSw); go_split_ands; go_simp; try (with_reducible rfl)
      try simp only [Act.put, List.setIfInBounds_toArray, List.set_cons_zero, List.set_cons_succ]
      refine anyH_take (i := 1) (v := ?_) (some 28) rfl rfl (by kernel_rfl) (by kernel_rfl) (by kernel_rfl) (fun _ _ _ h => h) (by rfl) (by assumption) ?_ ?_
      rotate_left
      · intro w hSw; (try dsimp only at hSw); go_split_ands; go_simp; try (with_reducible rfl)
      try simp only [Act.put, List.setIfInBounds_toArray, List.set_cons_zero, List.set_cons_succ]
      refine anyH_take (i := 2) (v := ?_) (some 29) rfl rfl (by kernel_rfl) (by kernel_rfl) (by kernel_rfl) (fun _ _ _ h => h) (by rfl) (by assumption) ?_ ?_
      rotate_left
      · intro w hSw; (try dsimp only at hSw); go_split_ands; go_simp; try (with_reducible rfl)
      try simp only [Act.put, List.setIfInBounds_toArray, List.set_cons_zero, List.set_cons_succ]
      refine anyH_take (i := 3) (v := ?_) (some 30) rfl rfl (by kernel_rfl) (by kernel_rfl) (by kernel_rfl) (fun _ _ _ h => h) (by rfl) (by assumption) ?_ ?_
      rotate_left
      · intro w hSw; (try dsimp only at hSw); go_split_ands; go_simp; try (with_reducible rfl)
      try simp only [Act.put, List.setIfInBounds_toArray, List.set_cons_zero, List.set_cons_succ]
      refine anyH_take (i := 4) (v := ?_) (some 31) rfl rfl (by kernel_rfl) (by kernel_rfl) (by kernel_rfl) (fun _ _ _ h => h) (by rfl) (by assumption) ?_ ?_
      rotate_left
      · intro w hSw; (try dsimp only at hSw); go_split_ands; go_simp; try (with_reducible rfl)
      try simp only [Act.put, List.setIfInBounds_toArray, List.set_cons_zero, List.set_cons_succ]
      refine anyH_callE (i := 5) (some 32) rfl rfl (by kernel_rfl) (by rfl) (by go_simp) (TI.out _ (Below.refl _ _).drew (grownR_drew (grownR_refl Wa _))) ?_
      rintro _ W5 hS6 ⟨K, k, rfl, hK, hb5⟩
      clear hHeld
      have hHeld := hS6
      clear hS6
      try simp only [Act.put, List.setIfInBounds_toArray, List.set_cons_zero, List.set_cons_succ]
      refine anyH_take (i := 6) (v := ?_) (some 33) rfl rfl (by kernel_rfl) (by kernel_rfl) (by kernel_rfl) (fun _ _ _ h => h) (by rfl) (by assumption) ?_ ?_
      rotate_left
      · intro w hSw; (try dsimp only at hSw); go_split_ands; go_simp; try (with_reducible rfl)
      try simp only [Act.put, List.setIfInBounds_toArray, List.set_cons_zero, List.set_cons_succ]
      refine anyH_take (i := 7) (v := ?_) (some 34) rfl rfl (by kernel_rfl) (by kernel_rfl) (by kernel_rfl) (fun _ _ _ h => h) (by rfl) (by assumption) ?_ ?_
      rotate_left
      · intro w hSw; (try dsimp only at hSw); go_split_ands; go_simp; try (with_reducible rfl)
      try simp only [Act.put, List.setIfInBounds_toArray, List.set_cons_zero, List.set_cons_succ]
      obtain ⟨g', C', c', hE', _, _, _, e1', _, f5', _⟩ := (FRZ.out.below hb5).at hlt
      obtain rfl : g = g' := by injection hE' with hE'; injection hE'
      clear hE'
      refine anyH_unit (w' := W5.setCell ⟨g, i * 3 + 1, none⟩ (.slice K m.to.length k)) (i := 8) none rfl rfl (by kernel_rfl) (by rfl) (by go_simp) (SH.out _ (gr_set (p := ⟨g, i * 3 + 1, none⟩) (hHeld.2.2) _)) ?_
      try simp only [Act.put]
      refine wpAnyH_done (by kernel_rfl) ?_ _
      have hgr := grownR_trans (grownR_below HW.out HBA.out) hHeld.2.2
      have hput := PUT.out K k W5 (FRZ.out.below hb5) (own_le hK) (Sl.of_own hK) (fun _ q hq => by
        have h1 : Wa.heap.size ≤ q := (own_blk hK hq).1
        exact ⟨by omega, by omega⟩)
      have HGR := Lib.hid hgr
      have HPT := Lib.hid hput
      clear hHeld SH TI FRZ e1' f5' hgr hput hK hb5 PUT HMi HBA XA XRa HXr HXs
      go_wp2_with fail
      go_roundw
      case rel => exact ⟨i + 1, by omega, by go_num, HPT.out, gr_set (p := ⟨g, i * 3 + 1, none⟩) HGR.out _⟩
      case measure => simp [intOf]; omega
    · obtain rfl : i = x.dec.length := by omega
      have X0r := HXr.out
      have c0 := X0r.cell (i := 0) rfl
      have c1 := X0r.cell (i := 1) rfl
      have c2 := X0r.cell (i := 2) rfl
      have X1r := HXs.out
      have f0 := X1r.free 0
      have f1 := X1r.free 1
      have f2 := X1r.free 2
      have g0 := X1r.cell (i := 0) rfl
      have g1 := X1r.cell (i := 1) rfl
      have g2 := X1r.cell (i := 2) rfl
      have hwz : w.heap.size + 1 < W2.heap.size := hz3
      have MF : MpsIn (((wr.setCell ⟨w.heap.size + 1, 0, none⟩ (.slice E0 x.cls.length e0)).setCell ⟨w.heap.size + 1, 1, none⟩ (.slice E1 x.dec.length e1)).setCell ⟨w.heap.size + 1, 2, none⟩ (.slice E2 x.exc.length e2)) W2.heap.size (w.heap.size + 1) E1 e1 x.dec := ((hm.off hwz ⟨w.heap.size + 1, 0, none⟩ rfl _).off hwz ⟨w.heap.size + 1, 1, none⟩ rfl _).off hwz ⟨w.heap.size + 1, 2, none⟩ rfl _
      have ZF : Box (((wr.setCell ⟨w.heap.size + 1, 0, none⟩ (.slice E0 x.cls.length e0)).setCell ⟨w.heap.size + 1, 1, none⟩ (.slice E1 x.dec.length e1)).setCell ⟨w.heap.size + 1, 2, none⟩ (.slice E2 x.exc.length e2)) (w.heap.size + 1) 28 [.slice E0 x.cls.length e0, .slice E1 x.dec.length e1, .slice E2 x.exc.length e2] := ((X1r.set 0 _).set 1 _).set 2 _
      have GF : wr.grownBy (((wr.setCell ⟨w.heap.size + 1, 0, none⟩ (.slice E0 x.cls.length e0)).setCell ⟨w.heap.size + 1, 1, none⟩ (.slice E1 x.dec.length e1)).setCell ⟨w.heap.size + 1, 2, none⟩ (.slice E2 x.exc.length e2)) (some (w.heap.size + 1)) := gr_set (p := ⟨w.heap.size + 1, 2, none⟩) (gr_set (p := ⟨w.heap.size + 1, 1, none⟩) (grown_set wr ⟨w.heap.size + 1, 0, none⟩ _) _) _
      have WFE : ∃ Wf, (((wr.setCell ⟨w.heap.size + 1, 0, none⟩ (.slice E0 x.cls.length e0)).setCell ⟨w.heap.size + 1, 1, none⟩ (.slice E1 x.dec.length e1)).setCell ⟨w.heap.size + 1, 2, none⟩ (.slice E2 x.exc.length e2)) = Wf := ⟨_, rfl⟩
      have HHG := Lib.hid hg
      clear hm hg X0r X1r HXr HXs
      go_wp2_with fail
      obtain ⟨Wf, hWf⟩ := WFE
      try rw [hWf] at MF ZF GF ⊢
      clear hWf
      have z0 := ZF.cell (i := 0) rfl
      have z1' := ZF.cell (i := 1) rfl
      have z2 := ZF.cell (i := 2) rfl
      (try simp only [Exit.inBlock, Exit.then])
      refine bodyPost_ret (results_nrm rfl _ _ (b := w.heap.size + 1) (v0 := .slice E0 x.cls.length e0) (v1 := .slice E1 x.dec.length e1) (v2 := .slice E2 x.exc.length e2) rfl z0 z1' z2) rfl ?_
      have hcf : Chg (fun q => blk E1 = some q ∨ q = w.heap.size + 1) W3 Wf := (Chg.of_grown HHG.out (fun q e => .inl e)).trans (Chg.of_grown GF (fun q e => .inr (by injection e with e; exact e.symm)))
      have h0 : Spans Wf E0 x.cls := hcf.sl (Sl.of_own HO0.out) (fun _ q hq hS => by
        have b1 := Q0.out q hq
        rcases hS with g | g
        · have := HE1.out q g; omega
        · omega)
      have h2 : Rgs Wf E2 x.exc := hcf.sl (Sl.of_own HO2.out) (fun _ q hq hS => by
        have b1 := Q2.out q hq
        rcases hS with g | g
        · have := HE1.out q g; omega
        · omega)
      have bel : Below w.heap.size w Wf := HB0.out.trans (hcf.below (n := w.heap.size) (by omega) (fun k hk => by
        rcases hk with g | g
        · have := HE1.out k g; omega
        · omega))
      exact ⟨E0, e0, E1, e1, E2, e2, rfl, HFIN.out E0 E1 E2 Wf h0 MF.is h2, bel⟩

def RetCol (c : Col) (w : World) (e : Ending) (w' : World) : Prop := ∃ A a B b, e = .returned (colV A c.ents.length a B c.grps.length b c) ∧ ColAt w' A c.ents.length B c.grps.length c ∧ Below w.heap.size w w'
theorem results_col {fn : Func} (hr : fn.results = #[.cell 2 32]) (tmps : Array Value) (w : World) {b : Nat} {v0 v1 v2 v3 v4 : Value} (ha : tmps.getD 2 undef = .pointer (some ⟨b, 0, none⟩))
    (c0 : w.cell? ⟨b, 0, none⟩ = some v0) (c1 : w.cell? ⟨b, 1, none⟩ = some v1) (c2 : w.cell? ⟨b, 2, none⟩ = some v2) (c3 : w.cell? ⟨b, 3, none⟩ = some v3) (c4 : w.cell? ⟨b, 4, none⟩ = some v4) :
    (results fn tmps).run Tryz.prog w = .ok (.agg #[v0, v1, v2, v3, v4]) w := by
  unfold results
  rw [hr]
  simp only [ha, List.mapM_toArray, List.mapM_cons, List.mapM_nil, asAddr]
  go_simp
set_option maxRecDepth 100000 in
set_option maxHeartbeats 12800000 in
theorem copiedCol_any (A : Option Addr) (n a : Nat) (B : Option Addr) (m b : Nat) (c : Col) (w : World) (hC : ColAt w A n B m c) (hz : ColSz c) :
    Calls Tryz.prog 39 #[colV A n a B m b c] w (RetCol c w) := by
  obtain ⟨hE, hG, rfl, rfl, hs⟩ := hC
  unfold colV RetCol
  unfold colV
  have B0 : Below w.heap.size w ((w.alloc (.cells #[.slice A c.ents.length a, .slice B c.grps.length b, .int .i64 c.base, .int .i64 c.second, .int .i64 c.third] 32)).alloc (.cells #[.slice none 0 0, .slice none 0 0, .int .i64 0, .int .i64 0, .int .i64 0] 32)) := ((Below.refl _ _).alloc (Nat.le_refl _) _).alloc (by simp) _
  have X0 : Box ((w.alloc (.cells #[.slice A c.ents.length a, .slice B c.grps.length b, .int .i64 c.base, .int .i64 c.second, .int .i64 c.third] 32)).alloc (.cells #[.slice none 0 0, .slice none 0 0, .int .i64 0, .int .i64 0, .int .i64 0] 32)) w.heap.size 32 [.slice A c.ents.length a, .slice B c.grps.length b, .int .i64 c.base, .int .i64 c.second, .int .i64 c.third] := bx_alloc (Box.new w 32 [.slice A c.ents.length a, .slice B c.grps.length b, .int .i64 c.base, .int .i64 c.second, .int .i64 c.third] rfl) _
  have X1 : Box ((w.alloc (.cells #[.slice A c.ents.length a, .slice B c.grps.length b, .int .i64 c.base, .int .i64 c.second, .int .i64 c.third] 32)).alloc (.cells #[.slice none 0 0, .slice none 0 0, .int .i64 0, .int .i64 0, .int .i64 0] 32)) (w.heap.size + 1) 32 [.slice none 0 0, .slice none 0 0, .int .i64 0, .int .i64 0, .int .i64 0] := Box.new _ _ _ (by simp)
  have W0E : ∃ W0, ((w.alloc (.cells #[.slice A c.ents.length a, .slice B c.grps.length b, .int .i64 c.base, .int .i64 c.second, .int .i64 c.third] 32)).alloc (.cells #[.slice none 0 0, .slice none 0 0, .int .i64 0, .int .i64 0, .int .i64 0] 32)) = W0 := ⟨_, rfl⟩
  obtain ⟨cs1, hc1, hl1, h11, hin⟩ := ents_raw hE
  have z0 := hz.n
  have z1 := hz.m
  have C0 := Lib.hid (fun W (hb : Below w.heap.size w W) => cloneGroup_raw B c.grps.length b (flatK Grp.cells c.grps) W (Sl.below hG hb) (flatK_len Grp.cells 3 (fun _ => rfl) c.grps) (grps_one _) (by omega))
  have C1 := Lib.hid (fun W (hb : Below w.heap.size w W) => cloneEntry_raw A c.ents.length a cs1 W (Sl.below hc1 hb) hl1 h11 (by omega))
  have HIN := Lib.hid hin
  have CI := Lib.hid (fun i (hi : i < c.ents.length) C k W (hI : Ints W C c.ents[i].codes) => cloneI_any C c.ents[i].codes.length k c.ents[i].codes W hI rfl (hz.e i hi).1)
  have CE := Lib.hid (fun i (hi : i < c.ents.length) C k W (hI : Elts W C c.ents[i].elems) => cloneE_any C c.ents[i].elems.length k c.ents[i].elems W hI rfl (hz.e i hi).2)
  have HFIN := Lib.hid (fun A' B' W (h0 : Ents W A' c.ents) (h1 : Grps W B' c.grps) => (⟨h0, h1, rfl, rfl, hs⟩ : ColAt W A' c.ents.length B' c.grps.length c))
  have SZ := Lib.hid (fun i (hi : i < c.ents.length) => hz.e i hi)
  unfold RetOwnC at C0 C1
  unfold RetOwnI at CI
  unfold RetOwnE at CE
  clear hE hG hs hz hc1 hl1 h11 hin
  go_enter Tryz.func39, Tryz.ntmps39
  go_upto_region 1 with (fail)
  obtain ⟨W0, hW0⟩ := W0E
  try rw [hW0] at B0 X0 X1 ⊢
  clear hW0
  have s0 := X0.lt
  have s1 := X1.lt
  have d0 := X0.cell (i := 1) rfl
  go_wp2_with fail
  with_reducible refine (C0.out W0 B0).mono ?_
  rintro e Wa ⟨E1, e1, rfl, O1, hba⟩
  have f0 := (X0.below hba s0).free 1
  have g0 := (X0.below hba s0).cell (i := 1) rfl
  have Y0 : Box (Wa.setCell ⟨w.heap.size, 1, none⟩ (.slice E1 c.grps.length e1)) w.heap.size 32 [.slice A c.ents.length a, .slice E1 c.grps.length e1, .int .i64 c.base, .int .i64 c.second, .int .i64 c.third] := (X0.below hba s0).set 1 _
  have Y1 : Box (Wa.setCell ⟨w.heap.size, 1, none⟩ (.slice E1 c.grps.length e1)) (w.heap.size + 1) 32 [.slice none 0 0, .slice none 0 0, .int .i64 0, .int .i64 0, .int .i64 0] := bx_ne (X1.below hba s1) _ (by simp) _
  have Bb : Below w.heap.size w (Wa.setCell ⟨w.heap.size, 1, none⟩ (.slice E1 c.grps.length e1)) := (B0.trans (hba.mono B0.size)).setCell (Nat.le_refl _) _
  have NO1 := ownsRow_setCell_below O1 (a := ⟨w.heap.size, 1, none⟩) s0 (.slice E1 c.grps.length e1)
  have hsz : W0.heap.size ≤ (Wa.setCell ⟨w.heap.size, 1, none⟩ (.slice E1 c.grps.length e1)).heap.size := by have := hba.size; simpa using this
  have hlq : Below W0.heap.size w (Wa.setCell ⟨w.heap.size, 1, none⟩ (.slice E1 c.grps.length e1)) → True := fun _ => trivial
  have WE : ∃ W, (Wa.setCell ⟨w.heap.size, 1, none⟩ (.slice E1 c.grps.length e1)) = W := ⟨_, rfl⟩
  clear O1 d0 X0 X1 hba B0 hlq
  go_upto_region 2 with (fail)
  obtain ⟨W1, hW⟩ := WE
  try rw [hW] at Bb Y0 Y1 hsz NO1 ⊢
  clear hW f0 g0 C0
  have O1 := NO1
  clear NO1
  have X0 := Y0
  have X1 := Y1
  have B0 := Bb
  have zW0 := hsz
  have tW0 := s1
  clear Y0 Y1 Bb hsz s1
  have sW0 := s0
  clear s0
  have s0 := X0.lt
  have s1 := X1.lt
  have Q1 := Lib.hid (fun q (hq : blk E1 = some q) => own_blk O1 hq)
  have d0 := X0.cell (i := 0) rfl
  go_wp2_with fail
  with_reducible refine (C1.out W1 B0).mono ?_
  rintro e Wb ⟨E0, e0, rfl, O0, hba⟩
  have f0 := (X0.below hba s0).free 0
  have g0 := (X0.below hba s0).cell (i := 0) rfl
  have Y0 : Box (Wb.setCell ⟨w.heap.size, 0, none⟩ (.slice E0 c.ents.length e0)) w.heap.size 32 [.slice E0 c.ents.length e0, .slice E1 c.grps.length e1, .int .i64 c.base, .int .i64 c.second, .int .i64 c.third] := (X0.below hba s0).set 0 _
  have Y1 : Box (Wb.setCell ⟨w.heap.size, 0, none⟩ (.slice E0 c.ents.length e0)) (w.heap.size + 1) 32 [.slice none 0 0, .slice none 0 0, .int .i64 0, .int .i64 0, .int .i64 0] := bx_ne (X1.below hba s1) _ (by simp) _
  have Bb : Below w.heap.size w (Wb.setCell ⟨w.heap.size, 0, none⟩ (.slice E0 c.ents.length e0)) := (B0.trans (hba.mono B0.size)).setCell (Nat.le_refl _) _
  have NO0 := ownsRow_setCell_below O0 (a := ⟨w.heap.size, 0, none⟩) s0 (.slice E0 c.ents.length e0)
  have NO1 := ownsRow_setCell_below (own_keep O1 hba) (a := ⟨w.heap.size, 0, none⟩) (by omega) (.slice E0 c.ents.length e0)
  have hsz : W1.heap.size ≤ (Wb.setCell ⟨w.heap.size, 0, none⟩ (.slice E0 c.ents.length e0)).heap.size := by have := hba.size; simpa using this
  have hlq : Below W1.heap.size w (Wb.setCell ⟨w.heap.size, 0, none⟩ (.slice E0 c.ents.length e0)) → True := fun _ => trivial
  have WE : ∃ W, (Wb.setCell ⟨w.heap.size, 0, none⟩ (.slice E0 c.ents.length e0)) = W := ⟨_, rfl⟩
  have HM := HIN.out W1.heap.size (w.heap.size + 1) E0 e0 _ Bb B0.size (by omega) NO0
  clear NO0 O0 O1 d0 X0 X1 hba B0 hlq HIN
  go_upto_region 3 with (fail)
  obtain ⟨W2, hW⟩ := WE
  try rw [hW] at Bb Y0 Y1 hsz HM NO1 ⊢
  clear hW f0 g0 C1
  have O1 := NO1
  clear NO1
  have X0 := Y0
  have X1 := Y1
  have B0 := Bb
  have zW1 := hsz
  have tW1 := s1
  clear Y0 Y1 Bb hsz s1
  have sW1 := s0
  clear s0
  have s0 := X0.lt
  have s1 := X1.lt
  have HO1 := Lib.hid O1
  have HX0 := Lib.hid X0
  have HX1 := Lib.hid X1
  have HB0 := Lib.hid B0
  have HMM := Lib.hid HM
  have HE1 := Lib.hid (fun q (hq : blk E0 = some q) => show W1.heap.size ≤ q from by
    obtain ⟨vs, _, h2, _⟩ := HM.ex
    exact (own_blk h2 hq).1)
  have hz3 : w.heap.size + 1 < W1.heap.size := by omega
  have hz2 : W1.heap.size ≤ W2.heap.size := by omega
  have q1 := X0.cell (i := 0) rfl
  clear O1 X0 X1 B0 HM s0 s1
  go_wp2_with fail
  go_loopw [16] (fun u wr => ∃ i : Nat, i ≤ c.ents.length ∧ u = .int .i64 i ∧ EntsIn wr W1.heap.size (w.heap.size + 1) E0 e0 c.ents ∧ W2.grownBy wr (blk E0)) (fun u _ => c.ents.length - (intOf u).toNat)
  case atStart => exact ⟨0, Nat.zero_le _, rfl, HMM.out, grownR_refl _ _⟩
  case round =>
    obtain ⟨i, hi, rfl, hm, hg⟩ := hrel
    have hws := hg.size
    have HW := Lib.hid hg
    have n0 : some w.heap.size ≠ blk E0 := fun e => by have := HE1.out _ e.symm; omega
    have n1 : some (w.heap.size + 1) ≠ blk E0 := fun e => by have := HE1.out _ e.symm; omega
    have HXr := Lib.hid (HX0.out.grown hg n0)
    have HXs := Lib.hid (HX1.out.grown hg n1)
    clear n0 n1
    by_cases hlt : i < c.ents.length
    · obtain ⟨g, C, cc, E, ec, hEq, hge, hgl, c0, c1, f0, f1, hC, hEl⟩ := hm.at hlt
      subst hEq
      have HMi := Lib.hid hm
      have PUT := Lib.hid (fun (K : Option Addr) (k : Nat) (D : Option Addr) (d : Nat) (W : World) (h : EntsIn W W1.heap.size (w.heap.size + 1) (some ⟨g, 0, none⟩) e0 c.ents) hK hap hD hape => h.put (C := K) (c := k) (E := D) (d := d) hlt hK hap hD hape)
      have CIi := Lib.hid (CI.out i hlt)
      have CEi := Lib.hid (CE.out i hlt)
      have HC := Lib.hid hC
      have HEl := Lib.hid hEl
      clear hm hg hC hEl
      have hcap := SZ.out i hlt
      generalize c.ents[i] = en at *
      obtain ⟨cd, el⟩ := en
      dsimp only at *
      have hne : ¬ g = wr.heap.size := by omega
      have c0' : wr.cell? ⟨g, 0 + i * 2, none⟩ = some (.slice C cd.length cc) := by rw [Nat.zero_add]; exact c0
      have BA : Below wr.heap.size wr (wr.alloc (.cells #[.slice C cd.length cc, .slice E el.length ec] 109)) := (Below.refl _ _).alloc (Nat.le_refl _) _
      have XA : Box (wr.alloc (.cells #[.slice C cd.length cc, .slice E el.length ec] 109)) wr.heap.size 109 [.slice C cd.length cc, .slice E el.length ec] := Box.new wr 109 [.slice C cd.length cc, .slice E el.length ec] rfl
      have WaE : ∃ Wa, (wr.alloc (.cells #[.slice C cd.length cc, .slice E el.length ec] 109)) = Wa := ⟨_, rfl⟩
      go_upto_region 6 with (fail)
      obtain ⟨Wa, hWa⟩ := WaE
      try rw [hWa] at BA XA ⊢
      clear hWa c0 c1 c0'
      have sa := XA.lt
      have XRa := HXr.out.below BA HXr.out.lt
      have sw := XRa.lt
      have hgw : g < Wa.heap.size := by omega
      have hga : g ≠ w.heap.size := by omega
      have hgb : g ≠ wr.heap.size := by omega
      have k1 := XRa.cell (i := 0) rfl
      have k2 := XA.cell (i := 0) rfl
      have k3 := XA.cell (i := 1) rfl
      have SH := Lib.hid (fun W' (hg' : Wa.grownBy W' (some g)) => show W'.cell? ⟨w.heap.size, 0, none⟩ = some (.slice (some ⟨g, 0, none⟩) c.ents.length e0) ∧ W'.cell? ⟨wr.heap.size, 0, none⟩ = some (.slice C cd.length cc) ∧ W'.cell? ⟨wr.heap.size, 1, none⟩ = some (.slice E el.length ec) ∧ Wa.grownBy W' (some g) from ⟨(World.cell?_of_block (hg'.block _ sw (fun e => hga (by injection e with e; exact e.symm)))).trans k1, (World.cell?_of_block (hg'.block _ sa (fun e => hgb (by injection e with e; exact e.symm)))).trans k2, (World.cell?_of_block (hg'.block _ sa (fun e => hgb (by injection e with e; exact e.symm)))).trans k3, hg'⟩)
      have FRZ := Lib.hid (EntsIn.below HMi.out BA)
      have TI := Lib.hid (fun W (hb' : Below Wa.heap.size Wa W) (hg' : Wa.grownBy W (some g)) => (CIi.out C cc W ((HC.out.below BA).below hb')).mono (R' := fun e' W' => ∃ v, e' = .returned v ∧ (W'.cell? ⟨w.heap.size, 0, none⟩ = some (.slice (some ⟨g, 0, none⟩) c.ents.length e0) ∧ W'.cell? ⟨wr.heap.size, 0, none⟩ = some (.slice C cd.length cc) ∧ W'.cell? ⟨wr.heap.size, 1, none⟩ = some (.slice E el.length ec) ∧ Wa.grownBy W' (some g)) ∧ (∃ K k, v = .slice K cd.length k ∧ W'.ownsRow Wa.heap.size 3 1 (.slice K cd.length k) cd.length (cd.map (Value.int .i64)) ∧ Below Wa.heap.size Wa W')) (fun e' W' ⟨K, k, he, g1, g2⟩ => ⟨_, he, SH.out W' (grownR_below hg' g2), K, k, rfl, own_mono g1 hb'.size, hb'.trans (g2.mono hb'.size)⟩))
      have TE := Lib.hid (fun W (hb' : Below Wa.heap.size Wa W) (hg' : Wa.grownBy W (some g)) => (CEi.out E ec W ((HEl.out.below BA).below hb')).mono (R' := fun e' W' => ∃ v, e' = .returned v ∧ (W'.cell? ⟨w.heap.size, 0, none⟩ = some (.slice (some ⟨g, 0, none⟩) c.ents.length e0) ∧ W'.cell? ⟨wr.heap.size, 0, none⟩ = some (.slice C cd.length cc) ∧ W'.cell? ⟨wr.heap.size, 1, none⟩ = some (.slice E el.length ec) ∧ Wa.grownBy W' (some g)) ∧ (∃ K k, v = .slice K el.length k ∧ W'.ownsRow Wa.heap.size 106 4 (.slice K el.length k) el.length (flatK Elt.cells el) ∧ Below Wa.heap.size Wa W' ∧ Below W.heap.size W W')) (fun e' W' ⟨K, k, he, g1, g2⟩ => ⟨_, he, SH.out W' (grownR_below hg' g2), K, k, rfl, own_mono g1 hb'.size, hb'.trans (g2.mono hb'.size), g2⟩))
      have HBA := Lib.hid BA
      clear k1 k2 k3 BA
      go_wp2_with fail
      refine wp_region_held_drew (S := fun W' => W'.cell? ⟨w.heap.size, 0, none⟩ = some (.slice (some ⟨g, 0, none⟩) c.ents.length e0) ∧ W'.cell? ⟨wr.heap.size, 0, none⟩ = some (.slice C cd.length cc) ∧ W'.cell? ⟨wr.heap.size, 1, none⟩ = some (.slice E el.length ec) ∧ Wa.grownBy W' (some g)) (by kernel_rfl) (SH.out _ (grownR_drew (grownR_refl Wa _))) (fun hHeld => ?_)
      refine anyH_take (i := 0) (v := ?_) (some 21) rfl rfl (by kernel_rfl) (by kernel_rfl) (by kernel_rfl) (fun _ _ _ h => h) (by rfl) (by assumption) ?_ ?_
      rotate_left
      · intro w hSw; (try dsimp only at hSw); go_split_ands; go_simp; try (with_reducible rfl)
      try simp only [Act.put, List.setIfInBounds_toArray, List.set_cons_zero, List.set_cons_succ]
      refine anyH_take (i := 1) (v := ?_) (some 22) rfl rfl (by kernel_rfl) (by kernel_rfl) (by kernel_rfl) (fun _ _ _ h => h) (by rfl) (by assumption) ?_ ?_
      rotate_left
      · intro w hSw; (try dsimp only at hSw); go_split_ands; go_simp; try (with_reducible rfl)
      try simp only [Act.put, List.setIfInBounds_toArray, List.set_cons_zero, List.set_cons_succ]
      refine anyH_take (i := 2) (v := ?_) (some 23) rfl rfl (by kernel_rfl) (by kernel_rfl) (by kernel_rfl) (fun _ _ _ h => h) (by rfl) (by assumption) ?_ ?_
      rotate_left
      · intro w hSw; (try dsimp only at hSw); go_split_ands; go_simp; try (with_reducible rfl)
      try simp only [Act.put, List.setIfInBounds_toArray, List.set_cons_zero, List.set_cons_succ]
      refine anyH_take (i := 3) (v := ?_) (some 24) rfl rfl (by kernel_rfl) (by kernel_rfl) (by kernel_rfl) (fun _ _ _ h => h) (by rfl) (by assumption) ?_ ?_
      rotate_left
      · intro w hSw; (try dsimp only at hSw); go_split_ands; go_simp; try (with_reducible rfl)
      try simp only [Act.put, List.setIfInBounds_toArray, List.set_cons_zero, List.set_cons_succ]
      refine anyH_take (i := 4) (v := ?_) (some 25) rfl rfl (by kernel_rfl) (by kernel_rfl) (by kernel_rfl) (fun _ _ _ h => h) (by rfl) (by assumption) ?_ ?_
      rotate_left
      · intro w hSw; (try dsimp only at hSw); go_split_ands; go_simp; try (with_reducible rfl)
      try simp only [Act.put, List.setIfInBounds_toArray, List.set_cons_zero, List.set_cons_succ]
      refine anyH_take (i := 6) (v := ?_) (some 27) rfl rfl (by kernel_rfl) (by kernel_rfl) (by kernel_rfl) (fun _ _ _ h => h) (by rfl) (by assumption) ?_ ?_
      rotate_left
      · intro w hSw; (try dsimp only at hSw); go_split_ands; go_simp; try (with_reducible rfl)
      try simp only [Act.put, List.setIfInBounds_toArray, List.set_cons_zero, List.set_cons_succ]
      refine anyH_take (i := 7) (v := ?_) (some 28) rfl rfl (by kernel_rfl) (by kernel_rfl) (by kernel_rfl) (fun _ _ _ h => h) (by rfl) (by assumption) ?_ ?_
      rotate_left
      · intro w hSw; (try dsimp only at hSw); go_split_ands; go_simp; try (with_reducible rfl)
      try simp only [Act.put, List.setIfInBounds_toArray, List.set_cons_zero, List.set_cons_succ]
      refine anyH_callE (i := 5) (some 26) rfl rfl (by kernel_rfl) (by rfl) (by go_simp) (TI.out _ (Below.refl _ _).drew (grownR_drew (grownR_refl Wa _))) ?_
      rintro _ W5 hS6 ⟨K, k, rfl, hK, hb5⟩
      clear hHeld
      have hHeld := hS6
      clear hS6
      try simp only [Act.put, List.setIfInBounds_toArray, List.set_cons_zero, List.set_cons_succ]
      refine anyH_callE (i := 8) (some 29) rfl rfl (by kernel_rfl) (by rfl) (by go_simp) (TE.out _ hb5 hHeld.2.2.2) ?_
      rintro _ W6 hS6 ⟨D, dd, rfl, hD, hb6, hb56⟩
      clear hHeld
      have hHeld := hS6
      clear hS6
      try simp only [Act.put, List.setIfInBounds_toArray, List.set_cons_zero, List.set_cons_succ]
      refine anyH_take (i := 9) (v := ?_) (some 30) rfl rfl (by kernel_rfl) (by kernel_rfl) (by kernel_rfl) (fun _ _ _ h => h) (by rfl) (by assumption) ?_ ?_
      rotate_left
      · intro w hSw; (try dsimp only at hSw); go_split_ands; go_simp; try (with_reducible rfl)
      try simp only [Act.put, List.setIfInBounds_toArray, List.set_cons_zero, List.set_cons_succ]
      refine anyH_take (i := 10) (v := ?_) (some 31) rfl rfl (by kernel_rfl) (by kernel_rfl) (by kernel_rfl) (fun _ _ _ h => h) (by rfl) (by assumption) ?_ ?_
      rotate_left
      · intro w hSw; (try dsimp only at hSw); go_split_ands; go_simp; try (with_reducible rfl)
      try simp only [Act.put, List.setIfInBounds_toArray, List.set_cons_zero, List.set_cons_succ]
      obtain ⟨g', _, _, _, _, hE', _, _, e0', e1', f0', f1', _⟩ := (FRZ.out.below hb6).at hlt
      obtain rfl : g = g' := by injection hE' with hE'; injection hE'
      clear hE'
      have g1' : (W6.setCell ⟨g, i * 2, none⟩ (.slice K cd.length k)).frozen? ⟨g, i * 2 + 1, none⟩ = false := by simpa using f1'
      refine anyH_unit (w' := (W6.setCell ⟨g, i * 2, none⟩ (.slice K cd.length k)).setCell ⟨g, i * 2 + 1, none⟩ (.slice D el.length dd)) (i := 11) none rfl rfl (by kernel_rfl) (by rfl) (by go_simp) (SH.out _ (gr_set (p := ⟨g, i * 2 + 1, none⟩) (gr_set (p := ⟨g, i * 2, none⟩) (hHeld.2.2.2) _) _)) ?_
      try simp only [Act.put]
      refine wpAnyH_done (by kernel_rfl) ?_ _
      have hgr := grownR_trans (grownR_below HW.out HBA.out) hHeld.2.2.2
      have hput := PUT.out K k D dd W6 (FRZ.out.below hb6) (Ints.below (Sl.of_own hK) hb56) (fun _ q hq => by
        have h1 := (own_blk hK hq).1
        exact ⟨by omega, by omega⟩) (Sl.of_own hD) (fun _ q hq => by
        have h1 := (own_blk hD hq).1
        exact ⟨by omega, by omega⟩)
      have HGR := Lib.hid hgr
      have HPT := Lib.hid hput
      clear hHeld SH TI TE FRZ e0' e1' f0' f1' g1' hgr hput hK hD hb5 hb6 hb56 PUT HMi HBA XA XRa HXr HXs
      go_wp2_with fail
      go_roundw
      case rel => exact ⟨i + 1, by omega, by go_num, HPT.out, gr_set (p := ⟨g, i * 2 + 1, none⟩) (gr_set (p := ⟨g, i * 2, none⟩) HGR.out _) _⟩
      case measure => simp [intOf]; omega
    · obtain rfl : i = c.ents.length := by omega
      have X0r := HXr.out
      have c0 := X0r.cell (i := 0) rfl
      have c1 := X0r.cell (i := 1) rfl
      have c2 := X0r.cell (i := 2) rfl
      have c3 := X0r.cell (i := 3) rfl
      have c4 := X0r.cell (i := 4) rfl
      have X1r := HXs.out
      have f0 := X1r.free 0
      have f1 := X1r.free 1
      have f2 := X1r.free 2
      have f3 := X1r.free 3
      have f4 := X1r.free 4
      have g0 := X1r.cell (i := 0) rfl
      have g1 := X1r.cell (i := 1) rfl
      have g2 := X1r.cell (i := 2) rfl
      have g3 := X1r.cell (i := 3) rfl
      have g4 := X1r.cell (i := 4) rfl
      have hwz : w.heap.size + 1 < W1.heap.size := hz3
      have MF : EntsIn (((((wr.setCell ⟨w.heap.size + 1, 0, none⟩ (.slice E0 c.ents.length e0)).setCell ⟨w.heap.size + 1, 1, none⟩ (.slice E1 c.grps.length e1)).setCell ⟨w.heap.size + 1, 2, none⟩ (.int .i64 c.base)).setCell ⟨w.heap.size + 1, 3, none⟩ (.int .i64 c.second)).setCell ⟨w.heap.size + 1, 4, none⟩ (.int .i64 c.third)) W1.heap.size (w.heap.size + 1) E0 e0 c.ents := ((((hm.off hwz ⟨w.heap.size + 1, 0, none⟩ rfl _).off hwz ⟨w.heap.size + 1, 1, none⟩ rfl _).off hwz ⟨w.heap.size + 1, 2, none⟩ rfl _).off hwz ⟨w.heap.size + 1, 3, none⟩ rfl _).off hwz ⟨w.heap.size + 1, 4, none⟩ rfl _
      have ZF : Box (((((wr.setCell ⟨w.heap.size + 1, 0, none⟩ (.slice E0 c.ents.length e0)).setCell ⟨w.heap.size + 1, 1, none⟩ (.slice E1 c.grps.length e1)).setCell ⟨w.heap.size + 1, 2, none⟩ (.int .i64 c.base)).setCell ⟨w.heap.size + 1, 3, none⟩ (.int .i64 c.second)).setCell ⟨w.heap.size + 1, 4, none⟩ (.int .i64 c.third)) (w.heap.size + 1) 32 [.slice E0 c.ents.length e0, .slice E1 c.grps.length e1, .int .i64 c.base, .int .i64 c.second, .int .i64 c.third] := ((((X1r.set 0 _).set 1 _).set 2 _).set 3 _).set 4 _
      have GF : wr.grownBy (((((wr.setCell ⟨w.heap.size + 1, 0, none⟩ (.slice E0 c.ents.length e0)).setCell ⟨w.heap.size + 1, 1, none⟩ (.slice E1 c.grps.length e1)).setCell ⟨w.heap.size + 1, 2, none⟩ (.int .i64 c.base)).setCell ⟨w.heap.size + 1, 3, none⟩ (.int .i64 c.second)).setCell ⟨w.heap.size + 1, 4, none⟩ (.int .i64 c.third)) (some (w.heap.size + 1)) := gr_set (p := ⟨w.heap.size + 1, 4, none⟩) (gr_set (p := ⟨w.heap.size + 1, 3, none⟩) (gr_set (p := ⟨w.heap.size + 1, 2, none⟩) (gr_set (p := ⟨w.heap.size + 1, 1, none⟩) (grown_set wr ⟨w.heap.size + 1, 0, none⟩ _) _) _) _) _
      have WFE : ∃ Wf, (((((wr.setCell ⟨w.heap.size + 1, 0, none⟩ (.slice E0 c.ents.length e0)).setCell ⟨w.heap.size + 1, 1, none⟩ (.slice E1 c.grps.length e1)).setCell ⟨w.heap.size + 1, 2, none⟩ (.int .i64 c.base)).setCell ⟨w.heap.size + 1, 3, none⟩ (.int .i64 c.second)).setCell ⟨w.heap.size + 1, 4, none⟩ (.int .i64 c.third)) = Wf := ⟨_, rfl⟩
      have HHG := Lib.hid hg
      clear hm hg X0r X1r HXr HXs
      go_wp2_with fail
      obtain ⟨Wf, hWf⟩ := WFE
      try rw [hWf] at MF ZF GF ⊢
      clear hWf
      have z0 := ZF.cell (i := 0) rfl
      have z1' := ZF.cell (i := 1) rfl
      have z2 := ZF.cell (i := 2) rfl
      have z3 := ZF.cell (i := 3) rfl
      have z4 := ZF.cell (i := 4) rfl
      (try simp only [Exit.inBlock, Exit.then])
      refine bodyPost_ret (results_col rfl _ _ (b := w.heap.size + 1) rfl z0 z1' z2 z3 z4) rfl ?_
      have hcf : Chg (fun q => blk E0 = some q ∨ q = w.heap.size + 1) W2 Wf := (Chg.of_grown HHG.out (fun q e => .inl e)).trans (Chg.of_grown GF (fun q e => .inr (by injection e with e; exact e.symm)))
      have h1 : Grps Wf E1 c.grps := hcf.sl (Sl.of_own HO1.out) (fun _ q hq hS => by
        have b1 := Q1.out q hq
        rcases hS with g | g
        · have := HE1.out q g; omega
        · omega)
      have bel : Below w.heap.size w Wf := HB0.out.trans (hcf.below (n := w.heap.size) (by omega) (fun k hk => by
        rcases hk with g | g
        · have := HE1.out k g; omega
        · omega))
      exact ⟨E0, e0, E1, e1, rfl, HFIN.out E0 E1 Wf MF.is h1, bel⟩
end Go.Proofs.YtpfbnikbebccjaaGreatDoor

