/- The contracts of the reference's Lower, Upper, Within and titled. Written by gen_caserb.py. -/
import Derived.Test.YtpamkbbmbeeheaaCaseRa
import Derived.Test.YtpamkbbmbeeheaaCaseTi
namespace Go.Proofs.Ytpamkbbmbeeheaa
open Go.RowKit Go.Maps Go.WideMaps

/-- an owned row of ints, as a value -/
def RowI (base : Nat) (w : World) (v : Value) (l : List Int) : Prop := ∃ A c, v = .slice A l.length c ∧ w.ownsRow base 3 1 (.slice A l.length c) l.length (l.map (Value.int .i64))
theorem RowI.nil (base : Nat) (w : World) : RowI base w (.slice none 0 0) [] := ⟨none, 0, rfl, World.ownsRow_nil _ _ _ _⟩
theorem RowI.below {base : Nat} {w w' : World} {v : Value} {l : List Int} (h : RowI base w v l) (hb : Below w.heap.size w w') : RowI base w' v l := by
  obtain ⟨A, c, h1, h2⟩ := h
  exact ⟨A, c, h1, own_keep h2 hb⟩
theorem RowI.is {base : Nat} {w w' : World} {v : Value} {l : List Int} (h : RowI base w' v l) (hb : Below w.heap.size w w') : RetIs l w (.returned v) w' := by
  obtain ⟨A, c, rfl, h2⟩ := h
  obtain ⟨_, _, hv, hc⟩ := own_form h2
  injection hv with _ _ hv
  subst hv
  exact ⟨A, c, rfl, hc, Sl.of_own h2, hb⟩

set_option maxRecDepth 100000 in
set_option maxHeartbeats 12800000 in
theorem refLowerL_any (v0 v1 v2 v3 v4 v5 : Value) (C : Cse) (A : Option Addr) (n a : Nat) (t : List Int) (w : World) (h : CaseAt w v0 v1 v2 v3 v4 v5 C) (hz : CaseSz C) (hA : Ints w A t) (hn : t.length = n) (hb : n ≤ 1048576) :
    Calls Try.prog 21 #[.agg #[v0, v1, v2, v3, v4, v5], .slice A n a] w (RetIs (lowL (caseD C) t) w) := by
  subst hn
  obtain ⟨A0, n0, c0, rfl⟩ := h.lower.sl
  obtain ⟨A1, n1, c1, rfl⟩ := h.upper.sl
  obtain ⟨A2, n2, c2, rfl⟩ := h.title.sl
  obtain ⟨A3, n3, c3, rfl⟩ := h.fold.sl
  obtain ⟨A4, n4, c4, rfl⟩ := h.cased.sl
  obtain ⟨A5, n5, c5, rfl⟩ := h.ign.sl
  have B0 : Below w.heap.size w (w.alloc (.cells #[.slice A0 n0 c0, .slice A1 n1 c1, .slice A2 n2 c2, .slice A3 n3 c3, .slice A4 n4 c4, .slice A5 n5 c5] 27)) := (Below.refl _ _).alloc (Nat.le_refl _) _
  have X0 : Box (w.alloc (.cells #[.slice A0 n0 c0, .slice A1 n1 c1, .slice A2 n2 c2, .slice A3 n3 c3, .slice A4 n4 c4, .slice A5 n5 c5] 27)) w.heap.size 27 [.slice A0 n0 c0, .slice A1 n1 c1, .slice A2 n2 c2, .slice A3 n3 c3, .slice A4 n4 c4, .slice A5 n5 c5] := Box.new w 27 [.slice A0 n0 c0, .slice A1 n1 c1, .slice A2 n2 c2, .slice A3 n3 c3, .slice A4 n4 c4, .slice A5 n5 c5] rfl
  have W0E : ∃ W0, (w.alloc (.cells #[.slice A0 n0 c0, .slice A1 n1 c1, .slice A2 n2 c2, .slice A3 n3 c3, .slice A4 n4 c4, .slice A5 n5 c5] 27)) = W0 := ⟨_, rfl⟩
  have CA := Lib.hid (fun W (hb : Below w.heap.size w W) => h.below hb)
  have VD := Lib.hid (fun W (hb : Below w.heap.size w W) => refData_any _ _ _ _ _ _ C W (h.below hb) hz)
  have LC := Lib.hid (fun W k u0 u1 u2 u3 u4 u5 (hb' : Below w.heap.size w W) (hc : CaseAt W u0 u1 u2 u3 u4 u5 (caseD C)) (hk : k < t.length) => refLower_any u0 u1 u2 u3 u4 u5 (caseD C) A t.length a t k W hc hz.d (caseD_isok C) (hA.below hb') rfl hb hk)
  have SN := Lib.hid (fun i => joinI_snoc (lowAt (caseD C) t) (lo := 0) (i := i) (Nat.zero_le _))
  have J0 := Lib.hid (joinI_nil (lowAt (caseD C) t) (lo := 0) (hi := 0) (Nat.le_refl _))
  have LJ := Lib.hid (fun i => joinI_len (f := lowAt (caseD C) t) (lo := 0) (hi := i) (k := 64) (fun j _ _ => lowAt_len (caseD_isok C) t j))
  have LF := Lib.hid (fun i => lowAt_len (caseD_isok C) t i)
  have LE := Lib.hid (show lowL (caseD C) t = joinI (lowAt (caseD C) t) 0 t.length from rfl)
  generalize lowL (caseD C) t = R at *
  generalize joinI (lowAt (caseD C) t) 0 = J at *
  clear h hz hA
  have e0 := X0.cell (i := 0) rfl
  have e1 := X0.cell (i := 1) rfl
  have e2 := X0.cell (i := 2) rfl
  have e3 := X0.cell (i := 3) rfl
  have e4 := X0.cell (i := 4) rfl
  have e5 := X0.cell (i := 5) rfl
  go_enter Try.func21, Try.ntmps21
  go_wp2_with fail
  clear e0 e1 e2 e3 e4 e5
  obtain ⟨W0, hW0⟩ := W0E
  rw [hW0] at B0 X0 ⊢
  clear hW0
  with_reducible refine (VD.out W0 B0).mono ?_
  rintro e W1 ⟨u0, u1, u2, u3, u4, u5, rfl, hT, hb1⟩
  have hb2 := B0.trans (hb1.mono B0.size)
  have hC1 := hT W1 (CA.out W1 hb2)
  obtain ⟨B0, m0, d0, rfl⟩ := hC1.lower.sl
  obtain ⟨B1, m1, d1, rfl⟩ := hC1.upper.sl
  obtain ⟨B2, m2, d2, rfl⟩ := hC1.title.sl
  obtain ⟨B3, m3, d3, rfl⟩ := hC1.fold.sl
  obtain ⟨B4, m4, d4, rfl⟩ := hC1.cased.sl
  obtain ⟨B5, m5, d5, rfl⟩ := hC1.ign.sl
  have Bd : Below W1.heap.size W1 (W1.alloc (.cells #[.slice B0 m0 d0, .slice B1 m1 d1, .slice B2 m2 d2, .slice B3 m3 d3, .slice B4 m4 d4, .slice B5 m5 d5] 27)) := (Below.refl _ _).alloc (Nat.le_refl _) _
  have hb3 := hb2.trans (Bd.mono hb2.size)
  have XD := Lib.hid (Box.new W1 27 [.slice B0 m0 d0, .slice B1 m1 d1, .slice B2 m2 d2, .slice B3 m3 d3, .slice B4 m4 d4, .slice B5 m5 d5] rfl)
  have DD := Lib.hid (hT _ (CA.out _ hb3))
  have W2E : ∃ W2, W1.alloc (.cells #[.slice B0 m0 d0, .slice B1 m1 d1, .slice B2 m2 d2, .slice B3 m3 d3, .slice B4 m4 d4, .slice B5 m5 d5] 27) = W2 := ⟨_, rfl⟩
  clear VD hC1 hT
  go_wp2_with fail
  obtain ⟨W2, hW2⟩ := W2E
  rw [hW2] at XD DD hb3 Bd ⊢
  clear hW2
  generalize W1.heap.size = bd at *
  go_loopw [6, 7] (fun v u wr => ∃ i : Nat, i ≤ t.length ∧ u = .int .i64 i ∧ RowI W2.heap.size wr v (J i) ∧ Below W2.heap.size W2 wr) (fun _ u _ => t.length - (intOf u).toNat)
  case atStart => exact ⟨0, Nat.zero_le _, rfl, by rw [J0.out]; exact RowI.nil _ _, Below.refl _ _⟩
  case round =>
    obtain ⟨i, hi, rfl, hrow, hbr⟩ := hrel
    have hbw := hb3.trans (hbr.mono hb3.size)
    obtain ⟨AA, cc, rfl, hown⟩ := hrow
    have HO := Lib.hid hown
    clear hown
    by_cases hlt : i < t.length
    · have XD2 := XD.out.below hbr XD.out.lt
      have f0 := XD2.cell (i := 0) rfl
      have f1 := XD2.cell (i := 1) rfl
      have f2 := XD2.cell (i := 2) rfl
      have f3 := XD2.cell (i := 3) rfl
      have f4 := XD2.cell (i := 4) rfl
      have f5 := XD2.cell (i := 5) rfl
      have hl2 := XD2.lt
      have KL := Lib.hid (LC.out wr i _ _ _ _ _ _ hbw (DD.out.below hbr) hlt)
      have SNi := Lib.hid (SN.out i)
      have l1 := LJ.out i
      have l2 := LF.out i
      have l3 : 64 * (i - 0) ≤ 64 * 1048576 := Nat.mul_le_mul_left _ (by omega)
      generalize J i = Ji at *
      generalize lowAt (caseD C) t i = Fi at *
      clear XD2
      go_wp2_with fail
      with_reducible refine KL.out.mono ?_
      rintro e W3 ⟨E, d, rfl, hd, hE, hb4⟩
      have HO1 := own_keep HO.out hb4
      have hb5 := hbr.trans (hb4.mono hbr.size)
      have hs1 : W2.heap.size ≤ W3.heap.size := hb5.size
      clear KL HO
      go_wp2_with (at_builtin; refine wpList_app _ _ 32 3 (.int .i64 0) 1 8 rfl rfl Try.underlying32 info_int rfl (by decide) (by decide) rfl HO1 rfl hE (by simp) (oneCell_ints _) (by omega) hs1 ?_; intro A1 c1 w1 hown1 hc1 hb6 _ _)
      have HO2 := Lib.hid hown1
      have hb7 := hb5.trans hb6
      clear hown1 HO1 hE
      go_roundw
      case rel => exact ⟨i + 1, by omega, by go_num, ⟨A1, c1, by rw [SNi.out, List.length_append], by rw [SNi.out, List.length_append, List.map_append]; exact HO2.out⟩, hb7⟩
      case measure => simp [intOf]; omega
    · obtain rfl : i = t.length := by omega
      rw [← LE.out] at HO
      have RR := Lib.hid (RowI.is (w := w) (base := W2.heap.size) ⟨AA, cc, rfl, HO.out⟩ hbw)
      rw [← LE.out]
      go_wp2_with fail
      go_ret
      exact RR.out

set_option maxRecDepth 100000 in
set_option maxHeartbeats 12800000 in
theorem refUpperL_any (v0 v1 v2 v3 v4 v5 : Value) (C : Cse) (A : Option Addr) (n a : Nat) (t : List Int) (w : World) (h : CaseAt w v0 v1 v2 v3 v4 v5 C) (hz : CaseSz C) (hA : Ints w A t) (hn : t.length = n) (hb : n ≤ 1048576) :
    Calls Try.prog 23 #[.agg #[v0, v1, v2, v3, v4, v5], .slice A n a] w (RetIs (upL (caseD C) t) w) := by
  subst hn
  obtain ⟨A0, n0, c0, rfl⟩ := h.lower.sl
  obtain ⟨A1, n1, c1, rfl⟩ := h.upper.sl
  obtain ⟨A2, n2, c2, rfl⟩ := h.title.sl
  obtain ⟨A3, n3, c3, rfl⟩ := h.fold.sl
  obtain ⟨A4, n4, c4, rfl⟩ := h.cased.sl
  obtain ⟨A5, n5, c5, rfl⟩ := h.ign.sl
  have B0 : Below w.heap.size w (w.alloc (.cells #[.slice A0 n0 c0, .slice A1 n1 c1, .slice A2 n2 c2, .slice A3 n3 c3, .slice A4 n4 c4, .slice A5 n5 c5] 27)) := (Below.refl _ _).alloc (Nat.le_refl _) _
  have X0 : Box (w.alloc (.cells #[.slice A0 n0 c0, .slice A1 n1 c1, .slice A2 n2 c2, .slice A3 n3 c3, .slice A4 n4 c4, .slice A5 n5 c5] 27)) w.heap.size 27 [.slice A0 n0 c0, .slice A1 n1 c1, .slice A2 n2 c2, .slice A3 n3 c3, .slice A4 n4 c4, .slice A5 n5 c5] := Box.new w 27 [.slice A0 n0 c0, .slice A1 n1 c1, .slice A2 n2 c2, .slice A3 n3 c3, .slice A4 n4 c4, .slice A5 n5 c5] rfl
  have W0E : ∃ W0, (w.alloc (.cells #[.slice A0 n0 c0, .slice A1 n1 c1, .slice A2 n2 c2, .slice A3 n3 c3, .slice A4 n4 c4, .slice A5 n5 c5] 27)) = W0 := ⟨_, rfl⟩
  have CA := Lib.hid (fun W (hb : Below w.heap.size w W) => h.below hb)
  have VD := Lib.hid (fun W (hb : Below w.heap.size w W) => refData_any _ _ _ _ _ _ C W (h.below hb) hz)
  have MC := Lib.hid (fun W x u0 u1 u2 u3 u4 u5 (hc : CaseAt W u0 u1 u2 u3 u4 u5 (caseD C)) => mapped_any u1 (caseD C).upper x W hc.upper hz.d.upper (caseD_isok C).upper)
  have HA := Lib.hid (fun W (hb' : Below w.heap.size w W) => hA.below hb')
  have SN := Lib.hid (fun i hi => (joinI_snoc (upAt (caseD C).upper t) (lo := 0) (i := i) (Nat.zero_le _)).trans (by rw [show upAt (caseD C).upper t i = mapT (caseD C).upper t[i] by unfold upAt; rw [getD_at hi]]))
  have J0 := Lib.hid (joinI_nil (upAt (caseD C).upper t) (lo := 0) (hi := 0) (Nat.le_refl _))
  have LJ := Lib.hid (fun i => joinI_len (f := upAt (caseD C).upper t) (lo := 0) (hi := i) (k := 64) (fun j _ _ => upAt_len (caseD_isok C).upper t j))
  have LF := Lib.hid (fun x => mapT_len (caseD_isok C).upper x)
  have LE := Lib.hid (show upL (caseD C) t = joinI (upAt (caseD C).upper t) 0 t.length from rfl)
  generalize upL (caseD C) t = R at *
  generalize joinI (upAt (caseD C).upper t) 0 = J at *
  clear h hz hA
  have e0 := X0.cell (i := 0) rfl
  have e1 := X0.cell (i := 1) rfl
  have e2 := X0.cell (i := 2) rfl
  have e3 := X0.cell (i := 3) rfl
  have e4 := X0.cell (i := 4) rfl
  have e5 := X0.cell (i := 5) rfl
  go_enter Try.func23, Try.ntmps23
  go_wp2_with fail
  clear e0 e1 e2 e3 e4 e5
  obtain ⟨W0, hW0⟩ := W0E
  rw [hW0] at B0 X0 ⊢
  clear hW0
  with_reducible refine (VD.out W0 B0).mono ?_
  rintro e W1 ⟨u0, u1, u2, u3, u4, u5, rfl, hT, hb1⟩
  have hb2 := B0.trans (hb1.mono B0.size)
  have hC1 := hT W1 (CA.out W1 hb2)
  obtain ⟨B0, m0, d0, rfl⟩ := hC1.lower.sl
  obtain ⟨B1, m1, d1, rfl⟩ := hC1.upper.sl
  obtain ⟨B2, m2, d2, rfl⟩ := hC1.title.sl
  obtain ⟨B3, m3, d3, rfl⟩ := hC1.fold.sl
  obtain ⟨B4, m4, d4, rfl⟩ := hC1.cased.sl
  obtain ⟨B5, m5, d5, rfl⟩ := hC1.ign.sl
  have Bd : Below W1.heap.size W1 (W1.alloc (.cells #[.slice B0 m0 d0, .slice B1 m1 d1, .slice B2 m2 d2, .slice B3 m3 d3, .slice B4 m4 d4, .slice B5 m5 d5] 27)) := (Below.refl _ _).alloc (Nat.le_refl _) _
  have hb3 := hb2.trans (Bd.mono hb2.size)
  have XD := Lib.hid (Box.new W1 27 [.slice B0 m0 d0, .slice B1 m1 d1, .slice B2 m2 d2, .slice B3 m3 d3, .slice B4 m4 d4, .slice B5 m5 d5] rfl)
  have DD := Lib.hid (hT _ (CA.out _ hb3))
  have W2E : ∃ W2, W1.alloc (.cells #[.slice B0 m0 d0, .slice B1 m1 d1, .slice B2 m2 d2, .slice B3 m3 d3, .slice B4 m4 d4, .slice B5 m5 d5] 27) = W2 := ⟨_, rfl⟩
  clear VD hC1 hT
  go_wp2_with fail
  obtain ⟨W2, hW2⟩ := W2E
  rw [hW2] at XD DD hb3 Bd ⊢
  clear hW2
  generalize W1.heap.size = bd at *
  go_loopw [6, 7] (fun v u wr => ∃ i : Nat, i ≤ t.length ∧ u = .int .i64 i ∧ RowI W2.heap.size wr v (J i) ∧ Below W2.heap.size W2 wr) (fun _ u _ => t.length - (intOf u).toNat)
  case atStart => exact ⟨0, Nat.zero_le _, rfl, by rw [J0.out]; exact RowI.nil _ _, Below.refl _ _⟩
  case round =>
    obtain ⟨i, hi, rfl, hrow, hbr⟩ := hrel
    have hbw := hb3.trans (hbr.mono hb3.size)
    obtain ⟨AA, cc, rfl, hown⟩ := hrow
    have HO := Lib.hid hown
    clear hown
    by_cases hlt : i < t.length
    · obtain ⟨b1, o1, rfl, hcell⟩ := (HA.out W2 hb3).at hlt
      have d0 := hcell i hlt
      have lb := World.block_lt_of_cell? W2 _ d0
      have ci0 : (0 : Int) ≤ i := by omega
      have ci1 : (i : Int) < t.length := by omega
      have SNi := Lib.hid (SN.out i hlt)
      have l1 := LJ.out i
      have l3 : 64 * (i - 0) ≤ 64 * 1048576 := Nat.mul_le_mul_left _ (by omega)
      clear hcell
      generalize t[i] = ti at *
      have l2 := LF.out ti
      have SH := Lib.hid (fun W' (hb' : Below W2.heap.size W2 W') => show W'.cell? ⟨bd, 1, none⟩ = some (.slice B1 m1 d1) ∧ W'.cell? ⟨b1, o1 + i, none⟩ = some (.int .i64 ti) ∧ Below W2.heap.size W2 W' from ⟨(XD.out.below hb' XD.out.lt).cell (i := 1) rfl, (hb'.cell (p := ⟨b1, o1 + i, none⟩) lb).trans d0, hb'⟩)
      have KM := Lib.hid ((MC.out wr.drew ti _ _ _ _ _ _ (DD.out.below hbr.drew)).mono (R' := fun e W' => ∃ v, e = .returned v ∧ (W'.cell? ⟨bd, 1, none⟩ = some (.slice B1 m1 d1) ∧ W'.cell? ⟨b1, o1 + i, none⟩ = some (.int .i64 ti) ∧ Below W2.heap.size W2 W') ∧ (∃ E d, v = .slice E (mapT (caseD C).upper ti).length d ∧ Ints W' E (mapT (caseD C).upper ti) ∧ Below wr.heap.size wr W')) (fun e W' ⟨E, d, he, h1, h2, h3⟩ => ⟨_, he, SH.out W' (hbr.trans ((Below.trans (Below.refl _ _).drew h3).mono hbr.size)), E, d, rfl, h2, Below.trans (Below.refl _ _).drew h3⟩))
      generalize J i = Ji at *
      generalize mapT (caseD C).upper ti = Fi at *
      clear d0 lb
      go_wp2_with fail
      refine wp_region_held_drew (S := fun W' => W'.cell? ⟨bd, 1, none⟩ = some (.slice B1 m1 d1) ∧ W'.cell? ⟨b1, o1 + i, none⟩ = some (.int .i64 ti) ∧ Below W2.heap.size W2 W') (by kernel_rfl) (SH.out _ hbr.drew) (fun hHeld => ?_)
      refine anyH_take (i := 0) (v := ?_) (some 16) rfl rfl (by kernel_rfl) (by kernel_rfl) (by kernel_rfl) (fun _ _ _ h => h) (by rfl) (by assumption) ?_ ?_
      rotate_left
      · intro w hSw; (try dsimp only at hSw); go_split_ands; go_simp; try (with_reducible rfl)
      try simp only [Act.put, List.setIfInBounds_toArray, List.set_cons_zero, List.set_cons_succ]
      refine anyH_take (i := 1) (v := ?_) (some 17) rfl rfl (by kernel_rfl) (by kernel_rfl) (by kernel_rfl) (fun _ _ _ h => h) (by rfl) (by assumption) ?_ ?_
      rotate_left
      · intro w hSw; (try dsimp only at hSw); go_split_ands; go_simp; try (with_reducible rfl)
      try simp only [Act.put, List.setIfInBounds_toArray, List.set_cons_zero, List.set_cons_succ]
      refine anyH_take (i := 2) (v := ?_) (some 18) rfl rfl (by kernel_rfl) (by kernel_rfl) (by kernel_rfl) (fun _ _ _ h => h) (by rfl) (by assumption) ?_ ?_
      rotate_left
      · intro w hSw; (try dsimp only at hSw); go_split_ands; go_simp; try (with_reducible rfl)
      try simp only [Act.put, List.setIfInBounds_toArray, List.set_cons_zero, List.set_cons_succ]
      refine anyH_take (i := 3) (v := ?_) (some 19) rfl rfl (by kernel_rfl) (by kernel_rfl) (by kernel_rfl) (fun _ _ _ h => h) (by rfl) (by assumption) ?_ ?_
      rotate_left
      · intro w hSw; (try dsimp only at hSw); go_split_ands; go_simp; try (with_reducible rfl)
      try simp only [Act.put, List.setIfInBounds_toArray, List.set_cons_zero, List.set_cons_succ]
      refine anyH_take (i := 4) (v := ?_) (some 20) rfl rfl (by kernel_rfl) (by kernel_rfl) (by kernel_rfl) (fun _ _ _ h => h) (by rfl) (by assumption) ?_ ?_
      rotate_left
      · intro w hSw; (try dsimp only at hSw); go_split_ands; go_simp; try (with_reducible rfl)
      try simp only [Act.put, List.setIfInBounds_toArray, List.set_cons_zero, List.set_cons_succ]
      refine anyH_take (i := 5) (v := ?_) (some 21) rfl rfl (by kernel_rfl) (by kernel_rfl) (by kernel_rfl) (fun _ _ _ h => h) (by rfl) (by assumption) ?_ ?_
      rotate_left
      · intro w hSw; (try dsimp only at hSw); go_split_ands; go_simp; try (with_reducible rfl)
      try simp only [Act.put, List.setIfInBounds_toArray, List.set_cons_zero, List.set_cons_succ]
      refine anyH_take (i := 6) (v := ?_) (some 22) rfl rfl (by kernel_rfl) (by kernel_rfl) (by kernel_rfl) (fun _ _ _ h => h) (by rfl) (by assumption) ?_ ?_
      rotate_left
      · intro w hSw; (try dsimp only at hSw); go_split_ands; go_simp; try (with_reducible rfl)
      try simp only [Act.put, List.setIfInBounds_toArray, List.set_cons_zero, List.set_cons_succ]
      refine anyH_callE (i := 7) (some 23) rfl rfl (by kernel_rfl) (by rfl) (by go_simp) KM.out ?_
      rintro _ W3 hS6 ⟨E, d, rfl, hE, hb4⟩
      clear hHeld
      have hHeld := hS6
      clear hS6
      try simp only [Act.put, List.setIfInBounds_toArray, List.set_cons_zero, List.set_cons_succ]
      have HO1 := own_keep HO.out hb4
      have hb5 := hbr.trans (hb4.mono hbr.size)
      have hs1 : W2.heap.size ≤ W3.heap.size := hb5.size
      refine anyH_app (i := 8) (some 24) rfl rfl (by kernel_rfl) (by rfl) _ _ 32 3 (.int .i64 0) 1 8 rfl Try.underlying32 info_int rfl (by decide) (by decide) rfl HO1 rfl hE (by simp) (oneCell_ints _) (by omega) hs1 ?_
      intro A1 c1 w1 hown1 hc1 hb6 _ _
      have HO2 := Lib.hid hown1
      have hb7 := hb5.trans hb6
      have S7 := SH.out w1 hb7
      clear hown1 HO1 hE hHeld KM HO
      refine ⟨S7, ?_⟩
      have hHeld := S7
      clear S7
      try simp only [Act.put, List.setIfInBounds_toArray, List.set_cons_zero, List.set_cons_succ]
      refine anyH_take (i := 9) (v := ?_) (some 6) rfl rfl (by kernel_rfl) (by kernel_rfl) (by kernel_rfl) (fun _ _ _ h => h) (by rfl) (by assumption) ?_ ?_
      rotate_left
      · intro w hSw; (try dsimp only at hSw); go_split_ands; go_simp; try (with_reducible rfl)
      try simp only [Act.put, List.setIfInBounds_toArray, List.set_cons_zero, List.set_cons_succ]
      refine wpAnyH_done (by kernel_rfl) ?_ _
      clear hHeld SH
      go_wp2_with fail
      go_roundw
      case rel => exact ⟨i + 1, by omega, by go_num, ⟨A1, c1, by rw [SNi.out, List.length_append], by rw [SNi.out, List.length_append, List.map_append]; exact HO2.out⟩, hb7⟩
      case measure => simp [intOf]; omega
    · obtain rfl : i = t.length := by omega
      rw [← LE.out] at HO
      have RR := Lib.hid (RowI.is (w := w) (base := W2.heap.size) ⟨AA, cc, rfl, HO.out⟩ hbw)
      rw [← LE.out]
      go_wp2_with fail
      go_ret
      exact RR.out

set_option maxRecDepth 100000 in
set_option maxHeartbeats 12800000 in
theorem Within_any (A : Option Addr) (n a : Nat) (ps : List Rg) (m : Int) (w : World) (hA : Rgs w A ps) (hn : ps.length = n) (hb : n ≤ 1048576) :
    Calls Try.prog 29 #[.slice A n a, .int .i64 m] w (fun e w' => e = .returned (.bool (withinL m 0 ps)) ∧ Qt w w') := by
  subst hn
  have HA := Lib.hid hA
  have WB := Lib.hid (fun a k hk h => withinL_bad (n := m) (a := a) (ps := ps) (k := k) hk h)
  have WN := Lib.hid (fun a k hk h => withinL_next (n := m) (a := a) (ps := ps) (k := k) hk h)
  have WE := Lib.hid (fun a k (hk : ps.length ≤ k) => show withinL m a (ps.drop k) = true by rw [List.drop_of_length_le hk]; rfl)
  have W0 := Lib.hid (show withinL m 0 ps = withinL m 0 (ps.drop 0) from rfl)
  generalize withinL m 0 ps = R at *
  clear hA
  go_enter Try.func29, Try.ntmps29
  go_wp2_with fail
  go_loopw [5, 6] (fun ua u wr => ∃ (k : Nat) (at_ : Int), k ≤ ps.length ∧ u = .int .i64 k ∧ ua = .int .i64 at_ ∧ R = withinL m at_ (ps.drop k) ∧ Qt w wr) (fun _ u _ => ps.length - (intOf u).toNat)
  case atStart => exact ⟨0, 0, Nat.zero_le _, rfl, rfl, W0.out, Qt.refl _⟩
  case round =>
    obtain ⟨k, at_, hk, rfl, rfl, hR, hq⟩ := hrel
    have HR := Lib.hid hR
    clear hR
    by_cases hlt : k < ps.length
    · obtain ⟨b1, o1, rfl, hbl, hcell⟩ := (HA.out.below hq.below).at hlt
      obtain ⟨c1, c2⟩ := hcell k hlt
      have HB := Lib.hid (fun h => HR.out.trans (WB.out at_ k hlt h))
      have HN := Lib.hid (fun h => HR.out.trans (WN.out at_ k hlt h))
      have ci0 : (0 : Int) ≤ k := by omega
      have ci1 : (k : Int) < ps.length := by omega
      have HQ0 := Lib.hid hq
      clear hcell hq
      generalize ps[k] = p at *
      obtain ⟨lo, hi⟩ := p
      dsimp only at *
      by_cases h1 : lo < at_
      · have q1 : decide (lo < at_) = true := by simpa using h1
        obtain rfl := HB.out (.inl h1)
        clear HB HN HR
        go_wp2_with fail
        go_quiet (fail)
        go_wp2_with fail
        go_ret
        exact ⟨rfl, HQ0.out.drewN _⟩
      · have q1 : decide (lo < at_) = false := by simpa using h1
        by_cases h2 : hi < lo
        · have q2 : decide (hi < lo) = true := by simpa using h2
          obtain rfl := HB.out (.inr (.inl h2))
          clear HB HN HR
          go_wp2_with fail
          go_quiet (fail)
          go_wp2_with fail
          go_ret
          exact ⟨rfl, HQ0.out.drewN _⟩
        · have q2 : decide (hi < lo) = false := by simpa using h2
          by_cases h3 : m < hi
          · have q3 : decide (m < hi) = true := by simpa using h3
            obtain rfl := HB.out (.inr (.inr h3))
            clear HB HN HR
            go_wp2_with fail
            go_quiet (fail)
            go_wp2_with fail
            go_ret
            exact ⟨rfl, HQ0.out.drewN _⟩
          · have q3 : decide (m < hi) = false := by simpa using h3
            have HQ := Lib.hid (HN.out (by omega))
            clear HB HN HR
            go_wp2_with fail
            go_quiet (fail)
            go_wp2_with fail
            go_roundw
            case rel => exact ⟨k + 1, hi, by omega, by go_num, rfl, HQ.out, HQ0.out.drewN _⟩
            case measure => simp [intOf]; omega
    · obtain rfl := HR.out.trans (WE.out at_ k (by omega))
      go_wp2_with fail
      go_ret
      exact ⟨rfl, hq⟩

end Go.Proofs.Ytpamkbbmbeeheaa
