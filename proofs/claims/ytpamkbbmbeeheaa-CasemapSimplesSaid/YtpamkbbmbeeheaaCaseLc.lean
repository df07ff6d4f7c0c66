/- The walk of the law CasemapSimples. Written by gen_claws.py. -/
import Derived.Test.YtpamkbbmbeeheaaCaseLb
import Derived.Test.YtpamkbbmbeeheaaCaseTt
import Derived.Test.YtpamkbbmbeeheaaCaseRd
import Derived.Deep.CutRange
import Derived.Deep.DeepCutAuto
namespace Go.Proofs.Ytpamkbbmbeeheaa
open Go.RowKit Go.Maps Go.WideMaps

set_option maxRecDepth 100000 in
set_option maxHeartbeats 25600000 in
theorem CasemapSimples_any (v0 v1 v2 v3 v4 v5 : Value) (C : Cse) (x : Int) (w : World) (h : CaseAt w v0 v1 v2 v3 v4 v5 C) (hl : CaseLn C) (hx : iok x) :
    Calls Try.prog 7 #[.agg #[v0, v1, v2, v3, v4, v5], .int .i64 x] w (RetTrue w) := by
  obtain ⟨A0, n0, c0, rfl⟩ := h.lower.sl
  obtain ⟨A1, n1, c1, rfl⟩ := h.upper.sl
  obtain ⟨A2, n2, c2, rfl⟩ := h.title.sl
  obtain ⟨A3, n3, c3, rfl⟩ := h.fold.sl
  obtain ⟨A4, n4, c4, rfl⟩ := h.cased.sl
  obtain ⟨A5, n5, c5, rfl⟩ := h.ign.sl
  have B0 : Below w.heap.size w (w.alloc (.cells #[.slice A0 n0 c0, .slice A1 n1 c1, .slice A2 n2 c2, .slice A3 n3 c3, .slice A4 n4 c4, .slice A5 n5 c5] 27)) := (Below.refl _ _).alloc (Nat.le_refl _) _
  have X0 : Box (w.alloc (.cells #[.slice A0 n0 c0, .slice A1 n1 c1, .slice A2 n2 c2, .slice A3 n3 c3, .slice A4 n4 c4, .slice A5 n5 c5] 27)) w.heap.size 27 [.slice A0 n0 c0, .slice A1 n1 c1, .slice A2 n2 c2, .slice A3 n3 c3, .slice A4 n4 c4, .slice A5 n5 c5] := Box.new w 27 [.slice A0 n0 c0, .slice A1 n1 c1, .slice A2 n2 c2, .slice A3 n3 c3, .slice A4 n4 c4, .slice A5 n5 c5] rfl
  have W0E : ∃ W0, (w.alloc (.cells #[.slice A0 n0 c0, .slice A1 n1 c1, .slice A2 n2 c2, .slice A3 n3 c3, .slice A4 n4 c4, .slice A5 n5 c5] 27)) = W0 := ⟨_, rfl⟩
  have CA := Lib.hid (fun W (hb : Below w.heap.size w W) => h.below hb)
  have HL := Lib.hid hl
  have SZ := Lib.hid (smallC_sz (C := C))
  clear h hl
  have e0 := X0.cell (i := 0) rfl
  have e1 := X0.cell (i := 1) rfl
  have e2 := X0.cell (i := 2) rfl
  have e3 := X0.cell (i := 3) rfl
  have e4 := X0.cell (i := 4) rfl
  have e5 := X0.cell (i := 5) rfl
  go_enter Try.func7, Try.ntmps7
  go_wp2_with fail
  clear e0 e1 e2 e3 e4 e5
  obtain ⟨W0, hW0⟩ := W0E
  rw [hW0] at B0 X0 ⊢
  clear hW0
  have SH := Lib.hid (fun W' (hb' : Below W0.heap.size W0 W') => show W'.cell? ⟨w.heap.size, 0, none⟩ = some (.slice A0 n0 c0) ∧ W'.cell? ⟨w.heap.size, 1, none⟩ = some (.slice A1 n1 c1) ∧ W'.cell? ⟨w.heap.size, 2, none⟩ = some (.slice A2 n2 c2) ∧ W'.cell? ⟨w.heap.size, 3, none⟩ = some (.slice A3 n3 c3) ∧ W'.cell? ⟨w.heap.size, 4, none⟩ = some (.slice A4 n4 c4) ∧ W'.cell? ⟨w.heap.size, 5, none⟩ = some (.slice A5 n5 c5) ∧ Below W0.heap.size W0 W' from ⟨(X0.below hb' X0.lt).cell (i := 0) rfl, (X0.below hb' X0.lt).cell (i := 1) rfl, (X0.below hb' X0.lt).cell (i := 2) rfl, (X0.below hb' X0.lt).cell (i := 3) rfl, (X0.below hb' X0.lt).cell (i := 4) rfl, (X0.below hb' X0.lt).cell (i := 5) rfl, hb'⟩)
  have KM0 := Lib.hid (fun W (hb' : Below W0.heap.size W0 W) => smallC_any _ _ _ _ _ _ C W (CA.out W (B0.trans (hb'.mono B0.size))) HL.out)
  have HX := Lib.hid X0
  clear X0
  with_reducible refine (KM0.out W0 (Below.refl _ _)).mono ?_
  rintro e W1 ⟨rfl, hb1⟩
  have hw1 := B0.trans (hb1.mono B0.size)
  cases hs : smallC C with
  | false =>
    go_wp2_with fail
    with_reducible refine (alive_any W1).mono ?_
    rintro e W2 ⟨rfl, hb2⟩
    have hb9 := hw1.trans (hb2.mono hw1.size)
    go_wp2_with fail
    go_ret
    exact ⟨rfl, hb9⟩
  | true =>
    have hz := SZ.out hs
    have SC := Lib.hid (fun W (hb' : Below W0.heap.size W0 W) => show Calls Try.prog 24 _ W (RetI3 (onlyL (mapT (caseD C).lower x) x) (onlyL (mapT (caseD C).upper x) x) (sim (caseD C).title x) W) from Simple_any _ _ _ _ _ _ C x W (CA.out W (B0.trans (hb'.mono B0.size))) hz)
    have RC := Lib.hid (fun W (hb' : Below W0.heap.size W0 W) => show Calls Try.prog 25 _ W (RetI3 (onlyL (mapT (caseD C).lower x) x) (onlyL (mapT (caseD C).upper x) x) (sim (caseD C).title x) W) from refSimple_any _ _ _ _ _ _ C x W (CA.out W (B0.trans (hb'.mono B0.size))) hz)
    have KL := Lib.hid (fun W p (hb' : Below W0.heap.size W0 W) (hI : Ints W (some ⟨p, 0, none⟩) [x]) => (Lower_any _ _ _ _ _ _ C (some ⟨p, 0, none⟩) 1 1 [x] W (CA.out W (B0.trans (hb'.mono B0.size))) hz hI rfl (by omega) (Nat.le_refl _) (by omega) (fun z hz => by rw [List.mem_singleton.1 hz]; exact hx)).mono (R' := fun e W' => ∃ v, e = .returned v ∧ (W'.cell? ⟨w.heap.size, 0, none⟩ = some (.slice A0 n0 c0) ∧ W'.cell? ⟨w.heap.size, 1, none⟩ = some (.slice A1 n1 c1) ∧ W'.cell? ⟨w.heap.size, 2, none⟩ = some (.slice A2 n2 c2) ∧ W'.cell? ⟨w.heap.size, 3, none⟩ = some (.slice A3 n3 c3) ∧ W'.cell? ⟨w.heap.size, 4, none⟩ = some (.slice A4 n4 c4) ∧ W'.cell? ⟨w.heap.size, 5, none⟩ = some (.slice A5 n5 c5) ∧ Below W0.heap.size W0 W') ∧ (∃ E d, v = .slice E (lowL (caseD C) [x]).length d ∧ (lowL (caseD C) [x]).length ≤ d ∧ Ints W' E (lowL (caseD C) [x]) ∧ Below W.heap.size W W')) (fun e W' ⟨E, d, he, g1, g2, g3⟩ => ⟨_, he, SH.out W' (hb'.trans (g3.mono hb'.size)), E, d, rfl, g1, g2, g3⟩))
    have KU := Lib.hid (fun W p (hb' : Below W0.heap.size W0 W) (hI : Ints W (some ⟨p, 0, none⟩) [x]) => (Upper_any _ _ _ _ _ _ C (some ⟨p, 0, none⟩) 1 1 [x] W (CA.out W (B0.trans (hb'.mono B0.size))) hz hI rfl (by omega) (Nat.le_refl _) (by omega) (fun z hz => by rw [List.mem_singleton.1 hz]; exact hx)).mono (R' := fun e W' => ∃ v, e = .returned v ∧ (W'.cell? ⟨w.heap.size, 0, none⟩ = some (.slice A0 n0 c0) ∧ W'.cell? ⟨w.heap.size, 1, none⟩ = some (.slice A1 n1 c1) ∧ W'.cell? ⟨w.heap.size, 2, none⟩ = some (.slice A2 n2 c2) ∧ W'.cell? ⟨w.heap.size, 3, none⟩ = some (.slice A3 n3 c3) ∧ W'.cell? ⟨w.heap.size, 4, none⟩ = some (.slice A4 n4 c4) ∧ W'.cell? ⟨w.heap.size, 5, none⟩ = some (.slice A5 n5 c5) ∧ Below W0.heap.size W0 W') ∧ (∃ E d, v = .slice E (upL (caseD C) [x]).length d ∧ (upL (caseD C) [x]).length ≤ d ∧ Ints W' E (upL (caseD C) [x]) ∧ Below W.heap.size W W')) (fun e W' ⟨E, d, he, g1, g2, g3⟩ => ⟨_, he, SH.out W' (hb'.trans (g3.mono hb'.size)), E, d, rfl, g1, g2, g3⟩))
    simp only [lowL_one, upL_one] at KL KU
    generalize mapT (caseD C).lower x = l1 at *
    generalize mapT (caseD C).upper x = l2 at *
    generalize sim (caseD C).title x = r3 at *
    generalize hr1 : onlyL l1 x = r1 at *
    generalize hr2 : onlyL l2 x = r2 at *
    have HR1 := Lib.hid hr1
    have HR2 := Lib.hid hr2
    clear hr1 hr2 KM0
    have X1 := HX.out.below hb1 HX.out.lt
    have f0 := X1.cell (i := 0) rfl
    have f1 := X1.cell (i := 1) rfl
    have f2 := X1.cell (i := 2) rfl
    have f3 := X1.cell (i := 3) rfl
    have f4 := X1.cell (i := 4) rfl
    have f5 := X1.cell (i := 5) rfl
    have hl1 := X1.lt
    clear X1
    go_wp2_with fail
    clear f0 f1 f2 f3 f4 f5
    with_reducible refine (SC.out W1 hb1).mono ?_
    rintro e W2 ⟨rfl, hb2⟩
    have hb3 := hb1.trans (hb2.mono hb1.size)
    have X2 := HX.out.below hb3 HX.out.lt
    have f0 := X2.cell (i := 0) rfl
    have f1 := X2.cell (i := 1) rfl
    have f2 := X2.cell (i := 2) rfl
    have f3 := X2.cell (i := 3) rfl
    have f4 := X2.cell (i := 4) rfl
    have f5 := X2.cell (i := 5) rfl
    have hl2 := X2.lt
    clear X2
    go_wp2_with fail
    clear f0 f1 f2 f3 f4 f5
    with_reducible refine (RC.out W2 hb3).mono ?_
    rintro e W3 ⟨rfl, hb4⟩
    have hb5 := hb3.trans (hb4.mono hb3.size)
    clear SC RC
    go_upto_region 7 with fail
    go_cut [11, 12] (fun s11 s12 wx => ∃ (E1 : Option Addr) (d1 : Nat) (E2 : Option Addr) (d2 : Nat), s11 = .slice E1 l1.length d1 ∧ s12 = .slice E2 l2.length d2 ∧ Ints wx E1 l1 ∧ Ints wx E2 l2 ∧ Below W0.heap.size W0 wx)
    case first =>
      refine wp_region_held_drew (S := fun W' => W'.cell? ⟨w.heap.size, 0, none⟩ = some (.slice A0 n0 c0) ∧ W'.cell? ⟨w.heap.size, 1, none⟩ = some (.slice A1 n1 c1) ∧ W'.cell? ⟨w.heap.size, 2, none⟩ = some (.slice A2 n2 c2) ∧ W'.cell? ⟨w.heap.size, 3, none⟩ = some (.slice A3 n3 c3) ∧ W'.cell? ⟨w.heap.size, 4, none⟩ = some (.slice A4 n4 c4) ∧ W'.cell? ⟨w.heap.size, 5, none⟩ = some (.slice A5 n5 c5) ∧ Below W0.heap.size W0 W') (by kernel_rfl) (SH.out _ (hb5.drew)) (fun hHeld => ?_)
      obtain ⟨Wd, hWd⟩ : ∃ Wd, W3.drew = Wd := ⟨_, rfl⟩
      rw [hWd] at hHeld ⊢
      clear hWd
      refine anyH_take (i := 0) (v := ?_) (some 44) rfl rfl (by kernel_rfl) (by kernel_rfl) (by kernel_rfl) (fun _ _ _ h => h) (by rfl) (by assumption) ?_ ?_
      rotate_left
      · intro w hSw; (try dsimp only at hSw); go_split_ands; go_simp; try (with_reducible rfl)
      try simp only [Act.put, List.setIfInBounds_toArray, List.set_cons_zero, List.set_cons_succ]
      refine anyH_take (i := 1) (v := ?_) (some 45) rfl rfl (by kernel_rfl) (by kernel_rfl) (by kernel_rfl) (fun _ _ _ h => h) (by rfl) (by assumption) ?_ ?_
      rotate_left
      · intro w hSw; (try dsimp only at hSw); go_split_ands; go_simp; try (with_reducible rfl)
      try simp only [Act.put, List.setIfInBounds_toArray, List.set_cons_zero, List.set_cons_succ]
      refine anyH_take (i := 4) (v := ?_) (some 48) rfl rfl (by kernel_rfl) (by kernel_rfl) (by kernel_rfl) (fun _ _ _ h => h) (by rfl) (by assumption) ?_ ?_
      rotate_left
      · intro w hSw; (try dsimp only at hSw); go_split_ands; go_simp; try (with_reducible rfl)
      try simp only [Act.put, List.setIfInBounds_toArray, List.set_cons_zero, List.set_cons_succ]
      refine anyH_take (i := 5) (v := ?_) (some 49) rfl rfl (by kernel_rfl) (by kernel_rfl) (by kernel_rfl) (fun _ _ _ h => h) (by rfl) (by assumption) ?_ ?_
      rotate_left
      · intro w hSw; (try dsimp only at hSw); go_split_ands; go_simp; try (with_reducible rfl)
      try simp only [Act.put, List.setIfInBounds_toArray, List.set_cons_zero, List.set_cons_succ]
      refine wpAnyH_ready (rs := [2, 6]) (by kernel_rfl) (by simp) ?_
      refine AllReadyH.cons rfl (fun K hK => ?_) (AllReadyH.cons rfl (fun K hK => ?_) (AllReadyH.nil))
      · have Bn : Below Wd.heap.size Wd (Wd.alloc (.cells #[.int .i64 x] 3)) := (Below.refl _ _).alloc (Nat.le_refl _) _
        have J1 : Ints (Wd.alloc (.cells #[.int .i64 x] 3)) (some ⟨Wd.heap.size, 0, none⟩) [x] := Ints_new Wd [x] 3 rfl
        have Sn := SH.out _ (hHeld.2.2.2.2.2.2.trans (Bn.mono hHeld.2.2.2.2.2.2.size))
        refine step_val2 (w' := (Wd.alloc (.cells #[.int .i64 x] 3))) (v := .slice (some ⟨Wd.heap.size, 0, none⟩) 1 1) (some 46) rfl hK (by rfl) (by go_simp) Sn (fun _ => ?_)
        clear hK K
        clear hHeld
        have hHeld := Sn
        clear Sn
        generalize (Wd.alloc (.cells #[.int .i64 x] 3)) = V1 at *
        clear Bn
        generalize Wd.heap.size = p1 at *
        try simp only [Act.put, List.setIfInBounds_toArray, List.set_cons_zero, List.set_cons_succ]
        refine wpAnyH_ready (rs := [3, 6]) (by kernel_rfl) (by simp) ?_
        refine AllReadyH.cons rfl (fun K hK => ?_) (AllReadyH.cons rfl (fun K hK => ?_) (AllReadyH.nil))
        · refine step_call2 (some 47) rfl hK (by rfl) (by go_simp) (KL.out _ _ hHeld.2.2.2.2.2.2 J1) ?_
          rintro _ V2 hS6 ⟨E1, d1, rfl, hl1, hI1, hb1⟩
          clear hK K
          clear hHeld
          have hHeld := hS6
          clear hS6
          clear J1
          try simp only [Act.put, List.setIfInBounds_toArray, List.set_cons_zero, List.set_cons_succ]
          have Bn : Below V2.heap.size V2 (V2.alloc (.cells #[.int .i64 x] 3)) := (Below.refl _ _).alloc (Nat.le_refl _) _
          have J2 : Ints (V2.alloc (.cells #[.int .i64 x] 3)) (some ⟨V2.heap.size, 0, none⟩) [x] := Ints_new V2 [x] 3 rfl
          have Sn := SH.out _ (hHeld.2.2.2.2.2.2.trans (Bn.mono hHeld.2.2.2.2.2.2.size))
          refine anyH_val (w' := (V2.alloc (.cells #[.int .i64 x] 3))) (v := .slice (some ⟨V2.heap.size, 0, none⟩) 1 1) (i := 6) (some 50) rfl rfl (by kernel_rfl) (by rfl) (by go_simp) Sn ?_
          clear hHeld
          have hHeld := Sn
          clear Sn
          have hI1 := hI1.below Bn
          generalize (V2.alloc (.cells #[.int .i64 x] 3)) = V3 at *
          clear Bn
          generalize V2.heap.size = p2 at *
          try simp only [Act.put, List.setIfInBounds_toArray, List.set_cons_zero, List.set_cons_succ]
          refine anyH_callE (i := 7) (some 51) rfl rfl (by kernel_rfl) (by rfl) (by go_simp) (KU.out _ _ hHeld.2.2.2.2.2.2 J2) ?_
          rintro _ V4 hS6 ⟨E2, d2, rfl, hl2, hI2, hb2⟩
          clear hHeld
          have hHeld := hS6
          clear hS6
          have hI1 := hI1.below hb2
          clear J2
          try simp only [Act.put, List.setIfInBounds_toArray, List.set_cons_zero, List.set_cons_succ]
          refine anyH_take (i := 8) (v := ?_) (some 11) rfl rfl (by kernel_rfl) (by kernel_rfl) (by kernel_rfl) (fun _ _ _ h => h) (by rfl) (by assumption) ?_ ?_
          rotate_left
          · intro w hSw; (try dsimp only at hSw); go_split_ands; go_simp; try (with_reducible rfl)
          try simp only [Act.put, List.setIfInBounds_toArray, List.set_cons_zero, List.set_cons_succ]
          refine anyH_take (i := 9) (v := ?_) (some 12) rfl rfl (by kernel_rfl) (by kernel_rfl) (by kernel_rfl) (fun _ _ _ h => h) (by rfl) (by assumption) ?_ ?_
          rotate_left
          · intro w hSw; (try dsimp only at hSw); go_split_ands; go_simp; try (with_reducible rfl)
          try simp only [Act.put, List.setIfInBounds_toArray, List.set_cons_zero, List.set_cons_succ]
          refine wpAnyH_done (by kernel_rfl) ?_ _
          have HBX := Lib.hid (hHeld.2.2.2.2.2.2)
          clear hHeld
          go_wp2_with fail
          go_meet
          exact ⟨E1, d1, E2, d2, rfl, rfl, hI1, hI2, HBX.out⟩
        · have Bn : Below V1.heap.size V1 (V1.alloc (.cells #[.int .i64 x] 3)) := (Below.refl _ _).alloc (Nat.le_refl _) _
          have J2 : Ints (V1.alloc (.cells #[.int .i64 x] 3)) (some ⟨V1.heap.size, 0, none⟩) [x] := Ints_new V1 [x] 3 rfl
          have Sn := SH.out _ (hHeld.2.2.2.2.2.2.trans (Bn.mono hHeld.2.2.2.2.2.2.size))
          refine step_val2 (w' := (V1.alloc (.cells #[.int .i64 x] 3))) (v := .slice (some ⟨V1.heap.size, 0, none⟩) 1 1) (some 50) rfl hK (by rfl) (by go_simp) Sn (fun _ => ?_)
          clear hK K
          clear hHeld
          have hHeld := Sn
          clear Sn
          have J1 := J1.below Bn
          generalize (V1.alloc (.cells #[.int .i64 x] 3)) = V5 at *
          clear Bn
          generalize V1.heap.size = p2 at *
          try simp only [Act.put, List.setIfInBounds_toArray, List.set_cons_zero, List.set_cons_succ]
          refine anyH_callE (i := 3) (some 47) rfl rfl (by kernel_rfl) (by rfl) (by go_simp) (KL.out _ _ hHeld.2.2.2.2.2.2 J1) ?_
          rintro _ V6 hS6 ⟨E1, d1, rfl, hl1, hI1, hb1⟩
          clear hHeld
          have hHeld := hS6
          clear hS6
          have J2 := J2.below hb1
          clear J1
          try simp only [Act.put, List.setIfInBounds_toArray, List.set_cons_zero, List.set_cons_succ]
          refine anyH_callE (i := 7) (some 51) rfl rfl (by kernel_rfl) (by rfl) (by go_simp) (KU.out _ _ hHeld.2.2.2.2.2.2 J2) ?_
          rintro _ V7 hS6 ⟨E2, d2, rfl, hl2, hI2, hb2⟩
          clear hHeld
          have hHeld := hS6
          clear hS6
          have hI1 := hI1.below hb2
          clear J2
          try simp only [Act.put, List.setIfInBounds_toArray, List.set_cons_zero, List.set_cons_succ]
          refine anyH_take (i := 8) (v := ?_) (some 11) rfl rfl (by kernel_rfl) (by kernel_rfl) (by kernel_rfl) (fun _ _ _ h => h) (by rfl) (by assumption) ?_ ?_
          rotate_left
          · intro w hSw; (try dsimp only at hSw); go_split_ands; go_simp; try (with_reducible rfl)
          try simp only [Act.put, List.setIfInBounds_toArray, List.set_cons_zero, List.set_cons_succ]
          refine anyH_take (i := 9) (v := ?_) (some 12) rfl rfl (by kernel_rfl) (by kernel_rfl) (by kernel_rfl) (fun _ _ _ h => h) (by rfl) (by assumption) ?_ ?_
          rotate_left
          · intro w hSw; (try dsimp only at hSw); go_split_ands; go_simp; try (with_reducible rfl)
          try simp only [Act.put, List.setIfInBounds_toArray, List.set_cons_zero, List.set_cons_succ]
          refine wpAnyH_done (by kernel_rfl) ?_ _
          have HBX := Lib.hid (hHeld.2.2.2.2.2.2)
          clear hHeld
          go_wp2_with fail
          go_meet
          exact ⟨E1, d1, E2, d2, rfl, rfl, hI1, hI2, HBX.out⟩
      · have Bn : Below Wd.heap.size Wd (Wd.alloc (.cells #[.int .i64 x] 3)) := (Below.refl _ _).alloc (Nat.le_refl _) _
        have J2 : Ints (Wd.alloc (.cells #[.int .i64 x] 3)) (some ⟨Wd.heap.size, 0, none⟩) [x] := Ints_new Wd [x] 3 rfl
        have Sn := SH.out _ (hHeld.2.2.2.2.2.2.trans (Bn.mono hHeld.2.2.2.2.2.2.size))
        refine step_val2 (w' := (Wd.alloc (.cells #[.int .i64 x] 3))) (v := .slice (some ⟨Wd.heap.size, 0, none⟩) 1 1) (some 50) rfl hK (by rfl) (by go_simp) Sn (fun _ => ?_)
        clear hK K
        clear hHeld
        have hHeld := Sn
        clear Sn
        generalize (Wd.alloc (.cells #[.int .i64 x] 3)) = V8 at *
        clear Bn
        generalize Wd.heap.size = p2 at *
        try simp only [Act.put, List.setIfInBounds_toArray, List.set_cons_zero, List.set_cons_succ]
        have Bn : Below V8.heap.size V8 (V8.alloc (.cells #[.int .i64 x] 3)) := (Below.refl _ _).alloc (Nat.le_refl _) _
        have J1 : Ints (V8.alloc (.cells #[.int .i64 x] 3)) (some ⟨V8.heap.size, 0, none⟩) [x] := Ints_new V8 [x] 3 rfl
        have Sn := SH.out _ (hHeld.2.2.2.2.2.2.trans (Bn.mono hHeld.2.2.2.2.2.2.size))
        refine anyH_val (w' := (V8.alloc (.cells #[.int .i64 x] 3))) (v := .slice (some ⟨V8.heap.size, 0, none⟩) 1 1) (i := 2) (some 46) rfl rfl (by kernel_rfl) (by rfl) (by go_simp) Sn ?_
        clear hHeld
        have hHeld := Sn
        clear Sn
        have J2 := J2.below Bn
        generalize (V8.alloc (.cells #[.int .i64 x] 3)) = V9 at *
        clear Bn
        generalize V8.heap.size = p1 at *
        try simp only [Act.put, List.setIfInBounds_toArray, List.set_cons_zero, List.set_cons_succ]
        refine anyH_callE (i := 3) (some 47) rfl rfl (by kernel_rfl) (by rfl) (by go_simp) (KL.out _ _ hHeld.2.2.2.2.2.2 J1) ?_
        rintro _ V10 hS6 ⟨E1, d1, rfl, hl1, hI1, hb1⟩
        clear hHeld
        have hHeld := hS6
        clear hS6
        have J2 := J2.below hb1
        clear J1
        try simp only [Act.put, List.setIfInBounds_toArray, List.set_cons_zero, List.set_cons_succ]
        refine anyH_callE (i := 7) (some 51) rfl rfl (by kernel_rfl) (by rfl) (by go_simp) (KU.out _ _ hHeld.2.2.2.2.2.2 J2) ?_
        rintro _ V11 hS6 ⟨E2, d2, rfl, hl2, hI2, hb2⟩
        clear hHeld
        have hHeld := hS6
        clear hS6
        have hI1 := hI1.below hb2
        clear J2
        try simp only [Act.put, List.setIfInBounds_toArray, List.set_cons_zero, List.set_cons_succ]
        refine anyH_take (i := 8) (v := ?_) (some 11) rfl rfl (by kernel_rfl) (by kernel_rfl) (by kernel_rfl) (fun _ _ _ h => h) (by rfl) (by assumption) ?_ ?_
        rotate_left
        · intro w hSw; (try dsimp only at hSw); go_split_ands; go_simp; try (with_reducible rfl)
        try simp only [Act.put, List.setIfInBounds_toArray, List.set_cons_zero, List.set_cons_succ]
        refine anyH_take (i := 9) (v := ?_) (some 12) rfl rfl (by kernel_rfl) (by kernel_rfl) (by kernel_rfl) (fun _ _ _ h => h) (by rfl) (by assumption) ?_ ?_
        rotate_left
        · intro w hSw; (try dsimp only at hSw); go_split_ands; go_simp; try (with_reducible rfl)
        try simp only [Act.put, List.setIfInBounds_toArray, List.set_cons_zero, List.set_cons_succ]
        refine wpAnyH_done (by kernel_rfl) ?_ _
        have HBX := Lib.hid (hHeld.2.2.2.2.2.2)
        clear hHeld
        go_wp2_with fail
        go_meet
        exact ⟨E1, d1, E2, d2, rfl, rfl, hI1, hI2, HBX.out⟩
    case rest =>
      obtain ⟨E1, d1, E2, d2, rfl, rfl, hI1, hI2, hbc0⟩ := hcut
      have hbc := B0.trans (hbc0.mono B0.size)
      clear KL KU SH hbc0
      by_cases g1 : l1.length = 1
      · obtain ⟨y1, rfl⟩ := List.length_eq_one_iff.1 g1
        obtain ⟨b1, o1, rfl, hc1⟩ := hI1.at (k := 0) (by simp)
        have c1 := hc1 0 (by simp)
        rw [Nat.add_zero] at c1
        obtain rfl := HR1.out
        clear hc1 g1 HR1 hI1
        simp only [List.length_singleton, List.getElem_cons_zero, onlyL_one] at *
        by_cases g2 : l2.length = 1
        · obtain ⟨y2, rfl⟩ := List.length_eq_one_iff.1 g2
          obtain ⟨b2, o2, rfl, hc2⟩ := hI2.at (k := 0) (by simp)
          have c2 := hc2 0 (by simp)
          rw [Nat.add_zero] at c2
          obtain rfl := HR2.out
          clear hc2 g2 HR2 hI2
          simp only [List.length_singleton, List.getElem_cons_zero, onlyL_one] at *
          go_wp2_with fail
          with_reducible refine (alive_any wc).mono ?_
          rintro e W9 ⟨rfl, hb9⟩
          have hb10 := hbc.trans (hb9.mono hbc.size)
          go_wp2_with fail
          go_ret
          exact ⟨rfl, hb10⟩
        · have qn2 : ((l2.length : Int) != 1) = true := by simp; omega
          clear HR2 hI2
          go_wp2_with fail
          with_reducible refine (alive_any wc).mono ?_
          rintro e W9 ⟨rfl, hb9⟩
          have hb10 := hbc.trans (hb9.mono hbc.size)
          go_wp2_with fail
          go_ret
          exact ⟨rfl, hb10⟩
      · have qn1 : ((l1.length : Int) != 1) = true := by simp; omega
        clear HR1 hI1
        by_cases g2 : l2.length = 1
        · obtain ⟨y2, rfl⟩ := List.length_eq_one_iff.1 g2
          obtain ⟨b2, o2, rfl, hc2⟩ := hI2.at (k := 0) (by simp)
          have c2 := hc2 0 (by simp)
          rw [Nat.add_zero] at c2
          obtain rfl := HR2.out
          clear hc2 g2 HR2 hI2
          simp only [List.length_singleton, List.getElem_cons_zero, onlyL_one] at *
          go_wp2_with fail
          with_reducible refine (alive_any wc).mono ?_
          rintro e W9 ⟨rfl, hb9⟩
          have hb10 := hbc.trans (hb9.mono hbc.size)
          go_wp2_with fail
          go_ret
          exact ⟨rfl, hb10⟩
        · have qn2 : ((l2.length : Int) != 1) = true := by simp; omega
          clear HR2 hI2
          go_wp2_with fail
          with_reducible refine (alive_any wc).mono ?_
          rintro e W9 ⟨rfl, hb9⟩
          have hb10 := hbc.trans (hb9.mono hbc.size)
          go_wp2_with fail
          go_ret
          exact ⟨rfl, hb10⟩

end Go.Proofs.Ytpamkbbmbeeheaa
