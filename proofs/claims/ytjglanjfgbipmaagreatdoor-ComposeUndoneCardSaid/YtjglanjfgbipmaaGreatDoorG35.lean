/- Texts that are merged into one file: LawU. -/
import Derived.Test.YtjglanjfgbipmaaGreatDoorG26
import Derived.Test.YtjglanjfgbipmaaGreatDoorG29
import Derived.Test.YtjglanjfgbipmaaGreatDoorG34
/- The walk of the law ComposeUndone. Written by gen_lawd.py. -/
namespace Go.Proofs.YtjglanjfgbipmaaGreatDoor
open Go.RowKit Go.Maps Go.WideMaps

theorem usN_us2 (x : Nrm) : usN (usN x) = usN x := by
  unfold usN
  by_cases h : nErr x = 0
  · rw [if_pos h, if_pos h]
  · rw [if_neg h]
    split <;> rfl

set_option maxRecDepth 100000 in
set_option maxHeartbeats 25600000 in
theorem ComposeUndone_any (A0 : Option Addr) (k0 : Nat) (A1 : Option Addr) (k1 : Nat) (A2 : Option Addr) (k2 : Nat) (x : Nrm) (A : Option Addr) (n a : Nat) (t : List Int) (w : World) (hN : NrmAt w A0 x.cls.length A1 x.dec.length A2 x.exc.length x) (hl : NrmLn x) (hA : Ints w A t) (hn : t.length = n) (hna : n ≤ a) (_haz : a ≤ 9223372036854775807) (hok : ∀ c ∈ t, iok c) (hL : Laid w) :
    Calls Tryz.prog 5 #[.agg #[.slice A0 x.cls.length k0, .slice A1 x.dec.length k1, .slice A2 x.exc.length k2], .slice A n a] w (RetTrue w) := by
  subst hn
  have HOK := Lib.hid hok
  clear hok
  have B0 : Below w.heap.size w (w.alloc (.cells #[.slice A0 x.cls.length k0, .slice A1 x.dec.length k1, .slice A2 x.exc.length k2] 28)) := (Below.refl _ _).alloc (Nat.le_refl _) _
  have X0 : Box (w.alloc (.cells #[.slice A0 x.cls.length k0, .slice A1 x.dec.length k1, .slice A2 x.exc.length k2] 28)) w.heap.size 28 [.slice A0 x.cls.length k0, .slice A1 x.dec.length k1, .slice A2 x.exc.length k2] := Box.new w 28 [.slice A0 x.cls.length k0, .slice A1 x.dec.length k1, .slice A2 x.exc.length k2] rfl
  have W0E : ∃ W0, (w.alloc (.cells #[.slice A0 x.cls.length k0, .slice A1 x.dec.length k1, .slice A2 x.exc.length k2] 28)) = W0 := ⟨_, rfl⟩
  have CA := Lib.hid (fun W (hb : Below w.heap.size w W) => hN.below hb)
  have HLd := Lib.hid (fun W (hb : Below w.heap.size w W) => hL.below hb)
  have HL := Lib.hid hl
  have SZ := Lib.hid (smallN_sz (x := x))
  have HA := Lib.hid (fun W (hb : Below w.heap.size w W) => hA.below hb)
  clear hN hL hl hA
  go_enter Tryz.func5, Tryz.ntmps5
  go_wp2_with fail
  obtain ⟨W0, hW0⟩ := W0E
  try rw [hW0] at B0 X0 ⊢
  clear hW0
  have KM := Lib.hid (fun W (hb' : Below W0.heap.size W0 W) => smallN_any A0 _ k0 A1 _ k1 A2 _ k2 x W (CA.out W (B0.trans (hb'.mono B0.size))) HL.out.z0 HL.out.z1 HL.out.z2 HL.out.ze)
  have KA := Lib.hid (fun W (hb' : Below W0.heap.size W0 W) => awake_any W (HLd.out W (B0.trans (hb'.mono B0.size))))
  with_reducible refine (KM.out W0 (Below.refl _ _)).mono ?_
  rintro e W1 ⟨rfl, hb1⟩
  cases hs : smallN x with
  | false =>
    go_wp2_with fail
    with_reducible refine (KA.out W1 hb1).mono ?_
    rintro e W9 ⟨rfl, hb9⟩
    have hbn := B0.trans ((hb1).trans (hb9.mono (hb1).size) |>.mono B0.size)
    go_wp2_with fail
    go_ret
    exact ⟨rfl, hbn⟩
  | true =>
    have hz := SZ.out hs
    by_cases h30 : 30 < t.length
    · have d30 : decide ((30 : Int) < (t.length : Int)) = true := by simp; omega
      go_wp2_with fail
      with_reducible refine (KA.out W1 hb1).mono ?_
      rintro e W9 ⟨rfl, hb9⟩
      have hbn := B0.trans ((hb1).trans (hb9.mono (hb1).size) |>.mono B0.size)
      go_wp2_with fail
      go_ret
      exact ⟨rfl, hbn⟩
    · have d30 : decide ((30 : Int) < (t.length : Int)) = false := by simp; omega
      have hzu := hz.us
      have hny := usN_ok x
      have huu := usN_us2 x
      have g0 := (X0.below hb1 X0.lt).cell (i := 0) rfl
      have g1 := (X0.below hb1 X0.lt).cell (i := 1) rfl
      have g2 := (X0.below hb1 X0.lt).cell (i := 2) rfl
      have KC := Lib.hid (refCounted_eq A0 _ k0 A1 _ k1 A2 _ k2 x W1 (CA.out W1 (B0.trans (hb1.mono B0.size))) hz)
      obtain ⟨B0', c0, B1', c1, B2', c2, hv, hNW⟩ := usV_at (CA.out w (Below.refl _ _)) k0 k1 k2
      rw [hv] at KC
      have HNW := Lib.hid hNW
      clear hv hNW SZ hs hz
      generalize usN x = y at *
      have TC := Lib.hid (fun D n1 d1 l W (hb : Below w.heap.size w W) (hD : Ints W D l) (hn : l.length = n1) (hz1 : n1 ≤ 1048576) (hok : ∀ c ∈ l, iok c) => cpText_any B0' _ c0 B1' _ c1 B2' _ c2 y D n1 d1 l W (HNW.out W hb) hzu (HLd.out W hb) hD hn hz1 hok)
      have DC := Lib.hid (fun D n1 d1 l W (hb : Below w.heap.size w W) (hD : Ints W D l) (hn : l.length = n1) (hz1 : n1 ≤ 16384) => refDText_any B0' _ c0 B1' _ c1 B2' _ c2 y D n1 d1 l false W (HNW.out W hb) hzu hD hn hz1)
      rw [huu] at TC DC
      have FF := Lib.hid (fl_facts hny false HOK.out)
      have UND := Lib.hid (fun l (h1 : ∀ c ∈ l, dcM y.dec false c = [c]) (h2 : Can.Ok (clz y.cls) l) => show Can.srt (clz y.cls) (flM y false (Cps.text (clz y.cls) (prN y) l)) = l from Cps.undone (fun x' => (clz_range y.cls x').1) (fun L c p hp => prN_dc hny hp) h1 h2)
      have TLN := Lib.hid (fun l => Cps.text_len (cl := clz y.cls) (pr := prN y) l)
      have hl0 := flM_len hny false t
      have hl1 := Can.srt_len (cl := clz y.cls) (flM y false t)
      clear huu hny hzu
      have DCT := Lib.hid (fun W (hb : Below w.heap.size w W) => DC.out A t.length a t W hb (HA.out W hb) rfl (by omega))
      generalize hTZ : Can.srt (clz y.cls) (flM y false t) = tz at *
      generalize flM y false t = fl at *
      clear hTZ
      go_wp2_with fail
      with_reducible refine KC.out.mono ?_
      rintro e W2 ⟨rfl, hb2⟩
      have hX1 := X0.below (hb1.trans (hb2.mono hb1.size)) X0.lt
      have hbw2 := B0.trans ((hb1.trans (hb2.mono hb1.size)).mono B0.size)
      clear g0 g1 g2
      have d0 := hX1.cell (i := 0) rfl
      have d1 := hX1.cell (i := 1) rfl
      have d2 := hX1.cell (i := 2) rfl
      have f0 := hX1.free 0
      have f1 := hX1.free 1
      have f2 := hX1.free 2
      have hX2 := ((hX1.set 0 (.slice B0' y.cls.length c0)).set 1 (.slice B1' y.dec.length c1)).set 2 (.slice B2' y.exc.length c2)
      have hb4 : Below w.heap.size w (((W2.setCell ⟨w.heap.size, 0, none⟩ (.slice B0' y.cls.length c0)).setCell ⟨w.heap.size, 1, none⟩ (.slice B1' y.dec.length c1)).setCell ⟨w.heap.size, 2, none⟩ (.slice B2' y.exc.length c2)) := ((hbw2.setCell (by simp) _).setCell (by simp) _).setCell (by simp) _
      have W3E : ∃ W3, (((W2.setCell ⟨w.heap.size, 0, none⟩ (.slice B0' y.cls.length c0)).setCell ⟨w.heap.size, 1, none⟩ (.slice B1' y.dec.length c1)).setCell ⟨w.heap.size, 2, none⟩ (.slice B2' y.exc.length c2)) = W3 := ⟨_, rfl⟩
      go_wp2_with fail
      obtain ⟨W3, hW3⟩ := W3E
      rw [hW3] at hX2 hb4 ⊢
      clear hW3 d0 d1 d2 f0 f1 f2 hX1 hbw2 hb1 hb2 KC X0 KM
      have hxl := hX2.lt
      have X3 := Lib.hid hX2
      clear hX2
      have AW := Lib.hid (fun W (hb : Below W3.heap.size W3 W) => awake_any W (HLd.out W (hb4.trans (hb.mono hb4.size))))
      have p0 := X3.out.cell (i := 0) rfl
      have p1 := X3.out.cell (i := 1) rfl
      have p2 := X3.out.cell (i := 2) rfl
      go_wp2_with fail
      with_reducible refine (DCT.out W3 hb4).mono ?_
      rintro e W4 ⟨E1, e1, rfl, he1, hE1, hb5⟩
      have HE1 := Lib.hid hE1
      clear p0 p1 p2 hE1
      by_cases h2k : 2000 < tz.length
      · exfalso
        omega
      · have d2k : decide ((2000 : Int) < (tz.length : Int)) = false := by rw [decide_eq_false_iff_not]; omega
        have hlz := TLN.out tz
        have HUN := Lib.hid (UND.out tz (fun c hc => (FF.out.1 c hc).2) FF.out.2)
        have HKZ := Lib.hid (fun c hc => (FF.out.1 c hc).1)
        have p0 := (X3.out.below hb5 hxl).cell (i := 0) rfl
        have p1 := (X3.out.below hb5 hxl).cell (i := 1) rfl
        have p2 := (X3.out.below hb5 hxl).cell (i := 2) rfl
        have SH := Lib.hid (fun W' (hb' : Below W4.heap.size W4 W') => show W'.cell? ⟨w.heap.size, 0, none⟩ = some (.slice B0' y.cls.length c0) ∧ W'.cell? ⟨w.heap.size, 1, none⟩ = some (.slice B1' y.dec.length c1) ∧ W'.cell? ⟨w.heap.size, 2, none⟩ = some (.slice B2' y.exc.length c2) ∧ Below W3.heap.size W3 W' from ⟨(hb'.cell (World.block_lt_of_cell? _ _ p0)).trans p0, (hb'.cell (World.block_lt_of_cell? _ _ p1)).trans p1, (hb'.cell (World.block_lt_of_cell? _ _ p2)).trans p2, hb5.trans (hb'.mono hb5.size)⟩)
        have KT := Lib.hid (fun W (hb' : Below W4.heap.size W4 W) => (TC.out E1 tz.length e1 tz W (hb4.trans ((hb5.trans (hb'.mono hb5.size)).mono hb4.size)) (HE1.out.below hb') rfl (by omega) HKZ.out).mono (R' := fun e W' => ∃ v, e = .returned v ∧ (W'.cell? ⟨w.heap.size, 0, none⟩ = some (.slice B0' y.cls.length c0) ∧ W'.cell? ⟨w.heap.size, 1, none⟩ = some (.slice B1' y.dec.length c1) ∧ W'.cell? ⟨w.heap.size, 2, none⟩ = some (.slice B2' y.exc.length c2) ∧ Below W4.heap.size W4 W') ∧ (∃ E d, v = .slice E (Cps.text (clz y.cls) (prN y) tz).length d ∧ Ints W' E (Cps.text (clz y.cls) (prN y) tz))) (fun e W' ⟨E, d, he, g1, g2, g3⟩ => ⟨_, he, ⟨(SH.out W' (hb'.trans (g3.mono hb'.size))).1, (SH.out W' (hb'.trans (g3.mono hb'.size))).2.1, (SH.out W' (hb'.trans (g3.mono hb'.size))).2.2.1, hb'.trans (g3.mono hb'.size)⟩, E, d, rfl, g2⟩))
        have KD := Lib.hid (fun E d W (hb' : Below W4.heap.size W4 W) (hE : Ints W E (Cps.text (clz y.cls) (prN y) tz)) => (DC.out E _ d _ W (hb4.trans ((hb5.trans (hb'.mono hb5.size)).mono hb4.size)) hE rfl (by omega)).mono (R' := fun e W' => ∃ v, e = .returned v ∧ (W'.cell? ⟨w.heap.size, 0, none⟩ = some (.slice B0' y.cls.length c0) ∧ W'.cell? ⟨w.heap.size, 1, none⟩ = some (.slice B1' y.dec.length c1) ∧ W'.cell? ⟨w.heap.size, 2, none⟩ = some (.slice B2' y.exc.length c2) ∧ Below W4.heap.size W4 W') ∧ (∃ E d, v = .slice E tz.length d ∧ Ints W' E tz)) (fun e W' ⟨E, d, he, g1, g2, g3⟩ => by
          rw [HUN.out] at he g2
          exact ⟨_, he, ⟨(SH.out W' (hb'.trans (g3.mono hb'.size))).1, (SH.out W' (hb'.trans (g3.mono hb'.size))).2.1, (SH.out W' (hb'.trans (g3.mono hb'.size))).2.2.1, hb'.trans (g3.mono hb'.size)⟩, E, d, rfl, g2⟩))
        have KEQ := Lib.hid (fun E d W (hb' : Below W4.heap.size W4 W) (hE : Ints W E tz) => (Equal_any E E1 tz.length tz.length d e1 tz tz W hE (HE1.out.below hb') rfl rfl (by omega) (by omega)).mono (R' := fun e W' => e = .returned (.bool true) ∧ (W'.cell? ⟨w.heap.size, 0, none⟩ = some (.slice B0' y.cls.length c0) ∧ W'.cell? ⟨w.heap.size, 1, none⟩ = some (.slice B1' y.dec.length c1) ∧ W'.cell? ⟨w.heap.size, 2, none⟩ = some (.slice B2' y.exc.length c2) ∧ Below W4.heap.size W4 W')) (fun e W' hh => ⟨by rw [hh.1, decide_eq_true rfl], ⟨(SH.out W' (hb'.trans (hh.2.below.mono hb'.size))).1, (SH.out W' (hb'.trans (hh.2.below.mono hb'.size))).2.1, (SH.out W' (hb'.trans (hh.2.below.mono hb'.size))).2.2.1, hb'.trans (hh.2.below.mono hb'.size)⟩⟩))
        have AWH := Lib.hid (fun W (hb' : Below W4.heap.size W4 W) => (AW.out W (hb5.trans (hb'.mono hb5.size))).mono (R' := fun e W' => e = .returned (.bool true) ∧ (W'.cell? ⟨w.heap.size, 0, none⟩ = some (.slice B0' y.cls.length c0) ∧ W'.cell? ⟨w.heap.size, 1, none⟩ = some (.slice B1' y.dec.length c1) ∧ W'.cell? ⟨w.heap.size, 2, none⟩ = some (.slice B2' y.exc.length c2) ∧ Below W4.heap.size W4 W')) (fun e W' hh => ⟨hh.1, ⟨(SH.out W' (hb'.trans (hh.2.mono hb'.size))).1, (SH.out W' (hb'.trans (hh.2.mono hb'.size))).2.1, (SH.out W' (hb'.trans (hh.2.mono hb'.size))).2.2.1, hb'.trans (hh.2.mono hb'.size)⟩⟩))
        have SK := Lib.hid (fun W' (hb' : Below W4.heap.size W4 W') => show W'.cell? ⟨w.heap.size, 0, none⟩ = some (.slice B0' y.cls.length c0) ∧ W'.cell? ⟨w.heap.size, 1, none⟩ = some (.slice B1' y.dec.length c1) ∧ W'.cell? ⟨w.heap.size, 2, none⟩ = some (.slice B2' y.exc.length c2) ∧ Below W4.heap.size W4 W' from ⟨(SH.out W' hb').1, (SH.out W' hb').2.1, (SH.out W' hb').2.2.1, hb'⟩)
        clear p0 p1 p2 SH TC DC UND HE1 HUN HKZ FF TLN
        generalize Cps.text (clz y.cls) (prN y) tz = zz at *
        go_wp2_with fail
        refine wp_region_held_drew (S := fun W' => W'.cell? ⟨w.heap.size, 0, none⟩ = some (.slice B0' y.cls.length c0) ∧ W'.cell? ⟨w.heap.size, 1, none⟩ = some (.slice B1' y.dec.length c1) ∧ W'.cell? ⟨w.heap.size, 2, none⟩ = some (.slice B2' y.exc.length c2) ∧ Below W4.heap.size W4 W') (by kernel_rfl) (SK.out _ ((Below.refl _ _).drew)) (fun hHeld => ?_)
        refine anyH_take (i := 0) (v := ?_) (some 24) rfl rfl (by kernel_rfl) (by kernel_rfl) (by kernel_rfl) (fun _ _ _ h => h) (by rfl) (by assumption) ?_ ?_
        rotate_left
        · intro w hSw; (try dsimp only at hSw); go_split_ands; go_simp; try (with_reducible rfl)
        try simp only [Act.put, List.setIfInBounds_toArray, List.set_cons_zero, List.set_cons_succ]
        refine anyH_take (i := 1) (v := ?_) (some 25) rfl rfl (by kernel_rfl) (by kernel_rfl) (by kernel_rfl) (fun _ _ _ h => h) (by rfl) (by assumption) ?_ ?_
        rotate_left
        · intro w hSw; (try dsimp only at hSw); go_split_ands; go_simp; try (with_reducible rfl)
        try simp only [Act.put, List.setIfInBounds_toArray, List.set_cons_zero, List.set_cons_succ]
        refine anyH_take (i := 2) (v := ?_) (some 26) rfl rfl (by kernel_rfl) (by kernel_rfl) (by kernel_rfl) (fun _ _ _ h => h) (by rfl) (by assumption) ?_ ?_
        rotate_left
        · intro w hSw; (try dsimp only at hSw); go_split_ands; go_simp; try (with_reducible rfl)
        try simp only [Act.put, List.setIfInBounds_toArray, List.set_cons_zero, List.set_cons_succ]
        refine anyH_take (i := 5) (v := ?_) (some 29) rfl rfl (by kernel_rfl) (by kernel_rfl) (by kernel_rfl) (fun _ _ _ h => h) (by rfl) (by assumption) ?_ ?_
        rotate_left
        · intro w hSw; (try dsimp only at hSw); go_split_ands; go_simp; try (with_reducible rfl)
        try simp only [Act.put, List.setIfInBounds_toArray, List.set_cons_zero, List.set_cons_succ]
        refine anyH_callE (i := 3) (some 27) rfl rfl (by kernel_rfl) (by rfl) (by go_simp) (KT.out _ hHeld.2.2.2) ?_
        rintro _ W5 hS6 ⟨E2, e2, rfl, hE2⟩
        clear hHeld
        have hHeld := hS6
        clear hS6
        try simp only [Act.put, List.setIfInBounds_toArray, List.set_cons_zero, List.set_cons_succ]
        refine anyH_callE (i := 4) (some 28) rfl rfl (by kernel_rfl) (by rfl) (by go_simp) (KD.out E2 e2 _ hHeld.2.2.2 hE2) ?_
        rintro _ W6 hS6 ⟨E3, e3, rfl, hE3⟩
        clear hHeld
        have hHeld := hS6
        clear hS6
        try simp only [Act.put, List.setIfInBounds_toArray, List.set_cons_zero, List.set_cons_succ]
        refine anyH_call (i := 6) (some 30) rfl rfl (by kernel_rfl) (by rfl) (by go_simp) (KEQ.out E3 e3 _ hHeld.2.2.2 hE3) (fun W7 hS6 => ?_)
        clear hHeld
        have hHeld := hS6
        clear hS6
        try simp only [Act.put, List.setIfInBounds_toArray, List.set_cons_zero, List.set_cons_succ]
        refine anyH_take (i := 7) (v := ?_) (some 31) rfl rfl (by kernel_rfl) (by kernel_rfl) (by kernel_rfl) (fun _ _ _ h => h) (by rfl) (by assumption) ?_ ?_
        rotate_left
        · intro w hSw; (try dsimp only at hSw); go_split_ands; go_simp; try (with_reducible rfl)
        try simp only [Act.put, List.setIfInBounds_toArray, List.set_cons_zero, List.set_cons_succ]
        refine anyH_call (i := 8) (some 32) rfl rfl (by kernel_rfl) (by rfl) (by go_simp) (AWH.out _ hHeld.2.2.2) (fun W8 hS6 => ?_)
        clear hHeld
        have hHeld := hS6
        clear hS6
        try simp only [Act.put, List.setIfInBounds_toArray, List.set_cons_zero, List.set_cons_succ]
        refine anyH_take (i := 9) (v := ?_) (some 33) rfl rfl (by kernel_rfl) (by kernel_rfl) (by kernel_rfl) (fun _ _ _ h => h) (by rfl) (by assumption) ?_ ?_
        rotate_left
        · intro w hSw; (try dsimp only at hSw); go_split_ands; go_simp; try (with_reducible rfl)
        try simp only [Act.put, List.setIfInBounds_toArray, List.set_cons_zero, List.set_cons_succ]
        refine anyH_take (i := 10) (v := ?_) (some 4) rfl rfl (by kernel_rfl) (by kernel_rfl) (by kernel_rfl) (fun _ _ _ h => h) (by rfl) (by assumption) ?_ ?_
        rotate_left
        · intro w hSw; (try dsimp only at hSw); go_split_ands; go_simp; try (with_reducible rfl)
        try simp only [Act.put, List.setIfInBounds_toArray, List.set_cons_zero, List.set_cons_succ]
        refine wpAnyH_done (by kernel_rfl) ?_ _
        have hbn := hb4.trans ((hb5.trans (hHeld.2.2.2.mono hb5.size)).mono hb4.size)
        clear hHeld KT KD KEQ AWH SK
        go_wp2_with fail
        go_ret
        exact ⟨rfl, hbn⟩

end Go.Proofs.YtjglanjfgbipmaaGreatDoor
