/- The walk of the law GroupsKeeps. Written by gen_keeps.py. -/
import Derived.Test.YtnfnoefjgiojoaaLawsA
import Derived.Test.YtnfnoefjgiojoaaKeepPlain
namespace Go.Proofs.Ytnfnoefjgiojoaa
open Go.RowKit Go.Maps Go.WideMaps

/-- the value of a collation, names and two weights -/
def twoV (A : Option Addr) (n a : Nat) (B : Option Addr) (m b : Nat) (c : Col) (N : Option Addr) (kn kc : Nat) (x y : Int) : Value := .agg #[.slice A n a, .slice B m b, .int .i64 c.base, .int .i64 c.second, .int .i64 c.third, .slice N kn kc, .int .i64 x, .int .i64 y]

set_option maxRecDepth 100000 in
set_option maxHeartbeats 3200000 in
theorem GroupsKeeps_any (A : Option Addr) (n a : Nat) (B : Option Addr) (m b : Nat) (c : Col) (N : Option Addr) (kn kc : Nat) (names : List ByteArray) (x y : Int) (w : World) (h : ColAt w A n B m c)
    (hN : Strs w N names) (hkn : names.length = kn) (hns : ∀ s ∈ names, s.size ≤ 9223372036854775807) :
    Calls Try.prog 6 #[twoV A n a B m b c N kn kc x y] w (RetT w) := by
  have B0 : Below w.heap.size w (w.alloc (.cells #[.slice A n a, .slice B m b, .int .i64 c.base, .int .i64 c.second, .int .i64 c.third, .slice N kn kc, .int .i64 x, .int .i64 y] 38)) := (Below.refl _ _).alloc (Nat.le_refl _) _
  have k0 : (w.alloc (.cells #[.slice A n a, .slice B m b, .int .i64 c.base, .int .i64 c.second, .int .i64 c.third, .slice N kn kc, .int .i64 x, .int .i64 y] 38)).cell? ⟨w.heap.size, 0, none⟩ = some (.slice A n a) := by simp
  have k1 : (w.alloc (.cells #[.slice A n a, .slice B m b, .int .i64 c.base, .int .i64 c.second, .int .i64 c.third, .slice N kn kc, .int .i64 x, .int .i64 y] 38)).cell? ⟨w.heap.size, 1, none⟩ = some (.slice B m b) := by simp
  have k2 : (w.alloc (.cells #[.slice A n a, .slice B m b, .int .i64 c.base, .int .i64 c.second, .int .i64 c.third, .slice N kn kc, .int .i64 x, .int .i64 y] 38)).cell? ⟨w.heap.size, 2, none⟩ = some (.int .i64 c.base) := by simp
  have k3 : (w.alloc (.cells #[.slice A n a, .slice B m b, .int .i64 c.base, .int .i64 c.second, .int .i64 c.third, .slice N kn kc, .int .i64 x, .int .i64 y] 38)).cell? ⟨w.heap.size, 3, none⟩ = some (.int .i64 c.second) := by simp
  have k4 : (w.alloc (.cells #[.slice A n a, .slice B m b, .int .i64 c.base, .int .i64 c.second, .int .i64 c.third, .slice N kn kc, .int .i64 x, .int .i64 y] 38)).cell? ⟨w.heap.size, 4, none⟩ = some (.int .i64 c.third) := by simp
  have k5 : (w.alloc (.cells #[.slice A n a, .slice B m b, .int .i64 c.base, .int .i64 c.second, .int .i64 c.third, .slice N kn kc, .int .i64 x, .int .i64 y] 38)).cell? ⟨w.heap.size, 5, none⟩ = some (.slice N kn kc) := by simp
  have k6 : (w.alloc (.cells #[.slice A n a, .slice B m b, .int .i64 c.base, .int .i64 c.second, .int .i64 c.third, .slice N kn kc, .int .i64 x, .int .i64 y] 38)).cell? ⟨w.heap.size, 6, none⟩ = some (.int .i64 x) := by simp
  have k7 : (w.alloc (.cells #[.slice A n a, .slice B m b, .int .i64 c.base, .int .i64 c.second, .int .i64 c.third, .slice N kn kc, .int .i64 x, .int .i64 y] 38)).cell? ⟨w.heap.size, 7, none⟩ = some (.int .i64 y) := by simp
  have s0 : (w.alloc (.cells #[.slice A n a, .slice B m b, .int .i64 c.base, .int .i64 c.second, .int .i64 c.third, .slice N kn kc, .int .i64 x, .int .i64 y] 38)).heap.size = w.heap.size + 1 := by simp
  have W0E : ∃ W0, w.alloc (.cells #[.slice A n a, .slice B m b, .int .i64 c.base, .int .i64 c.second, .int .i64 c.third, .slice N kn kc, .int .i64 x, .int .i64 y] 38) = W0 := ⟨_, rfl⟩
  have FC := Lib.hid (fun W (hb : Below w.heap.size w W) => few_any A n a B m b c N kn kc names W (h.below hb) hkn)
  have OC := Lib.hid (fun W (hb : Below w.heap.size w W) (hf : fewC c names = true) => Order_any A n a B m b c N kn kc names W (h.below hb) (few_sz hf).1 (by have := (few_sz hf).2.1; have := h.hm; omega) (hN.below hb) hkn (by have := (few_sz hf).2.2; omega) hns)
  have MC := Lib.hid (fun z W (hb : Below w.heap.size w W) (hf : fewC c names = true) => Move_any A n a B m b c N kn kc names z W (h.below hb) (few_sz hf).1 (by have := (few_sz hf).2.1; have := h.hm; omega) (hN.below hb) hkn (by have := (few_sz hf).2.2; omega) hns)
  have HGR := Lib.hid h.grps
  have HM := Lib.hid h.hm
  have HSM := Lib.hid (fun (hf : fewC c names = true) => (few_sz hf).2)
  have HK := Lib.hid (kpF (c := c) (names := names))
  have M1 := Lib.hid (fun z (he : ordErr c names = 0) => show mov c names z = movF c.grps (ordG c.grps names) z by unfold mov; rw [if_pos he])
  have M0 := Lib.hid (fun z (he : ¬ ordErr c names = 0) => show mov c names z = z by unfold mov; rw [if_neg he])
  have OUT1 := Lib.hid (fun (h : ordErr c names = 0) => show ordOut c names = ordG c.grps names by unfold ordOut; rw [if_pos h])
  unfold colV at *
  unfold twoV
  clear h hN hns
  go_enter Try.func6, Try.ntmps6
  go_wp2_with fail
  obtain ⟨W0, hW0⟩ := W0E
  rw [hW0] at B0 s0 k0 k1 k2 k3 k4 k5 k6 k7 ⊢
  clear hW0
  have hx0 : w.heap.size < W0.heap.size := by omega
  have KEEP := Lib.hid (show ∀ W', Below W0.heap.size W0 W' → W'.cell? ⟨w.heap.size, 0, none⟩ = some (.slice A n a) ∧ W'.cell? ⟨w.heap.size, 1, none⟩ = some (.slice B m b) ∧ W'.cell? ⟨w.heap.size, 2, none⟩ = some (.int .i64 c.base) ∧ W'.cell? ⟨w.heap.size, 3, none⟩ = some (.int .i64 c.second) ∧ W'.cell? ⟨w.heap.size, 4, none⟩ = some (.int .i64 c.third) ∧ W'.cell? ⟨w.heap.size, 5, none⟩ = some (.slice N kn kc) ∧ W'.cell? ⟨w.heap.size, 6, none⟩ = some (.int .i64 x) ∧ W'.cell? ⟨w.heap.size, 7, none⟩ = some (.int .i64 y) ∧ Below W0.heap.size W0 W' from fun W' hb => ⟨(hb.cell (p := ⟨w.heap.size, 0, none⟩) hx0).trans k0, (hb.cell (p := ⟨w.heap.size, 1, none⟩) hx0).trans k1, (hb.cell (p := ⟨w.heap.size, 2, none⟩) hx0).trans k2, (hb.cell (p := ⟨w.heap.size, 3, none⟩) hx0).trans k3, (hb.cell (p := ⟨w.heap.size, 4, none⟩) hx0).trans k4, (hb.cell (p := ⟨w.heap.size, 5, none⟩) hx0).trans k5, (hb.cell (p := ⟨w.heap.size, 6, none⟩) hx0).trans k6, (hb.cell (p := ⟨w.heap.size, 7, none⟩) hx0).trans k7, hb⟩)
  refine (FC.out W0 B0).mono ?_
  rintro e W1 ⟨rfl, hb1⟩
  have hb2 := B0.trans (hb1.mono B0.size)
  have hx1 : w.heap.size < W1.heap.size := by have := hb1.size; omega
  clear k0 k1 k2 k3 k4 k5 k6 k7 FC s0
  cases hf : fewC c names with
  | false =>
    clear OC MC HK HSM M1 M0 OUT1 KEEP
    go_wp2_with fail
    refine (alive_any W1).mono ?_
    rintro e W2 ⟨rfl, hb3⟩
    go_wp2_with fail
    go_ret
    exact ⟨rfl, hb2.trans (hb3.mono hb2.size)⟩
  | true =>
    have OC := Lib.hid (fun W hb => OC.out W hb hf)
    obtain ⟨sm1, sm2⟩ := HSM.out hf
    obtain ⟨f0, f1, f2, f3, f4, f5, f6, f7, _⟩ := KEEP.out W1 hb1
    go_wp2_with fail
    refine (OC.out W1 hb2).mono ?_
    rintro e W2 ⟨A2, c2, rfl, hc2, hG2, hb3⟩
    clear f0 f1 f2 f3 f4 f5 f6 f7 OC
    have hb3' := hb1.trans (hb3.mono hb1.size)
    obtain ⟨f0, f1, f2, f3, f4, f5, f6, f7, _⟩ := KEEP.out W2 hb3'
    have hx2 : w.heap.size < W2.heap.size := by have := hb3.size; omega
    have HG2 := Lib.hid hG2
    have HB3 := Lib.hid hb3'
    have B2 := B0.trans (hb3'.mono B0.size)
    have KEEP2 := Lib.hid (show ∀ W', Below W2.heap.size W2 W' → W'.cell? ⟨w.heap.size, 0, none⟩ = some (.slice A n a) ∧ W'.cell? ⟨w.heap.size, 1, none⟩ = some (.slice B m b) ∧ W'.cell? ⟨w.heap.size, 2, none⟩ = some (.int .i64 c.base) ∧ W'.cell? ⟨w.heap.size, 3, none⟩ = some (.int .i64 c.second) ∧ W'.cell? ⟨w.heap.size, 4, none⟩ = some (.int .i64 c.third) ∧ W'.cell? ⟨w.heap.size, 5, none⟩ = some (.slice N kn kc) ∧ W'.cell? ⟨w.heap.size, 6, none⟩ = some (.int .i64 x) ∧ W'.cell? ⟨w.heap.size, 7, none⟩ = some (.int .i64 y) ∧ Below W2.heap.size W2 W' from fun W' hb => ⟨(hb.cell (p := ⟨w.heap.size, 0, none⟩) hx2).trans f0, (hb.cell (p := ⟨w.heap.size, 1, none⟩) hx2).trans f1, (hb.cell (p := ⟨w.heap.size, 2, none⟩) hx2).trans f2, (hb.cell (p := ⟨w.heap.size, 3, none⟩) hx2).trans f3, (hb.cell (p := ⟨w.heap.size, 4, none⟩) hx2).trans f4, (hb.cell (p := ⟨w.heap.size, 5, none⟩) hx2).trans f5, (hb.cell (p := ⟨w.heap.size, 6, none⟩) hx2).trans f6, (hb.cell (p := ⟨w.heap.size, 7, none⟩) hx2).trans f7, hb⟩)
    have DX := Lib.hid (fun W' (hb : Below W2.heap.size W2 W') => (MC.out x W' (B2.trans (hb.mono B2.size)) hf).mono (R' := RetKeep (.int .i64 (mov c names x)) (fun W' => W'.cell? ⟨w.heap.size, 0, none⟩ = some (.slice A n a) ∧ W'.cell? ⟨w.heap.size, 1, none⟩ = some (.slice B m b) ∧ W'.cell? ⟨w.heap.size, 2, none⟩ = some (.int .i64 c.base) ∧ W'.cell? ⟨w.heap.size, 3, none⟩ = some (.int .i64 c.second) ∧ W'.cell? ⟨w.heap.size, 4, none⟩ = some (.int .i64 c.third) ∧ W'.cell? ⟨w.heap.size, 5, none⟩ = some (.slice N kn kc) ∧ W'.cell? ⟨w.heap.size, 6, none⟩ = some (.int .i64 x) ∧ W'.cell? ⟨w.heap.size, 7, none⟩ = some (.int .i64 y) ∧ Below W2.heap.size W2 W')) (fun e W'' ⟨he, hb'⟩ => ⟨he, KEEP2.out _ (hb.trans (hb'.mono hb.size))⟩))
    have DY := Lib.hid (fun W' (hb : Below W2.heap.size W2 W') => (MC.out y W' (B2.trans (hb.mono B2.size)) hf).mono (R' := RetKeep (.int .i64 (mov c names y)) (fun W' => W'.cell? ⟨w.heap.size, 0, none⟩ = some (.slice A n a) ∧ W'.cell? ⟨w.heap.size, 1, none⟩ = some (.slice B m b) ∧ W'.cell? ⟨w.heap.size, 2, none⟩ = some (.int .i64 c.base) ∧ W'.cell? ⟨w.heap.size, 3, none⟩ = some (.int .i64 c.second) ∧ W'.cell? ⟨w.heap.size, 4, none⟩ = some (.int .i64 c.third) ∧ W'.cell? ⟨w.heap.size, 5, none⟩ = some (.slice N kn kc) ∧ W'.cell? ⟨w.heap.size, 6, none⟩ = some (.int .i64 x) ∧ W'.cell? ⟨w.heap.size, 7, none⟩ = some (.int .i64 y) ∧ Below W2.heap.size W2 W')) (fun e W'' ⟨he, hb'⟩ => ⟨he, KEEP2.out _ (hb.trans (hb'.mono hb.size))⟩))
    clear MC hf hb2 hb3 hG2 hx1 HSM hb1 KEEP KEEP2 HB3 hb3' hx0
    by_cases he : ordErr c names = 0
    · have q1 : (ordErr c names != 0) = false := by simpa using he
      have HKR := Lib.hid ((HK.out he).kpR x y)
      have e1 := M1.out x he
      have e2 := M1.out y he
      rw [OUT1.out he] at HG2 hc2 ⊢
      have hgl : (ordG c.grps names).length ≤ 8 := by rw [(HK.out he).len]; exact sm1
      have hm := HM.out
      clear he HK OUT1 HM M1 M0
      rw [e1] at DX
      rw [e2] at DY
      generalize ordErr c names = er at *
      generalize hgs : c.grps = gs at *
      clear hgs
      subst hm
      generalize ordG gs names = og at *
      clear e1 e2
      generalize movF gs og x = mx at *
      generalize movF gs og y = my at *
      have HGL := Lib.hid hgl
      go_wp2_with fail
      have R2 : Below W2.heap.size W2 W2 := Below.refl _ _
      go_region_held3 (fun W' => W'.cell? ⟨w.heap.size, 0, none⟩ = some (.slice A n a) ∧ W'.cell? ⟨w.heap.size, 1, none⟩ = some (.slice B gs.length b) ∧ W'.cell? ⟨w.heap.size, 2, none⟩ = some (.int .i64 c.base) ∧ W'.cell? ⟨w.heap.size, 3, none⟩ = some (.int .i64 c.second) ∧ W'.cell? ⟨w.heap.size, 4, none⟩ = some (.int .i64 c.third) ∧ W'.cell? ⟨w.heap.size, 5, none⟩ = some (.slice N kn kc) ∧ W'.cell? ⟨w.heap.size, 6, none⟩ = some (.int .i64 x) ∧ W'.cell? ⟨w.heap.size, 7, none⟩ = some (.int .i64 y) ∧ Below W2.heap.size W2 W')
      (first | (go_split_ands; refine ⟨?_, ?_, ?_, ?_, ?_, ?_, ?_, ?_, ?_⟩ <;> first | assumption | exact Below.drew (by assumption) | go_keep))
        (first | (go_at_call 16; go_split_ands; (with_reducible refine (DX.out _ (by assumption)).mono ?_); rintro e w6 ⟨rfl, hS6⟩) | (go_at_call 16; go_split_ands; (with_reducible refine (DY.out _ (by assumption)).mono ?_); rintro e w6 ⟨rfl, hS6⟩))
      all_goals
        clear f0 f1 f2 f3 f4 f5 f6 f7 DX DY
        obtain ⟨f0, f1, f2, f3, f4, f5, f6, f7, hb6⟩ := hS6
        have hx6 : w.heap.size < w6.heap.size := by have := hb6.size; omega
        have BW := Lib.hid (B2.trans (hb6.mono B2.size))
        have q2 := HKR.out.q
        have CA := Lib.hid (fun j => quiet_left (grouped_any B gs.length b gs x (w6.drewN j) ((HGR.out.below BW.out).drewN j) rfl (by omega)))
        have CB := Lib.hid (fun j => quiet_left (grouped_any B gs.length b gs y (w6.drewN j) ((HGR.out.below BW.out).drewN j) rfl (by omega)))
        go_wp2_with fail
        go_quiet (first | (with_reducible exact CA.out _) | (with_reducible exact CB.out _))
        go_wp2_with fail
        refine (grouped_any A2 og.length c2 og mx _ ((HG2.out.below hb6).drewN _) rfl (by have := HGL.out; omega)).mono ?_
        rintro e wd ⟨rfl, hwd⟩
        have hqd : Below w6.heap.size w6 wd := by rw [← hwd]; exact below_of_drewN _ _
        have BD := Lib.hid (BW.out.trans (hqd.mono BW.out.size))
        have HGD := Lib.hid (HG2.out.below (hb6.trans (hqd.mono hb6.size)))
        have g1 := (hqd.cell (p := ⟨w.heap.size, 1, none⟩) hx6).trans f1
        have g6 := (hqd.cell (p := ⟨w.heap.size, 6, none⟩) hx6).trans f6
        have g7 := (hqd.cell (p := ⟨w.heap.size, 7, none⟩) hx6).trans f7
        have hx7 : w.heap.size < wd.heap.size := by have := hqd.size; omega
        have ML := HKR.out.m_lt
        have HGB := Lib.hid (HGR.out.below BD.out)
        clear f0 f1 f2 f3 f4 f5 f6 f7 CA CB hqd hwd q2 hx6 hb6 BW HGR HG2 R2 hx2
        by_cases hi0 : grpd gs x < 0
        · obtain rfl := HKR.out.out hi0
          have hm0 := HKR.out.sgn.1 hi0
          clear HKR
          generalize grpd gs mx = i at *
          generalize grpd gs y = k at *
          generalize grpd og mx = mm at *
          have r1 : decide ((og.length : Int) ≤ mm) = false := by simp; omega
          have r2 : decide (i < 0) = true := by simpa using hi0
          have r3 : decide (mm < 0) = true := by simpa using hm0
          have r4 : decide ((0 : Int) ≤ mm) = false := by simp; omega
          clear hi0 hm0 ML
          go_wp2_with fail
          go_quiet (fail)
          go_wp2_with fail
          refine (alive_any _).mono ?_
          rintro e W5 ⟨rfl, hb8⟩
          go_wp2_with fail
          go_ret
          exact ⟨rfl, (BD.out.trans ((below_of_drewN _ _).mono BD.out.size)).trans (hb8.mono BD.out.size)⟩
        · have hm0 : ¬ grpd og mx < 0 := fun g => hi0 (HKR.out.sgn.2 g)
          obtain ⟨i, mm, hi, hmm, e1, e2, e3⟩ := HKR.out.nm hm0
          have HD := Lib.hid (HKR.out.dist hi0)
          rw [e1] at HD ⊢
          rw [e2]
          clear hi0 hm0 ML HKR e1 e2
          generalize grpd gs y = k at *
          obtain ⟨b1, o1, rfl, hbl1, hcell1⟩ := HGB.out.at hi
          obtain ⟨c1, _, _⟩ := hcell1 i hi
          obtain ⟨b2, o2, rfl, hbl2, hcell2⟩ := HGD.out.at hmm
          obtain ⟨d1, _, _⟩ := hcell2 mm hmm
          rw [e3] at d1
          clear hcell1 hcell2 e3
          generalize gs[i].name = nm at *
          have r1 : decide (og.length ≤ mm) = false := by simp; omega
          have r5 : (i : Int) < (gs.length : Int) := by omega
          have r6 : (mm : Int) < (og.length : Int) := by omega
          by_cases hik : (i : Int) = k
          · obtain ⟨z1, z2, z3⟩ := HD.out hik
            have r7 : ((i : Int) != k) = false := by simpa using hik
            have w1 : IntKind.i64.wrap (my - mx) = y - x := by rw [z1]; exact IntWalk.i64_in _ (by omega)
            have w2 : IntKind.i64.wrap (y - x) = y - x := IntWalk.i64_in _ (by omega)
            clear HD hik z1 z2 z3
            go_wp2_with fail
            go_quiet (fail)
            go_wp2_with fail
            refine (alive_any _).mono ?_
            rintro e W5 ⟨rfl, hb8⟩
            go_wp2_with fail
            go_ret
            exact ⟨rfl, (BD.out.trans ((below_of_drewN _ _).mono BD.out.size)).trans (hb8.mono BD.out.size)⟩
          · have r7 : ((i : Int) != k) = true := by simpa using hik
            clear HD hik
            go_wp2_with fail
            go_quiet (fail)
            go_wp2_with fail
            refine (alive_any _).mono ?_
            rintro e W5 ⟨rfl, hb8⟩
            go_wp2_with fail
            go_ret
            exact ⟨rfl, (BD.out.trans ((below_of_drewN _ _).mono BD.out.size)).trans (hb8.mono BD.out.size)⟩
    · have q1 : (ordErr c names != 0) = true := by simpa using he
      have e1 := M0.out x he
      have e2 := M0.out y he
      rw [e1] at DX
      rw [e2] at DY
      clear he HK OUT1 HM M1 M0 e1 e2 HG2 hc2
      generalize ordErr c names = er at *
      generalize ordOut c names = og at *
      have q2 : ((x == y) == (x == y)) = true := by simp
      go_wp2_with fail
      have R2 : Below W2.heap.size W2 W2 := Below.refl _ _
      go_region_held3 (fun W' => W'.cell? ⟨w.heap.size, 0, none⟩ = some (.slice A n a) ∧ W'.cell? ⟨w.heap.size, 1, none⟩ = some (.slice B m b) ∧ W'.cell? ⟨w.heap.size, 2, none⟩ = some (.int .i64 c.base) ∧ W'.cell? ⟨w.heap.size, 3, none⟩ = some (.int .i64 c.second) ∧ W'.cell? ⟨w.heap.size, 4, none⟩ = some (.int .i64 c.third) ∧ W'.cell? ⟨w.heap.size, 5, none⟩ = some (.slice N kn kc) ∧ W'.cell? ⟨w.heap.size, 6, none⟩ = some (.int .i64 x) ∧ W'.cell? ⟨w.heap.size, 7, none⟩ = some (.int .i64 y) ∧ Below W2.heap.size W2 W')
      (first | (go_split_ands; refine ⟨?_, ?_, ?_, ?_, ?_, ?_, ?_, ?_, ?_⟩ <;> first | assumption | exact Below.drew (by assumption) | go_keep))
        (first | (go_at_call 16; go_split_ands; (with_reducible refine (DX.out _ (by assumption)).mono ?_); rintro e w6 ⟨rfl, hS6⟩) | (go_at_call 16; go_split_ands; (with_reducible refine (DY.out _ (by assumption)).mono ?_); rintro e w6 ⟨rfl, hS6⟩))
      all_goals
        clear f0 f1 f2 f3 f4 f5 f6 f7 DX DY
        obtain ⟨f0, f1, f2, f3, f4, f5, f6, f7, hb6⟩ := hS6
        have hx6 : w.heap.size < w6.heap.size := by have := hb6.size; omega
        have BW := Lib.hid (B2.trans (hb6.mono B2.size))
        go_wp2_with fail
        refine (alive_any w6).mono ?_
        rintro e W5 ⟨rfl, hb8⟩
        go_wp2_with fail
        go_ret
        exact ⟨rfl, BW.out.trans (hb8.mono BW.out.size)⟩

end Go.Proofs.Ytnfnoefjgiojoaa
