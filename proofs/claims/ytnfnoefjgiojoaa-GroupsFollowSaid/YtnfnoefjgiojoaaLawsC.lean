/- The walk of the law GroupsFollow. Written by gen_follow.py. -/
import Derived.Test.YtnfnoefjgiojoaaLawsA
import Derived.Test.YtnfnoefjgiojoaaFolPlain
namespace Go.Proofs.Ytnfnoefjgiojoaa
open Go.RowKit Go.Maps Go.WideMaps

set_option maxRecDepth 100000 in
set_option maxHeartbeats 12800000 in
theorem GroupsFollow_any (A : Option Addr) (n a : Nat) (B : Option Addr) (m b : Nat) (c : Col) (N : Option Addr) (kn kc : Nat) (names : List ByteArray) (w : World) (h : ColAt w A n B m c)
    (hN : Strs w N names) (hkn : names.length = kn) (hns : ∀ s ∈ names, s.size ≤ 9223372036854775807) :
    Calls Try.prog 5 #[colV A n a B m b c, .slice N kn kc] w (RetT w) := by
  have B0 : Below w.heap.size w (w.alloc (.cells #[.slice A n a, .slice B m b, .int .i64 c.base, .int .i64 c.second, .int .i64 c.third] 25)) := (Below.refl _ _).alloc (Nat.le_refl _) _
  have k0 : (w.alloc (.cells #[.slice A n a, .slice B m b, .int .i64 c.base, .int .i64 c.second, .int .i64 c.third] 25)).cell? ⟨w.heap.size, 0, none⟩ = some (.slice A n a) := by simp
  have k1 : (w.alloc (.cells #[.slice A n a, .slice B m b, .int .i64 c.base, .int .i64 c.second, .int .i64 c.third] 25)).cell? ⟨w.heap.size, 1, none⟩ = some (.slice B m b) := by simp
  have k2 : (w.alloc (.cells #[.slice A n a, .slice B m b, .int .i64 c.base, .int .i64 c.second, .int .i64 c.third] 25)).cell? ⟨w.heap.size, 2, none⟩ = some (.int .i64 c.base) := by simp
  have k3 : (w.alloc (.cells #[.slice A n a, .slice B m b, .int .i64 c.base, .int .i64 c.second, .int .i64 c.third] 25)).cell? ⟨w.heap.size, 3, none⟩ = some (.int .i64 c.second) := by simp
  have k4 : (w.alloc (.cells #[.slice A n a, .slice B m b, .int .i64 c.base, .int .i64 c.second, .int .i64 c.third] 25)).cell? ⟨w.heap.size, 4, none⟩ = some (.int .i64 c.third) := by simp
  have s0 : (w.alloc (.cells #[.slice A n a, .slice B m b, .int .i64 c.base, .int .i64 c.second, .int .i64 c.third] 25)).heap.size = w.heap.size + 1 := by simp
  have W0E : ∃ W0, w.alloc (.cells #[.slice A n a, .slice B m b, .int .i64 c.base, .int .i64 c.second, .int .i64 c.third] 25) = W0 := ⟨_, rfl⟩
  have FC := Lib.hid (fun W (hb : Below w.heap.size w W) => few_any A n a B m b c N kn kc names W (h.below hb) hkn)
  have OC := Lib.hid (fun W (hb : Below w.heap.size w W) (hf : fewC c names = true) => Order_any A n a B m b c N kn kc names W (h.below hb) (few_sz hf).1 (by have := (few_sz hf).2.1; have := h.hm; omega) (hN.below hb) hkn (by have := (few_sz hf).2.2; omega) hns)
  have HGR := Lib.hid h.grps
  have HST := Lib.hid hN
  have HM := Lib.hid h.hm
  have HSM := Lib.hid (fun (hf : fewC c names = true) => (few_sz hf).2)
  have HF := Lib.hid (ordF (c := c) (names := names))
  have OUT0 := Lib.hid (fun (h : ¬ ordErr c names = 0) => show ordOut c names = [] by unfold ordOut; rw [if_neg h])
  have OUT1 := Lib.hid (fun (h : ordErr c names = 0) => show ordOut c names = ordG c.grps names by unfold ordOut; rw [if_pos h])
  unfold colV at *
  clear h hN hns
  go_enter Try.func5, Try.ntmps5
  go_wp2_with fail
  obtain ⟨W0, hW0⟩ := W0E
  rw [hW0] at B0 s0 k0 k1 k2 k3 k4 ⊢
  clear hW0
  refine (FC.out W0 B0).mono ?_
  rintro e W1 ⟨rfl, hb1⟩
  have hx0 : w.heap.size < W0.heap.size := by omega
  have hb2 := B0.trans (hb1.mono B0.size)
  have f0 := (hb1.cell (p := ⟨w.heap.size, 0, none⟩) hx0).trans k0
  have f1 := (hb1.cell (p := ⟨w.heap.size, 1, none⟩) hx0).trans k1
  have f2 := (hb1.cell (p := ⟨w.heap.size, 2, none⟩) hx0).trans k2
  have f3 := (hb1.cell (p := ⟨w.heap.size, 3, none⟩) hx0).trans k3
  have f4 := (hb1.cell (p := ⟨w.heap.size, 4, none⟩) hx0).trans k4
  have hx1 : w.heap.size < W1.heap.size := by have := hb1.size; omega
  clear k0 k1 k2 k3 k4 FC B0 hb1 s0 hx0
  cases hf : fewC c names with
  | false =>
    clear OC HF HSM OUT0 OUT1
    go_wp2_with fail
    refine (alive_any W1).mono ?_
    rintro e W2 ⟨rfl, hb3⟩
    go_wp2_with fail
    go_ret
    exact ⟨rfl, hb2.trans (hb3.mono hb2.size)⟩
  | true =>
    have OC := Lib.hid (fun W hb => OC.out W hb hf)
    obtain ⟨sm1, sm2⟩ := HSM.out hf
    clear hf HSM
    go_wp2_with fail
    refine (OC.out W1 hb2).mono ?_
    rintro e W2 ⟨A2, c2, rfl, hc2, hG2, hb3⟩
    have hb4 := hb2.trans (hb3.mono hb2.size)
    have g1 := (hb3.cell (p := ⟨w.heap.size, 1, none⟩) hx1).trans f1
    have hx2 : w.heap.size < W2.heap.size := by have := hb3.size; omega
    have HG2 := Lib.hid hG2
    clear f0 f1 f2 f3 f4 OC hb2 hb3 hG2 hx1
    by_cases he : ordErr c names = 0
    · have q1 : (ordErr c names != 0) = false := by simpa using he
      have HFF := Lib.hid (HF.out he)
      rw [OUT1.out he] at HG2 hc2 ⊢
      have HGB := Lib.hid (HGR.out.below hb4)
      have HSB := Lib.hid (HST.out.below hb4)
      have hm := HM.out
      have G1 := Lib.hid g1
      clear he HF OUT0 OUT1 HGR HST HM
      generalize ordErr c names = er at *
      generalize hgs : c.grps = gs at *
      clear hgs
      subst hm
      have HFF := Lib.hid (HFF.out.fol (by omega))
      generalize ordG gs names = og at *
      have PL := Lib.hid HFF.out.len
      have PN := Lib.hid HFF.out.nlen
      have P0 := Lib.hid HFF.out.lo0
      have PX := Lib.hid HFF.out.next
      have PM := Lib.hid HFF.out.mats
      have PNM := Lib.hid HFF.out.named
      have PB := Lib.hid HFF.out.bd
      have PT := Lib.hid HFF.out.tb
      clear HFF
      have q2 : ((og.length : Int) != (gs.length : Int)) = false := by have := PL.out; simp; omega
      have q3 : decide (og.length < names.length) = false := by have := PL.out; have := PN.out; simp; omega
      subst hkn
      go_wp2_with fail
      clear g1
      go_loopw [7] (fun u wr => ∃ i : Nat, i ≤ og.length ∧ u = .int .i64 i ∧ Qt W2 wr) (fun u _ => og.length - (intOf u).toNat)
      case atStart => exact ⟨0, Nat.zero_le _, rfl, Qt.refl _⟩
      case round =>
        obtain ⟨i, hi, rfl, hq⟩ := hrel
        by_cases hlt : i < og.length
        · have hq0 := hq
          have g1 := (hq.below.cell (p := ⟨w.heap.size, 1, none⟩) hx2).trans G1.out
          have hx3 : w.heap.size < wr.heap.size := by have := hq.below.size; omega
          have HM := Lib.hid (PM.out i hlt)
          obtain ⟨b2, o2, rfl, hbl2, hcell2⟩ := (HG2.out.below hq.below).at hlt
          obtain ⟨d1, d2, d3⟩ := hcell2 i hlt
          have tb := PT.out og[i] (List.getElem_mem hlt)
          have HPM := Lib.hid (fun hn => PNM.out i hlt hn)
          have HP0 := Lib.hid (fun (h1 : 0 < gs.length) (e : i = 0) => show og[i].lo = gs[0].lo by subst e; exact P0.out hlt h1)
          have HPX := Lib.hid (fun (hp : i - 1 < og.length) (h0 : 0 < i) => show og[i].lo = og[i - 1].hi + 1 by
            have h3 := PX.out (i - 1) hp (by omega)
            simp only [show i - 1 + 1 = i by omega] at h3
            exact h3)
          have CP := Lib.hid (fun (hp : i - 1 < og.length) => (hcell2 (i - 1) hp).2.2)
          have TBP := Lib.hid (fun (hp : i - 1 < og.length) => PT.out og[i - 1] (List.getElem_mem hp))
          have DC := Lib.hid (And.intro d1 (And.intro d2 d3))
          have HXG := Lib.hid g1
          clear hcell2 P0 PX PM PNM
          generalize og[i] = gi at *
          obtain ⟨xn, xlo, xhi⟩ := gi
          dsimp only at *
          obtain ⟨wr0, rfl⟩ : ∃ wr0 : World, wr0 = wr := ⟨_, rfl⟩
          go_wp2_with fail
          clear g1 d1 d2 d3
          go_loopw [8, 9] (fun v u wr => ∃ j : Nat, j ≤ gs.length ∧ u = .int .i64 j ∧ v = .bool ((gs.take j).any (mat ⟨xn, xlo, xhi⟩)) ∧ Qt wr0 wr) (fun _ u _ => gs.length - (intOf u).toNat)
          case atStart => exact ⟨0, Nat.zero_le _, rfl, rfl, Qt.refl _⟩
          case round =>
            obtain ⟨j, hj, rfl, rfl, hq1⟩ := hrel
            have g1 := (hq1.below.cell (p := ⟨w.heap.size, 1, none⟩) hx3).trans HXG.out
            by_cases hltj : j < gs.length
            · have HAT := Lib.hid (any_take (mat ⟨xn, xlo, xhi⟩) gs hltj)
              obtain ⟨b1, o1, rfl, hbl1, hcell1⟩ := (HGB.out.below (hq0.trans hq1).below).at hltj
              obtain ⟨c1, c2', c3⟩ := hcell1 j hltj
              have bd := PB.out gs[j] (List.getElem_mem hltj)
              have d1 := (hq1.below.cell (p := ⟨b2, o2 + i * 3, none⟩) hbl2).trans DC.out.1
              have d2 := (hq1.below.cell (p := ⟨b2, o2 + i * 3 + 1, none⟩) hbl2).trans DC.out.2.1
              have d3 := (hq1.below.cell (p := ⟨b2, o2 + i * 3 + 2, none⟩) hbl2).trans DC.out.2.2
              have n1 : (j : Int) < (gs.length : Int) := by omega
              have n2 : (i : Int) < (og.length : Int) := by omega
              clear hcell1
              generalize gs[j] = gj at *
              obtain ⟨yn, ylo, yhi⟩ := gj
              dsimp only at *
              have w1 : IntKind.i64.wrap (yhi - ylo) = yhi - ylo := IntWalk.i64_in _ (by omega)
              have w2 : IntKind.i64.wrap (xhi - xlo) = xhi - xlo := IntWalk.i64_in _ (by omega)
              cases hfv : (gs.take j).any (mat ⟨xn, xlo, xhi⟩) with
              | true =>
                have HQ := Lib.hid (show (gs.take (j + 1)).any (mat ⟨xn, xlo, xhi⟩) = true by rw [HAT.out, hfv]; rfl)
                clear HAT hfv
                go_wp2_with fail
                go_quiet (fail)
                go_wp2_with fail
                go_roundw
                case rel => exact ⟨j + 1, by omega, by go_num, by rw [HQ.out], hq1.drewN _⟩
                case measure => simp [intOf]; omega
              | false =>
                by_cases hnm : yn = xn
                · have HQ := Lib.hid (show (gs.take (j + 1)).any (mat ⟨xn, xlo, xhi⟩) = (yhi - ylo == xhi - xlo) by rw [HAT.out, hfv]; simp [mat, hnm])
                  have q4 : (yn.toList == xn.toList) = true := str_eqT hnm
                  clear HAT hfv hnm
                  go_wp2_with fail
                  go_quiet (fail)
                  go_wp2_with fail
                  go_roundw
                  case rel => exact ⟨j + 1, by omega, by go_num, by rw [HQ.out], hq1.drewN _⟩
                  case measure => simp [intOf]; omega
                · have HQ := Lib.hid (show (gs.take (j + 1)).any (mat ⟨xn, xlo, xhi⟩) = false by rw [HAT.out, hfv]; simp [mat, hnm])
                  have q4 : (yn.toList == xn.toList) = false := str_eqF hnm
                  clear HAT hfv hnm
                  go_wp2_with fail
                  go_quiet (fail)
                  go_wp2_with fail
                  go_roundw
                  case rel => exact ⟨j + 1, by omega, by go_num, by rw [HQ.out], hq1.drewN _⟩
                  case measure => simp [intOf]; omega
            · have e1 : gs.take j = gs := List.take_of_length_le (by omega)
              rw [e1, HM.out]
              have hq2 := hq0.trans hq1
              have d1 := (hq1.below.cell (p := ⟨b2, o2 + i * 3, none⟩) hbl2).trans DC.out.1
              have d2 := (hq1.below.cell (p := ⟨b2, o2 + i * 3 + 1, none⟩) hbl2).trans DC.out.2.1
              have gl : og.length = gs.length := PL.out
              have gp : 0 < gs.length := by omega
              obtain ⟨b1, o1, rfl, hbl1, hcell1⟩ := (HGB.out.below hq2.below).at gp
              obtain ⟨c1, c2', c3⟩ := hcell1 0 gp
              have n2 : (i : Int) < (og.length : Int) := by omega
              have gpi : (0 : Int) < (gs.length : Int) := by omega
              simp only [Nat.zero_mul, Nat.add_zero] at c1 c2' c3
              have HLT := Lib.hid (show i + 1 ≤ og.length ∧ og.length ≤ 8 by omega)
              clear e1 gl hcell1 HM
              by_cases hnn : i < names.length
              · obtain ⟨b3, o3, rfl, hbl3, hcell3⟩ := (HSB.out.below hq2.below).at hnn
                have e3 := hcell3 i hnn
                rw [← HPM.out hnn] at e3
                have q5 : decide (i < names.length) = true := by simpa using hnn
                have q5' : (i : Int) < (names.length : Int) := by omega
                clear hcell3 HPM
                by_cases hi0 : i = 0
                · have z1 := HP0.out gp hi0
                  rw [← z1] at c2'
                  have q7 : ((i : Int) == 0) = true := by simp [hi0]
                  have q8 : decide ((0 : Int) < (i : Int)) = false := by simp [hi0]
                  have q9 : decide (0 < i) = false := by simp [hi0]
                  clear z1 hi0 HP0 HPX CP TBP
                  go_wp2_with fail
                  go_quiet (fail)
                  have hlt8 := HLT.out
                  have hw8 : IntKind.i64.wrap ((i : Int) + 1) = (i : Int) + 1 := IntWalk.i64_in _ (by omega)
                  go_wp2_with fail
                  go_roundw
                  case rel => exact ⟨i + 1, HLT.out.1, by go_num, hq2.drewN _⟩
                  case measure => have := HLT.out; simp [intOf]; omega
                · have hp : i - 1 < og.length := by omega
                  have z1 := HPX.out hp (by omega)
                  have d4 := (hq1.below.cell (p := ⟨b2, o2 + (i - 1) * 3 + 2, none⟩) hbl2).trans (CP.out hp)
                  have tbp := TBP.out hp
                  have q7 : ((i : Int) == 0) = false := by simp [hi0]
                  have q8 : decide ((0 : Int) < (i : Int)) = true := by simp; omega
                  have q9 : decide (0 < i) = true := by simp; omega
                  clear HP0 HPX CP TBP
                  generalize (og[i - 1]'hp).hi = ph at *
                  generalize (og[i - 1]'hp).lo = pl at *
                  subst z1
                  have i1 : (0 : Int) ≤ (i : Int) - 1 := by omega
                  have i2 : (i : Int) - 1 < (og.length : Int) := by omega
                  have i3 : ((i : Int) - 1).toNat = i - 1 := by omega
                  have w1 : IntKind.i64.wrap ((i : Int) - 1) = (i : Int) - 1 := IntWalk.i64_in _ (by have := HLT.out; omega)
                  have w2 : IntKind.i64.wrap (ph + 1) = ph + 1 := IntWalk.i64_in _ (by omega)
                  clear hi0
                  go_wp2_with fail
                  go_quiet (fail)
                  clear i3 w1 w2 i1 i2
                  have hlt8 := HLT.out
                  have hw8 : IntKind.i64.wrap ((i : Int) + 1) = (i : Int) + 1 := IntWalk.i64_in _ (by omega)
                  go_wp2_with fail
                  go_roundw
                  case rel => exact ⟨i + 1, HLT.out.1, by go_num, hq2.drewN _⟩
                  case measure => have := HLT.out; simp [intOf]; omega
              · have q5 : decide (i < names.length) = false := by simpa using hnn
                clear HPM
                by_cases hi0 : i = 0
                · have z1 := HP0.out gp hi0
                  rw [← z1] at c2'
                  have q7 : ((i : Int) == 0) = true := by simp [hi0]
                  have q8 : decide ((0 : Int) < (i : Int)) = false := by simp [hi0]
                  have q9 : decide (0 < i) = false := by simp [hi0]
                  clear z1 hi0 HP0 HPX CP TBP
                  go_wp2_with fail
                  go_quiet (fail)
                  have hlt8 := HLT.out
                  have hw8 : IntKind.i64.wrap ((i : Int) + 1) = (i : Int) + 1 := IntWalk.i64_in _ (by omega)
                  go_wp2_with fail
                  go_roundw
                  case rel => exact ⟨i + 1, HLT.out.1, by go_num, hq2.drewN _⟩
                  case measure => have := HLT.out; simp [intOf]; omega
                · have hp : i - 1 < og.length := by omega
                  have z1 := HPX.out hp (by omega)
                  have d4 := (hq1.below.cell (p := ⟨b2, o2 + (i - 1) * 3 + 2, none⟩) hbl2).trans (CP.out hp)
                  have tbp := TBP.out hp
                  have q7 : ((i : Int) == 0) = false := by simp [hi0]
                  have q8 : decide ((0 : Int) < (i : Int)) = true := by simp; omega
                  have q9 : decide (0 < i) = true := by simp; omega
                  clear HP0 HPX CP TBP
                  generalize (og[i - 1]'hp).hi = ph at *
                  generalize (og[i - 1]'hp).lo = pl at *
                  subst z1
                  have i1 : (0 : Int) ≤ (i : Int) - 1 := by omega
                  have i2 : (i : Int) - 1 < (og.length : Int) := by omega
                  have i3 : ((i : Int) - 1).toNat = i - 1 := by omega
                  have w1 : IntKind.i64.wrap ((i : Int) - 1) = (i : Int) - 1 := IntWalk.i64_in _ (by have := HLT.out; omega)
                  have w2 : IntKind.i64.wrap (ph + 1) = ph + 1 := IntWalk.i64_in _ (by omega)
                  clear hi0
                  go_wp2_with fail
                  go_quiet (fail)
                  clear i3 w1 w2 i1 i2
                  have hlt8 := HLT.out
                  have hw8 : IntKind.i64.wrap ((i : Int) + 1) = (i : Int) + 1 := IntWalk.i64_in _ (by omega)
                  go_wp2_with fail
                  go_roundw
                  case rel => exact ⟨i + 1, HLT.out.1, by go_num, hq2.drewN _⟩
                  case measure => have := HLT.out; simp [intOf]; omega
        · go_wp2_with fail
          refine (alive_any wr).mono ?_
          rintro e W5 ⟨rfl, hb8⟩
          have hb7 := hb4.trans (hq.below.mono hb4.size)
          go_wp2_with fail
          go_ret
          exact ⟨rfl, hb7.trans (hb8.mono hb7.size)⟩
    · have q1 : (ordErr c names != 0) = true := by simpa using he
      rw [OUT0.out he]
      clear he HF OUT0 OUT1 HG2 hc2
      generalize ordErr c names = er at *
      rw [show ([] : List Grp).length = 0 from rfl]
      go_wp2_with fail
      refine (alive_any W2).mono ?_
      rintro e W5 ⟨rfl, hb8⟩
      go_wp2_with fail
      go_ret
      exact ⟨rfl, hb4.trans (hb8.mono hb4.size)⟩

end Go.Proofs.Ytnfnoefjgiojoaa
