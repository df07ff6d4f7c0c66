/- The walk of the law GroupsElements. Written by gen_elements.py. -/
import Derived.Test.YtnfnoefjgiojoaaLawsE
import Derived.Test.YtnfnoefjgiojoaaHeldSkip
namespace Go.Proofs.Ytnfnoefjgiojoaa
open Go.RowKit Go.Maps Go.WideMaps

set_option linter.unusedSimpArgs false in
set_option maxRecDepth 100000 in
set_option maxHeartbeats 3200000 in
theorem GroupsElements_any (A : Option Addr) (n a : Nat) (B : Option Addr) (m b : Nat) (c : Col) (N : Option Addr) (kn kc : Nat) (names : List ByteArray) (w : World) (h : ColAt w A n B m c)
    (hN : Strs w N names) (hkn : names.length = kn) (hns : ∀ s ∈ names, s.size ≤ 9223372036854775807) :
    Calls Try.prog 9 #[colV A n a B m b c, .slice N kn kc] w (RetT w) := by
  have B0 : Below w.heap.size w (w.alloc (.cells #[.slice A n a, .slice B m b, .int .i64 c.base, .int .i64 c.second, .int .i64 c.third] 25)) := (Below.refl _ _).alloc (Nat.le_refl _) _
  have k0 : (w.alloc (.cells #[.slice A n a, .slice B m b, .int .i64 c.base, .int .i64 c.second, .int .i64 c.third] 25)).cell? ⟨w.heap.size, 0, none⟩ = some (.slice A n a) := by simp
  have k1 : (w.alloc (.cells #[.slice A n a, .slice B m b, .int .i64 c.base, .int .i64 c.second, .int .i64 c.third] 25)).cell? ⟨w.heap.size, 1, none⟩ = some (.slice B m b) := by simp
  have k2 : (w.alloc (.cells #[.slice A n a, .slice B m b, .int .i64 c.base, .int .i64 c.second, .int .i64 c.third] 25)).cell? ⟨w.heap.size, 2, none⟩ = some (.int .i64 c.base) := by simp
  have k3 : (w.alloc (.cells #[.slice A n a, .slice B m b, .int .i64 c.base, .int .i64 c.second, .int .i64 c.third] 25)).cell? ⟨w.heap.size, 3, none⟩ = some (.int .i64 c.second) := by simp
  have k4 : (w.alloc (.cells #[.slice A n a, .slice B m b, .int .i64 c.base, .int .i64 c.second, .int .i64 c.third] 25)).cell? ⟨w.heap.size, 4, none⟩ = some (.int .i64 c.third) := by simp
  have s0 : (w.alloc (.cells #[.slice A n a, .slice B m b, .int .i64 c.base, .int .i64 c.second, .int .i64 c.third] 25)).heap.size = w.heap.size + 1 := by simp
  have W0E : ∃ W0, w.alloc (.cells #[.slice A n a, .slice B m b, .int .i64 c.base, .int .i64 c.second, .int .i64 c.third] 25) = W0 := ⟨_, rfl⟩
  have FC := Lib.hid (fun W (hb : Below w.heap.size w W) => few_any A n a B m b c N kn kc names W (h.below hb) hkn)
  have OC := Lib.hid (fun W (hb : Below w.heap.size w W) (hf : fewC c names = true) => Apply_any A n a B m b c N kn kc names W (h.below hb) (few_sz hf).1 (by have := (few_sz hf).2.1; have := h.hm; omega) (hN.below hb) hkn (by have := (few_sz hf).2.2; omega) hns)
  have RC := Lib.hid (fun W (hb : Below w.heap.size w W) (hf : fewC c names = true) => Order_any A n a B m b c N kn kc names W (h.below hb) (few_sz hf).1 (by have := (few_sz hf).2.1; have := h.hm; omega) (hN.below hb) hkn (by have := (few_sz hf).2.2; omega) hns)
  have MC := Lib.hid (fun z W (hb : Below w.heap.size w W) (hf : fewC c names = true) => Move_any A n a B m b c N kn kc names z W (h.below hb) (few_sz hf).1 (by have := (few_sz hf).2.1; have := h.hm; omega) (hN.below hb) hkn (by have := (few_sz hf).2.2; omega) hns)
  have HE := Lib.hid h.ents
  have HNN := Lib.hid h.hn
  have HSM := Lib.hid (fun (hf : fewC c names = true) => And.intro (few_sz hf).1 (few_sz hf).2.1)
  have X1 := Lib.hid (fun (he : ordErr c names = 0) => show appC c names = ⟨c.ents.map (movEnt (mov c names)), ordOut c names, c.base, c.second, c.third⟩ by unfold appC ordOut; rw [if_pos he, if_pos he])
  have OL := Lib.hid (fun (he : ordErr c names = 0) => show (ordOut c names).length = c.grps.length by unfold ordOut; rw [if_pos he]; exact (ordF he).len)
  have SZ := Lib.hid (fun (hf : fewC c names = true) => app_sz (names := names) (few_sz hf).1)
  unfold colV at *
  clear h hN hns
  go_enter Try.func9, Try.ntmps9
  go_wp2_with fail
  obtain ⟨W0, hW0⟩ := W0E
  rw [hW0] at B0 s0 k0 k1 k2 k3 k4 ⊢
  clear hW0
  with_reducible refine (FC.out W0 B0).mono ?_
  rintro e W1 ⟨rfl, hb1⟩
  have hx0 : w.heap.size < W0.heap.size := by omega
  have hb2 := B0.trans (hb1.mono B0.size)
  have f0 := (hb1.cell (p := ⟨w.heap.size, 0, none⟩) hx0).trans k0
  have f1 := (hb1.cell (p := ⟨w.heap.size, 1, none⟩) hx0).trans k1
  have f2 := (hb1.cell (p := ⟨w.heap.size, 2, none⟩) hx0).trans k2
  have f3 := (hb1.cell (p := ⟨w.heap.size, 3, none⟩) hx0).trans k3
  have f4 := (hb1.cell (p := ⟨w.heap.size, 4, none⟩) hx0).trans k4
  have hx1 : w.heap.size < W1.heap.size := by have := hb1.size; omega
  clear k0 k1 k2 k3 k4 FC B0 hb1 s0 hx0
  cases hf : fewC c names with
  | false =>
    clear OC RC SZ MC X1 OL HSM
    go_wp2_with fail
    refine (alive_any W1).mono ?_
    rintro e W2 ⟨rfl, hb3⟩
    go_wp2_with fail
    go_ret
    exact ⟨rfl, hb2.trans (hb3.mono hb2.size)⟩
  | true =>
    have OC := Lib.hid (fun W hb => OC.out W hb hf)
    have RC := Lib.hid (fun W hb => RC.out W hb hf)
    have MC := Lib.hid (fun z W hb => MC.out z W hb hf)
    obtain ⟨sm1, sm2⟩ := HSM.out hf
    clear hf SZ HSM
    generalize hX : appC c names = x at *
    have HX := Lib.hid hX
    clear hX
    go_wp2_with fail
    with_reducible refine (OC.out W1 hb2).mono ?_
    rintro e W2 ⟨A2, n2, a2, B2, m2, b2, rfl, hC2, hn2, hm2, hb3⟩
    unfold colV
    have HC2 := Lib.hid hC2
    have hb4 := hb2.trans (hb3.mono hb2.size)
    have g0 := (hb3.cell (p := ⟨w.heap.size, 0, none⟩) hx1).trans f0
    have g1 := (hb3.cell (p := ⟨w.heap.size, 1, none⟩) hx1).trans f1
    have g2 := (hb3.cell (p := ⟨w.heap.size, 2, none⟩) hx1).trans f2
    have g3 := (hb3.cell (p := ⟨w.heap.size, 3, none⟩) hx1).trans f3
    have g4 := (hb3.cell (p := ⟨w.heap.size, 4, none⟩) hx1).trans f4
    have hx2 : w.heap.size < W2.heap.size := by have := hb3.size; omega
    have hxn : ¬ w.heap.size = W2.heap.size := by omega
    have Bx : Below W2.heap.size W2 (W2.alloc (.cells #[.slice A2 n2 a2, .slice B2 m2 b2, .int .i64 x.base, .int .i64 x.second, .int .i64 x.third] 25)) := (Below.refl _ _).alloc (Nat.le_refl _) _
    have p0 : (W2.alloc (.cells #[.slice A2 n2 a2, .slice B2 m2 b2, .int .i64 x.base, .int .i64 x.second, .int .i64 x.third] 25)).cell? ⟨W2.heap.size, 0, none⟩ = some (.slice A2 n2 a2) := by simp
    have p1 : (W2.alloc (.cells #[.slice A2 n2 a2, .slice B2 m2 b2, .int .i64 x.base, .int .i64 x.second, .int .i64 x.third] 25)).cell? ⟨W2.heap.size, 1, none⟩ = some (.slice B2 m2 b2) := by simp
    have p2 : (W2.alloc (.cells #[.slice A2 n2 a2, .slice B2 m2 b2, .int .i64 x.base, .int .i64 x.second, .int .i64 x.third] 25)).cell? ⟨W2.heap.size, 2, none⟩ = some (.int .i64 x.base) := by simp
    have p3 : (W2.alloc (.cells #[.slice A2 n2 a2, .slice B2 m2 b2, .int .i64 x.base, .int .i64 x.second, .int .i64 x.third] 25)).cell? ⟨W2.heap.size, 3, none⟩ = some (.int .i64 x.second) := by simp
    have p4 : (W2.alloc (.cells #[.slice A2 n2 a2, .slice B2 m2 b2, .int .i64 x.base, .int .i64 x.second, .int .i64 x.third] 25)).cell? ⟨W2.heap.size, 4, none⟩ = some (.int .i64 x.third) := by simp
    have sx : (W2.alloc (.cells #[.slice A2 n2 a2, .slice B2 m2 b2, .int .i64 x.base, .int .i64 x.second, .int .i64 x.third] 25)).heap.size = W2.heap.size + 1 := by simp
    clear f0 f1 f2 f3 f4 OC hb2 hb3 hC2 hx1
    go_wp2_with fail
    obtain ⟨Wx, hWx⟩ : ∃ Wx, W2.alloc (.cells #[.slice A2 n2 a2, .slice B2 m2 b2, .int .i64 x.base, .int .i64 x.second, .int .i64 x.third] 25) = Wx := ⟨_, rfl⟩
    rw [hWx] at Bx p0 p1 p2 p3 p4 sx ⊢
    clear hWx
    have hb5 := hb4.trans (Bx.mono hb4.size)
    with_reducible refine (RC.out Wx hb5).mono ?_
    rintro e W3 ⟨A3, c3, rfl, hc3, hG3, hb6⟩
    have hx3 : W2.heap.size < Wx.heap.size := by omega
    have hx5 : w.heap.size < Wx.heap.size := by omega
    have HG3 := Lib.hid hG3

    have r0 := (hb6.cell (p := ⟨w.heap.size, 0, none⟩) hx5).trans ((Bx.cell (p := ⟨w.heap.size, 0, none⟩) hx2).trans g0)
    have r1 := (hb6.cell (p := ⟨w.heap.size, 1, none⟩) hx5).trans ((Bx.cell (p := ⟨w.heap.size, 1, none⟩) hx2).trans g1)
    have r2 := (hb6.cell (p := ⟨w.heap.size, 2, none⟩) hx5).trans ((Bx.cell (p := ⟨w.heap.size, 2, none⟩) hx2).trans g2)
    have r3 := (hb6.cell (p := ⟨w.heap.size, 3, none⟩) hx5).trans ((Bx.cell (p := ⟨w.heap.size, 3, none⟩) hx2).trans g3)
    have r4 := (hb6.cell (p := ⟨w.heap.size, 4, none⟩) hx5).trans ((Bx.cell (p := ⟨w.heap.size, 4, none⟩) hx2).trans g4)
    have t0 := (hb6.cell (p := ⟨W2.heap.size, 0, none⟩) hx3).trans p0
    have t1 := (hb6.cell (p := ⟨W2.heap.size, 1, none⟩) hx3).trans p1
    have t2 := (hb6.cell (p := ⟨W2.heap.size, 2, none⟩) hx3).trans p2
    have t3 := (hb6.cell (p := ⟨W2.heap.size, 3, none⟩) hx3).trans p3
    have t4 := (hb6.cell (p := ⟨W2.heap.size, 4, none⟩) hx3).trans p4
    have hx4 : W2.heap.size < W3.heap.size := by have := hb6.size; omega
    have hx6 : w.heap.size < W3.heap.size := by omega
    have hb7 := hb5.trans (hb6.mono hb5.size)
    have HC3 := Lib.hid ((HC2.out.below Bx).below hb6)
    clear g0 g1 g2 g3 g4 p0 p1 p2 p3 p4 RC hG3 hb6 hb5 hb4 Bx HC2
    by_cases he : ordErr c names = 0
    · have q1 : (ordErr c names != 0) = false := by simpa using he
      have hol := OL.out he
      have hxe := X1.out he
      subst hxe
      have SGC := Lib.hid (sameG_any B2 m2 b2 A3 (ordOut c names).length c3 (ordOut c names) (ordOut c names) W3 HC3.out.grps HG3.out HC3.out.hm rfl (by have := HC3.out.hm; dsimp only at this; omega) (by omega))
      rw [decide_eq_true rfl] at SGC
      have hn2' : c.ents.length = n2 := by have := HC3.out.hn; simpa using this
      have hnn := HNN.out
      have HE3 := Lib.hid HC3.out.ents
      have HE0 := Lib.hid (HE.out.below hb7)
      have HEZ := Lib.hid sm1.e
      have hnz := sm1.n
      clear he OL X1 HX HC3 HNN HG3 HE hol
      generalize ordErr c names = er at *
      generalize ordOut c names = og at *
      generalize mov c names = F at *
      dsimp only at *
      generalize c.ents = es at *
      subst hnn
      subst hn2'
      go_wp2_with fail
      with_reducible refine SGC.out.mono ?_
      rintro e W4 ⟨rfl, hq4⟩
      have K4 := Lib.hid (show ∀ W', Below W4.heap.size W4 W' → W'.cell? ⟨w.heap.size, 0, none⟩ = some (.slice A es.length a) ∧ W'.cell? ⟨w.heap.size, 1, none⟩ = some (.slice B m b) ∧ W'.cell? ⟨w.heap.size, 2, none⟩ = some (.int .i64 c.base) ∧ W'.cell? ⟨w.heap.size, 3, none⟩ = some (.int .i64 c.second) ∧ W'.cell? ⟨w.heap.size, 4, none⟩ = some (.int .i64 c.third) ∧ W'.cell? ⟨W2.heap.size, 0, none⟩ = some (.slice A2 es.length a2) from fun W' hb => ⟨(hb.cell (p := ⟨w.heap.size, 0, none⟩) (by have := hq4.below.size; show w.heap.size < _; omega)).trans ((hq4.below.cell (p := ⟨w.heap.size, 0, none⟩) hx6).trans r0), (hb.cell (p := ⟨w.heap.size, 1, none⟩) (by have := hq4.below.size; show w.heap.size < _; omega)).trans ((hq4.below.cell (p := ⟨w.heap.size, 1, none⟩) hx6).trans r1), (hb.cell (p := ⟨w.heap.size, 2, none⟩) (by have := hq4.below.size; show w.heap.size < _; omega)).trans ((hq4.below.cell (p := ⟨w.heap.size, 2, none⟩) hx6).trans r2), (hb.cell (p := ⟨w.heap.size, 3, none⟩) (by have := hq4.below.size; show w.heap.size < _; omega)).trans ((hq4.below.cell (p := ⟨w.heap.size, 3, none⟩) hx6).trans r3), (hb.cell (p := ⟨w.heap.size, 4, none⟩) (by have := hq4.below.size; show w.heap.size < _; omega)).trans ((hq4.below.cell (p := ⟨w.heap.size, 4, none⟩) hx6).trans r4), (hb.cell (p := ⟨W2.heap.size, 0, none⟩) (by have := hq4.below.size; show W2.heap.size < _; omega)).trans ((hq4.below.cell (p := ⟨W2.heap.size, 0, none⟩) hx4).trans t0)⟩)
      have u2 := (hq4.below.cell (p := ⟨W2.heap.size, 2, none⟩) hx4).trans t2
      have u3 := (hq4.below.cell (p := ⟨W2.heap.size, 3, none⟩) hx4).trans t3
      have u4 := (hq4.below.cell (p := ⟨W2.heap.size, 4, none⟩) hx4).trans t4
      obtain ⟨e0, e1, e2, e3, e4, u0⟩ := K4.out W4 (Below.refl _ _)
      have hb8 := hb7.trans (hq4.below.mono hb7.size)
      have HE3' := Lib.hid (HE3.out.below hq4.below)
      have HE0' := Lib.hid (HE0.out.below hq4.below)
      have hx8 : w.heap.size < W4.heap.size := by have := hq4.below.size; omega
      clear SGC r0 r1 r2 r3 r4 t0 t1 t2 t3 t4 HE3 HE0 hq4 hb7 hx4 hx6 hc3
      go_wp2_with fail
      clear e0 e1 e2 e3 e4 u0 u2 u3 u4
      go_loopw [9] (fun u wr => ∃ i : Nat, i ≤ es.length ∧ u = .int .i64 i ∧ Below W4.heap.size W4 wr) (fun u _ => es.length - (intOf u).toNat)
      case atStart => exact ⟨0, Nat.zero_le _, rfl, Below.refl _ _⟩
      case round =>
        obtain ⟨i, hi, rfl, hbr⟩ := hrel
        obtain ⟨e0, e1, e2, e3, e4, u0⟩ := K4.out wr hbr
        have hbw := hb8.trans (hbr.mono hb8.size)
        by_cases hlt : i < es.length
        · have hlt' : i < (es.map (movEnt F)).length := by simpa using hlt
          obtain ⟨b1, o1, rfl, hbl1, hcell1⟩ := (HE0'.out.below hbr).at hlt
          obtain ⟨C, cc, E, dd, j1, c2', j2, hE⟩ := hcell1 i hlt
          obtain ⟨b2', o2, hA2, hbl2, hcell2⟩ := (HE3'.out.below hbr).at hlt'
          obtain ⟨C2, cc2, E2, dd2, j3, d2', j4, hE2⟩ := hcell2 i hlt'
          subst hA2
          have z2 := (HEZ.out i hlt).2
          rw [List.getElem_map] at d2' hE2
          have hll : (movEnt F es[i]).elems.length = es[i].elems.length := by simp [movEnt]
          rw [hll] at d2'
          have HEL := Lib.hid hE
          have HEL2 := Lib.hid (show Elts wr E2 (es[i].elems.map (movE F)) from hE2)
          have q5 : (i : Int) < (es.length : Int) := by omega
          clear hcell1 hcell2 hE hE2 hll j1 j2 j3 j4 hlt'
          generalize es[i].elems = ee at *
          go_wp2_with fail
          go_quiet (fail)
          obtain ⟨wr0, rfl⟩ : ∃ wr0 : World, wr0 = wr := ⟨_, rfl⟩
          go_wp2_with fail
          clear e0 e1 e2 e3 e4 u0 c2' d2'
          go_loopw [12] (fun u wr => ∃ k : Nat, k ≤ ee.length ∧ u = .int .i64 k ∧ Below wr0.heap.size wr0 wr) (fun u _ => ee.length - (intOf u).toNat)
          case atStart => exact ⟨0, Nat.zero_le _, rfl, below_of_drewN _ _⟩
          case round =>
            obtain ⟨k, hk, rfl, hbq⟩ := hrel
            have hbq4 := hbr.trans (hbq.mono hbr.size)
            have HBWQ := Lib.hid (hb8.trans (hbq4.mono hb8.size))
            by_cases hltk : k < ee.length
            · obtain ⟨e0, e1, e2, e3, e4, _⟩ := K4.out wr hbq4
              have hltk' : k < (ee.map (movE F)).length := by simpa using hltk
              obtain ⟨b3, o3, rfl, hbl3, hcell3⟩ := (HEL.out.below hbq).at hltk
              obtain ⟨a1, a2, a3, a4⟩ := hcell3 k hltk
              obtain ⟨b4, o4, rfl, hbl4, hcell4⟩ := (HEL2.out.below hbq).at hltk'
              obtain ⟨f1, f2, f3, f4⟩ := hcell4 k hltk'
              rw [List.getElem_map] at f1 f2 f3 f4
              have MK := Lib.hid (fun W hb => MC.out ee[k].p W hb)
              have q6 : (k : Int) < (ee.length : Int) := by omega
              have hxw : w.heap.size < wr.heap.size := by have := hbq4.size; omega
              unfold movE at f1 f2 f3 f4
              clear hcell3 hcell4
              generalize ee[k] = ek at *
              obtain ⟨ep, es', et, ev⟩ := ek
              dsimp only at *
              have hn5 : ¬ b3 = wr.heap.size := by omega
              have hn6 : ¬ w.heap.size = wr.heap.size := by omega
              have By : Below wr.heap.size wr (wr.alloc (.cells #[.int .i64 ep, .int .i64 es', .int .i64 et, .bool ev] 51)) := (Below.refl _ _).alloc (Nat.le_refl _) _
              have m0 : (wr.alloc (.cells #[.int .i64 ep, .int .i64 es', .int .i64 et, .bool ev] 51)).cell? ⟨wr.heap.size, 0, none⟩ = some (.int .i64 ep) := by simp
              have m1 : (wr.alloc (.cells #[.int .i64 ep, .int .i64 es', .int .i64 et, .bool ev] 51)).cell? ⟨wr.heap.size, 1, none⟩ = some (.int .i64 es') := by simp
              have m2 : (wr.alloc (.cells #[.int .i64 ep, .int .i64 es', .int .i64 et, .bool ev] 51)).cell? ⟨wr.heap.size, 2, none⟩ = some (.int .i64 et) := by simp
              have m3 : (wr.alloc (.cells #[.int .i64 ep, .int .i64 es', .int .i64 et, .bool ev] 51)).cell? ⟨wr.heap.size, 3, none⟩ = some (.bool ev) := by simp
              have mf : (wr.alloc (.cells #[.int .i64 ep, .int .i64 es', .int .i64 et, .bool ev] 51)).frozen? ⟨wr.heap.size, 0, none⟩ = false := by simp
              have sy : (wr.alloc (.cells #[.int .i64 ep, .int .i64 es', .int .i64 et, .bool ev] 51)).heap.size = wr.heap.size + 1 := by simp
              have YE : ∃ Wy, wr.alloc (.cells #[.int .i64 ep, .int .i64 es', .int .i64 et, .bool ev] 51) = Wy := ⟨_, rfl⟩
              go_wp2_with fail
              obtain ⟨Wy, hWy⟩ := YE
              rw [hWy] at By m0 m1 m2 m3 mf sy ⊢
              clear hWy
              have hyy : wr.heap.size < Wy.heap.size := by omega
              have SD := Lib.hid (show ∀ W', Below Wy.heap.size Wy W' → W'.cell? ⟨w.heap.size, 0, none⟩ = some (.slice (some ⟨b1, o1, none⟩) es.length a) ∧ W'.cell? ⟨w.heap.size, 1, none⟩ = some (.slice B m b) ∧ W'.cell? ⟨w.heap.size, 2, none⟩ = some (.int .i64 c.base) ∧ W'.cell? ⟨w.heap.size, 3, none⟩ = some (.int .i64 c.second) ∧ W'.cell? ⟨w.heap.size, 4, none⟩ = some (.int .i64 c.third) ∧ W'.cell? ⟨b3, o3 + k * 4, none⟩ = some (.int .i64 ep) ∧ (∃ u, W'.cell? ⟨wr.heap.size, 0, none⟩ = some u) ∧ W'.cell? ⟨wr.heap.size, 1, none⟩ = some (.int .i64 es') ∧ W'.cell? ⟨wr.heap.size, 2, none⟩ = some (.int .i64 et) ∧ W'.cell? ⟨wr.heap.size, 3, none⟩ = some (.bool ev) ∧ W'.frozen? ⟨wr.heap.size, 0, none⟩ = false ∧ Below wr.heap.size wr W' from fun W' hb => by
                have hb' := By.trans (hb.mono By.size)
                exact ⟨(hb'.cell (p := ⟨w.heap.size, 0, none⟩) hxw).trans e0, (hb'.cell (p := ⟨w.heap.size, 1, none⟩) hxw).trans e1, (hb'.cell (p := ⟨w.heap.size, 2, none⟩) hxw).trans e2, (hb'.cell (p := ⟨w.heap.size, 3, none⟩) hxw).trans e3, (hb'.cell (p := ⟨w.heap.size, 4, none⟩) hxw).trans e4, (hb'.cell (p := ⟨b3, o3 + k * 4, none⟩) hbl3).trans a1, ⟨_, (hb.cell (p := ⟨wr.heap.size, 0, none⟩) hyy).trans m0⟩, (hb.cell (p := ⟨wr.heap.size, 1, none⟩) hyy).trans m1, (hb.cell (p := ⟨wr.heap.size, 2, none⟩) hyy).trans m2, (hb.cell (p := ⟨wr.heap.size, 3, none⟩) hyy).trans m3, (hb.frozen (p := ⟨wr.heap.size, 0, none⟩) hyy).trans mf, hb'⟩)
              have CM := Lib.hid (show ∀ W', (W'.cell? ⟨w.heap.size, 0, none⟩ = some (.slice (some ⟨b1, o1, none⟩) es.length a) ∧ W'.cell? ⟨w.heap.size, 1, none⟩ = some (.slice B m b) ∧ W'.cell? ⟨w.heap.size, 2, none⟩ = some (.int .i64 c.base) ∧ W'.cell? ⟨w.heap.size, 3, none⟩ = some (.int .i64 c.second) ∧ W'.cell? ⟨w.heap.size, 4, none⟩ = some (.int .i64 c.third) ∧ W'.cell? ⟨b3, o3 + k * 4, none⟩ = some (.int .i64 ep) ∧ (∃ u, W'.cell? ⟨wr.heap.size, 0, none⟩ = some u) ∧ W'.cell? ⟨wr.heap.size, 1, none⟩ = some (.int .i64 es') ∧ W'.cell? ⟨wr.heap.size, 2, none⟩ = some (.int .i64 et) ∧ W'.cell? ⟨wr.heap.size, 3, none⟩ = some (.bool ev) ∧ W'.frozen? ⟨wr.heap.size, 0, none⟩ = false ∧ Below wr.heap.size wr W') → Calls Try.prog 16 #[.agg #[.slice (some ⟨b1, o1, none⟩) es.length a, .slice B m b, .int .i64 c.base, .int .i64 c.second, .int .i64 c.third], .slice N kn kc, .int .i64 ep] W' (fun e W' => e = .returned (.int .i64 (F ep)) ∧ (W'.cell? ⟨w.heap.size, 0, none⟩ = some (.slice (some ⟨b1, o1, none⟩) es.length a) ∧ W'.cell? ⟨w.heap.size, 1, none⟩ = some (.slice B m b) ∧ W'.cell? ⟨w.heap.size, 2, none⟩ = some (.int .i64 c.base) ∧ W'.cell? ⟨w.heap.size, 3, none⟩ = some (.int .i64 c.second) ∧ W'.cell? ⟨w.heap.size, 4, none⟩ = some (.int .i64 c.third) ∧ W'.cell? ⟨b3, o3 + k * 4, none⟩ = some (.int .i64 ep) ∧ (∃ u, W'.cell? ⟨wr.heap.size, 0, none⟩ = some u) ∧ W'.cell? ⟨wr.heap.size, 1, none⟩ = some (.int .i64 es') ∧ W'.cell? ⟨wr.heap.size, 2, none⟩ = some (.int .i64 et) ∧ W'.cell? ⟨wr.heap.size, 3, none⟩ = some (.bool ev) ∧ W'.frozen? ⟨wr.heap.size, 0, none⟩ = false ∧ Below wr.heap.size wr W')) from fun W' ⟨s0, s1, s2, s3, s4, sp, ⟨su, hsu⟩, t1, t2, t3, tf, tb⟩ => by
                refine (MK.out W' (HBWQ.out.trans (tb.mono HBWQ.out.size))).mono ?_
                rintro e W'' ⟨rfl, hb⟩
                have hlt0 : wr.heap.size < W'.heap.size := World.block_lt_of_cell? W' _ hsu
                have hb' := tb.trans (hb.mono tb.size)
                exact ⟨rfl, (hb'.cell (p := ⟨w.heap.size, 0, none⟩) hxw).trans e0, (hb'.cell (p := ⟨w.heap.size, 1, none⟩) hxw).trans e1, (hb'.cell (p := ⟨w.heap.size, 2, none⟩) hxw).trans e2, (hb'.cell (p := ⟨w.heap.size, 3, none⟩) hxw).trans e3, (hb'.cell (p := ⟨w.heap.size, 4, none⟩) hxw).trans e4, (hb'.cell (p := ⟨b3, o3 + k * 4, none⟩) hbl3).trans a1, ⟨_, (hb.cell (p := ⟨wr.heap.size, 0, none⟩) hlt0).trans hsu⟩, (hb.cell (p := ⟨wr.heap.size, 1, none⟩) hlt0).trans t1, (hb.cell (p := ⟨wr.heap.size, 2, none⟩) hlt0).trans t2, (hb.cell (p := ⟨wr.heap.size, 3, none⟩) hlt0).trans t3, (hb.frozen (p := ⟨wr.heap.size, 0, none⟩) hlt0).trans tf, hb'⟩)
              clear m0 m1 m2 m3 mf sy By MK
              refine wp_region_held_drew (S := fun W' => W'.cell? ⟨w.heap.size, 0, none⟩ = some (.slice (some ⟨b1, o1, none⟩) es.length a) ∧ W'.cell? ⟨w.heap.size, 1, none⟩ = some (.slice B m b) ∧ W'.cell? ⟨w.heap.size, 2, none⟩ = some (.int .i64 c.base) ∧ W'.cell? ⟨w.heap.size, 3, none⟩ = some (.int .i64 c.second) ∧ W'.cell? ⟨w.heap.size, 4, none⟩ = some (.int .i64 c.third) ∧ W'.cell? ⟨b3, o3 + k * 4, none⟩ = some (.int .i64 ep) ∧ (∃ u, W'.cell? ⟨wr.heap.size, 0, none⟩ = some u) ∧ W'.cell? ⟨wr.heap.size, 1, none⟩ = some (.int .i64 es') ∧ W'.cell? ⟨wr.heap.size, 2, none⟩ = some (.int .i64 et) ∧ W'.cell? ⟨wr.heap.size, 3, none⟩ = some (.bool ev) ∧ W'.frozen? ⟨wr.heap.size, 0, none⟩ = false ∧ Below wr.heap.size wr W') (by kernel_rfl) (by (try dsimp only); exact SD.out _ (below_of_drewN Wy 1)) (fun hHeld => ?_)
              refine anyH_take (i := 0) (v := ?_) (some 106) rfl rfl (by kernel_rfl) (by kernel_rfl) (by kernel_rfl) (fun _ _ _ h => h) (by rfl) (by assumption) ?_ ?_
              rotate_left
              · intro w hSw; (try dsimp only at hSw); go_split_ands; go_simp; try (with_reducible rfl)
              try simp only [Act.put, List.setIfInBounds_toArray, List.set_cons_zero, List.set_cons_succ]
              refine anyH_take (i := 1) (v := ?_) (some 107) rfl rfl (by kernel_rfl) (by kernel_rfl) (by kernel_rfl) (fun _ _ _ h => h) (by rfl) (by assumption) ?_ ?_
              rotate_left
              · intro w hSw; (try dsimp only at hSw); go_split_ands; go_simp; try (with_reducible rfl)
              try simp only [Act.put, List.setIfInBounds_toArray, List.set_cons_zero, List.set_cons_succ]
              refine anyH_take (i := 2) (v := ?_) (some 108) rfl rfl (by kernel_rfl) (by kernel_rfl) (by kernel_rfl) (fun _ _ _ h => h) (by rfl) (by assumption) ?_ ?_
              rotate_left
              · intro w hSw; (try dsimp only at hSw); go_split_ands; go_simp; try (with_reducible rfl)
              try simp only [Act.put, List.setIfInBounds_toArray, List.set_cons_zero, List.set_cons_succ]
              refine anyH_take (i := 3) (v := ?_) (some 109) rfl rfl (by kernel_rfl) (by kernel_rfl) (by kernel_rfl) (fun _ _ _ h => h) (by rfl) (by assumption) ?_ ?_
              rotate_left
              · intro w hSw; (try dsimp only at hSw); go_split_ands; go_simp; try (with_reducible rfl)
              try simp only [Act.put, List.setIfInBounds_toArray, List.set_cons_zero, List.set_cons_succ]
              refine anyH_take (i := 4) (v := ?_) (some 110) rfl rfl (by kernel_rfl) (by kernel_rfl) (by kernel_rfl) (fun _ _ _ h => h) (by rfl) (by assumption) ?_ ?_
              rotate_left
              · intro w hSw; (try dsimp only at hSw); go_split_ands; go_simp; try (with_reducible rfl)
              try simp only [Act.put, List.setIfInBounds_toArray, List.set_cons_zero, List.set_cons_succ]
              refine anyH_take (i := 5) (v := ?_) (some 111) rfl rfl (by kernel_rfl) (by kernel_rfl) (by kernel_rfl) (fun _ _ _ h => h) (by rfl) (by assumption) ?_ ?_
              rotate_left
              · intro w hSw; (try dsimp only at hSw); go_split_ands; go_simp; try (with_reducible rfl)
              try simp only [Act.put, List.setIfInBounds_toArray, List.set_cons_zero, List.set_cons_succ]
              refine anyH_take (i := 6) (v := ?_) (some 112) rfl rfl (by kernel_rfl) (by kernel_rfl) (by kernel_rfl) (fun _ _ _ h => h) (by rfl) (by assumption) ?_ ?_
              rotate_left
              · intro w hSw; (try dsimp only at hSw); go_split_ands; go_simp; try (with_reducible rfl)
              try simp only [Act.put, List.setIfInBounds_toArray, List.set_cons_zero, List.set_cons_succ]
              refine anyH_call (i := 7) (some 113) rfl rfl (by kernel_rfl) (by rfl) (by go_simp) (CM.out _ hHeld) (fun w6 hS6 => ?_)
              clear hHeld
              try simp only [Act.put, List.setIfInBounds_toArray, List.set_cons_zero, List.set_cons_succ]
              refine anyH_take (i := 8) (v := ?_) (some 114) rfl rfl (by kernel_rfl) (by kernel_rfl) (by kernel_rfl) (fun _ _ _ h => h) (by rfl) (by assumption) ?_ ?_
              rotate_left
              · intro w hSw; (try dsimp only at hSw); go_split_ands; go_simp; try (with_reducible rfl)
              try simp only [Act.put, List.setIfInBounds_toArray, List.set_cons_zero, List.set_cons_succ]
              obtain ⟨v0, v1, v2, v3, v4, vp, ⟨u0, vu⟩, vs1, vs2, vs3, vf, vb⟩ := hS6
              refine wpAnyH_ready (rs := [9]) (by kernel_rfl) (by simp) ?_
              refine AllReadyH.cons rfl (fun K hK => ?_) AllReadyH.nil
              go_simp
              have vb' := vb.setCell (p := ⟨wr.heap.size, 0, none⟩) (Nat.le_refl _) (.int .i64 (F ep))
              have y0 : (w6.setCell ⟨wr.heap.size, 0, none⟩ (.int .i64 (F ep))).cell? ⟨wr.heap.size, 0, none⟩ = some (.int .i64 (F ep)) := by go_simp
              have y1 := (World.cell?_setCell_other w6 ⟨wr.heap.size, 0, none⟩ ⟨wr.heap.size, 1, none⟩ (.int .i64 (F ep)) (by simp)).trans vs1
              have y2 := (World.cell?_setCell_other w6 ⟨wr.heap.size, 0, none⟩ ⟨wr.heap.size, 2, none⟩ (.int .i64 (F ep)) (by simp)).trans vs2
              have y3 := (World.cell?_setCell_other w6 ⟨wr.heap.size, 0, none⟩ ⟨wr.heap.size, 3, none⟩ (.int .i64 (F ep)) (by simp)).trans vs3
              have yf : (w6.setCell ⟨wr.heap.size, 0, none⟩ (.int .i64 (F ep))).frozen? ⟨wr.heap.size, 0, none⟩ = false := by simpa using vf
              refine hK.out _ _ ⟨(vb'.cell (p := ⟨w.heap.size, 0, none⟩) hxw).trans e0, (vb'.cell (p := ⟨w.heap.size, 1, none⟩) hxw).trans e1, (vb'.cell (p := ⟨w.heap.size, 2, none⟩) hxw).trans e2, (vb'.cell (p := ⟨w.heap.size, 3, none⟩) hxw).trans e3, (vb'.cell (p := ⟨w.heap.size, 4, none⟩) hxw).trans e4, (vb'.cell (p := ⟨b3, o3 + k * 4, none⟩) hbl3).trans a1, ⟨_, y0⟩, y1, y2, y3, yf, vb'⟩ (fun hHeld => ?_)
              clear hK K hHeld
              try simp only [Act.put, List.setIfInBounds_toArray, List.set_cons_zero, List.set_cons_succ]
              refine wpAnyH_done (by kernel_rfl) ?_ _
              have i1 := (vb'.cell (p := ⟨b4, o4 + k * 4, none⟩) hbl4).trans f1
              have i2 := (vb'.cell (p := ⟨b4, o4 + k * 4 + 1, none⟩) hbl4).trans f2
              have i3 := (vb'.cell (p := ⟨b4, o4 + k * 4 + 2, none⟩) hbl4).trans f3
              have i4 := (vb'.cell (p := ⟨b4, o4 + k * 4 + 3, none⟩) hbl4).trans f4
              obtain ⟨Wf, hWf⟩ : ∃ Wf, w6.setCell ⟨wr.heap.size, 0, none⟩ (.int .i64 (F ep)) = Wf := ⟨_, rfl⟩
              rw [hWf] at vb' y0 y1 y2 y3 i1 i2 i3 i4 ⊢
              clear hWf v0 v1 v2 v3 v4 vp vu vs1 vs2 vs3 vf vb yf e0 e1 e2 e3 e4 a1 a2 a3 a4 f1 f2 f3 f4 SD CM
              have hneq1 := fun W => neq_elt (F ep) es' et ev W
              have hgd : Try.prog.eqGuardType Try.prog.depth 51 = false := by kernel_rfl
              go_wp2_with fail
              go_quiet (fail)
              go_wp2_with fail
              go_roundw
              case rel => exact ⟨k + 1, by omega, by go_num, (hbq.trans (vb'.mono hbq.size)).trans ((below_of_drewN _ _).mono (Nat.le_trans hbq.size vb'.size))⟩
              case measure => simp [intOf]; omega
            · go_wp2_with fail
              go_roundw
              case rel => exact ⟨i + 1, by omega, by go_num, hbq4⟩
              case measure => simp [intOf]; omega
        · clear e1 e2 e3 e4 u0
          go_wp2_with fail
          refine (alive_any wr).mono ?_
          rintro e W5 ⟨rfl, hb10⟩
          go_wp2_with fail
          go_ret
          exact ⟨rfl, hbw.trans (hb10.mono hbw.size)⟩
    · have q1 : (ordErr c names != 0) = true := by simpa using he
      clear he OL X1 HX HC3 HG3 HE HNN MC
      generalize ordErr c names = er at *
      generalize ordOut c names = og at *
      go_wp2_with fail
      refine (alive_any W3).mono ?_
      rintro e W5 ⟨rfl, hb10⟩
      go_wp2_with fail
      go_ret
      exact ⟨rfl, hb7.trans (hb10.mono hb7.size)⟩

end Go.Proofs.Ytnfnoefjgiojoaa
