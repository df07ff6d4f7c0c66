/- The walk of the law GroupsApplies. Written by gen_applies.py. -/
import Derived.Test.YtnfnoefjgiojoaaSameC
namespace Go.Proofs.Ytnfnoefjgiojoaa
open Go.RowKit Go.Maps Go.WideMaps

theorem app_sz {c : Col} {names : List ByteArray} (hz : ColSz c) : ColSz (appC c names) := by
  by_cases h : ordErr c names = 0
  · rw [appC1 h]
    refine ⟨fun i hi => ?_, by simpa using hz.n, by rw [(ordF h).len]; exact hz.m⟩
    have hi' : i < c.ents.length := by simpa using hi
    have := hz.e i hi'
    simpa [movEnt] using this
  · rw [appC0 h]
    exact ⟨fun i hi => absurd hi (Nat.not_lt_zero _), by decide, by decide⟩

set_option maxRecDepth 100000 in
set_option maxHeartbeats 3200000 in
theorem GroupsApplies_any (A : Option Addr) (n a : Nat) (B : Option Addr) (m b : Nat) (c : Col) (N : Option Addr) (kn kc : Nat) (names : List ByteArray) (w : World) (h : ColAt w A n B m c)
    (hN : Strs w N names) (hkn : names.length = kn) (hkc : kn ≤ kc) (hns : ∀ s ∈ names, s.size ≤ 9223372036854775807) :
    Calls Try.prog 7 #[colV A n a B m b c, .slice N kn kc] w (RetT w) := by
  have B0 : Below w.heap.size w (w.alloc (.cells #[.slice A n a, .slice B m b, .int .i64 c.base, .int .i64 c.second, .int .i64 c.third] 25)) := (Below.refl _ _).alloc (Nat.le_refl _) _
  have k0 : (w.alloc (.cells #[.slice A n a, .slice B m b, .int .i64 c.base, .int .i64 c.second, .int .i64 c.third] 25)).cell? ⟨w.heap.size, 0, none⟩ = some (.slice A n a) := by simp
  have k1 : (w.alloc (.cells #[.slice A n a, .slice B m b, .int .i64 c.base, .int .i64 c.second, .int .i64 c.third] 25)).cell? ⟨w.heap.size, 1, none⟩ = some (.slice B m b) := by simp
  have k2 : (w.alloc (.cells #[.slice A n a, .slice B m b, .int .i64 c.base, .int .i64 c.second, .int .i64 c.third] 25)).cell? ⟨w.heap.size, 2, none⟩ = some (.int .i64 c.base) := by simp
  have k3 : (w.alloc (.cells #[.slice A n a, .slice B m b, .int .i64 c.base, .int .i64 c.second, .int .i64 c.third] 25)).cell? ⟨w.heap.size, 3, none⟩ = some (.int .i64 c.second) := by simp
  have k4 : (w.alloc (.cells #[.slice A n a, .slice B m b, .int .i64 c.base, .int .i64 c.second, .int .i64 c.third] 25)).cell? ⟨w.heap.size, 4, none⟩ = some (.int .i64 c.third) := by simp
  have s0 : (w.alloc (.cells #[.slice A n a, .slice B m b, .int .i64 c.base, .int .i64 c.second, .int .i64 c.third] 25)).heap.size = w.heap.size + 1 := by simp
  have W0E : ∃ W0, w.alloc (.cells #[.slice A n a, .slice B m b, .int .i64 c.base, .int .i64 c.second, .int .i64 c.third] 25) = W0 := ⟨_, rfl⟩
  have FC := Lib.hid (fun W (hb : Below w.heap.size w W) => few_any A n a B m b c N kn kc names W (h.below hb) hkn)
  have OC := Lib.hid (fun W (hb : Below w.heap.size w W) (hf : fewC c names = true) => Apply_any A n a B m b c N kn kc names W (h.below hb) (few_sz hf).1 (by have := (few_sz hf).2.1; have := h.hm; omega) (hN.below hb) hkn (by have := (few_sz hf).2.2; omega) hns)
  have RC := Lib.hid (fun W (hb : Below w.heap.size w W) (hf : fewC c names = true) => refApply_any A n a B m b c N kn kc names W (h.below hb) (few_sz hf).1 (by have := (few_sz hf).2.1; have := h.hm; omega) (hN.below hb) hkn (by have := (few_sz hf).2.2; omega) hkc)
  have SZ := Lib.hid (fun (hf : fewC c names = true) => app_sz (names := names) (few_sz hf).1)
  unfold colV at *
  clear h hN hns
  go_enter Try.func7, Try.ntmps7
  go_wp2_with fail
  obtain ⟨W0, hW0⟩ := W0E
  rw [hW0] at B0 s0 k0 k1 k2 k3 k4 ⊢
  clear hW0
  with_reducible refine (FC.out W0 B0).mono ?_
  rintro e W1 ⟨rfl, hb1⟩
  have hx0 : w.heap.size < W0.heap.size := by omega
  have hb2 := B0.trans (hb1.mono B0.size)
  have f0 := (hb1.cell (p := ⟨w.heap.size, 0, none⟩) hx0).trans k0
  have f1 := (hb1.cell (p := ⟨w.heap.size, 1, none⟩) hx0).trans k1
  have f2 := (hb1.cell (p := ⟨w.heap.size, 2, none⟩) hx0).trans k2
  have f3 := (hb1.cell (p := ⟨w.heap.size, 3, none⟩) hx0).trans k3
  have f4 := (hb1.cell (p := ⟨w.heap.size, 4, none⟩) hx0).trans k4
  have hx1 : w.heap.size < W1.heap.size := by have := hb1.size; omega
  clear k0 k1 k2 k3 k4 FC B0 hb1 s0 hx0
  cases hf : fewC c names with
  | false =>
    clear OC RC SZ
    go_wp2_with fail
    refine (alive_any W1).mono ?_
    rintro e W2 ⟨rfl, hb3⟩
    go_wp2_with fail
    go_ret
    exact ⟨rfl, hb2.trans (hb3.mono hb2.size)⟩
  | true =>
    have OC := Lib.hid (fun W hb => OC.out W hb hf)
    have RC := Lib.hid (fun W hb => RC.out W hb hf)
    have sz := SZ.out hf
    clear hf SZ
    generalize appC c names = x at *
    generalize ordErr c names = er at *
    go_wp2_with fail
    with_reducible refine (OC.out W1 hb2).mono ?_
    rintro e W2 ⟨A2, n2, a2, B2, m2, b2, rfl, hC2, hn2, hm2, hb3⟩
    unfold colV
    have HC2 := Lib.hid hC2
    have hb4 := hb2.trans (hb3.mono hb2.size)
    have g0 := (hb3.cell (p := ⟨w.heap.size, 0, none⟩) hx1).trans f0
    have g1 := (hb3.cell (p := ⟨w.heap.size, 1, none⟩) hx1).trans f1
    have g2 := (hb3.cell (p := ⟨w.heap.size, 2, none⟩) hx1).trans f2
    have g3 := (hb3.cell (p := ⟨w.heap.size, 3, none⟩) hx1).trans f3
    have g4 := (hb3.cell (p := ⟨w.heap.size, 4, none⟩) hx1).trans f4
    have hx2 : w.heap.size < W2.heap.size := by have := hb3.size; omega
    have hxn : ¬ w.heap.size = W2.heap.size := by omega
    have Bx : Below W2.heap.size W2 (W2.alloc (.cells #[.slice A2 n2 a2, .slice B2 m2 b2, .int .i64 x.base, .int .i64 x.second, .int .i64 x.third] 25)) := (Below.refl _ _).alloc (Nat.le_refl _) _
    have p0 : (W2.alloc (.cells #[.slice A2 n2 a2, .slice B2 m2 b2, .int .i64 x.base, .int .i64 x.second, .int .i64 x.third] 25)).cell? ⟨W2.heap.size, 0, none⟩ = some (.slice A2 n2 a2) := by simp
    have p1 : (W2.alloc (.cells #[.slice A2 n2 a2, .slice B2 m2 b2, .int .i64 x.base, .int .i64 x.second, .int .i64 x.third] 25)).cell? ⟨W2.heap.size, 1, none⟩ = some (.slice B2 m2 b2) := by simp
    have p2 : (W2.alloc (.cells #[.slice A2 n2 a2, .slice B2 m2 b2, .int .i64 x.base, .int .i64 x.second, .int .i64 x.third] 25)).cell? ⟨W2.heap.size, 2, none⟩ = some (.int .i64 x.base) := by simp
    have p3 : (W2.alloc (.cells #[.slice A2 n2 a2, .slice B2 m2 b2, .int .i64 x.base, .int .i64 x.second, .int .i64 x.third] 25)).cell? ⟨W2.heap.size, 3, none⟩ = some (.int .i64 x.second) := by simp
    have p4 : (W2.alloc (.cells #[.slice A2 n2 a2, .slice B2 m2 b2, .int .i64 x.base, .int .i64 x.second, .int .i64 x.third] 25)).cell? ⟨W2.heap.size, 4, none⟩ = some (.int .i64 x.third) := by simp
    have sx : (W2.alloc (.cells #[.slice A2 n2 a2, .slice B2 m2 b2, .int .i64 x.base, .int .i64 x.second, .int .i64 x.third] 25)).heap.size = W2.heap.size + 1 := by simp
    clear f0 f1 f2 f3 f4 OC hb2 hb3 hC2 hx1
    go_wp2_with fail
    obtain ⟨Wx, hWx⟩ : ∃ Wx, W2.alloc (.cells #[.slice A2 n2 a2, .slice B2 m2 b2, .int .i64 x.base, .int .i64 x.second, .int .i64 x.third] 25) = Wx := ⟨_, rfl⟩
    rw [hWx] at Bx p0 p1 p2 p3 p4 sx ⊢
    clear hWx g0 g1 g2 g3 g4
    have hb5 := hb4.trans (Bx.mono hb4.size)
    with_reducible refine (RC.out Wx hb5).mono ?_
    rintro e W3 ⟨A3, n3, a3, B3, m3, b3, rfl, hC3, hn3, hm3, hb6⟩
    unfold colV
    have hx3 : W2.heap.size < Wx.heap.size := by omega
    have r0 := (hb6.cell (p := ⟨W2.heap.size, 0, none⟩) hx3).trans p0
    have r1 := (hb6.cell (p := ⟨W2.heap.size, 1, none⟩) hx3).trans p1
    have r2 := (hb6.cell (p := ⟨W2.heap.size, 2, none⟩) hx3).trans p2
    have r3 := (hb6.cell (p := ⟨W2.heap.size, 3, none⟩) hx3).trans p3
    have r4 := (hb6.cell (p := ⟨W2.heap.size, 4, none⟩) hx3).trans p4
    have hx4 : W2.heap.size < W3.heap.size := by have := hb6.size; omega
    have hxm : ¬ W2.heap.size = W3.heap.size := by omega
    have By : Below W3.heap.size W3 (W3.alloc (.cells #[.slice A3 n3 a3, .slice B3 m3 b3, .int .i64 x.base, .int .i64 x.second, .int .i64 x.third] 25)) := (Below.refl _ _).alloc (Nat.le_refl _) _
    have hb7 := hb5.trans (hb6.mono hb5.size)
    have HB := Lib.hid (hb7.trans (By.mono hb7.size))
    have SC := Lib.hid (sameC_eq A2 n2 a2 B2 m2 b2 A3 n3 a3 B3 m3 b3 x (W3.alloc (.cells #[.slice A3 n3 a3, .slice B3 m3 b3, .int .i64 x.base, .int .i64 x.second, .int .i64 x.third] 25)) (((HC2.out.below Bx).below hb6).below By) (hC3.below By) sz)
    unfold colV at SC
    clear RC hC3 HC2 p0 p1 p2 p3 p4 By hb6 hb5 hb4 Bx
    go_wp2_with fail
    with_reducible refine SC.out.mono ?_
    rintro e W4 ⟨rfl, hb8⟩
    have hb9 := HB.out.trans (hb8.mono HB.out.size)
    clear SC hb8
    go_wp2_with fail
    refine (alive_any W4).mono ?_
    rintro e W5 ⟨rfl, hb10⟩
    go_wp2_with fail
    go_ret
    exact ⟨rfl, hb9.trans (hb10.mono hb9.size)⟩

end Go.Proofs.Ytnfnoefjgiojoaa
