/- The walk of the law GroupsBack. Written by gen_back.py. -/
import Derived.Test.YtnfnoefjgiojoaaNames
import Derived.Test.YtnfnoefjgiojoaaHeldSkip
namespace Go.Proofs.Ytnfnoefjgiojoaa
open Go.RowKit Go.Maps Go.WideMaps

set_option linter.unusedSimpArgs false in
set_option maxRecDepth 100000 in
set_option maxHeartbeats 3200000 in
theorem GroupsBack_any (A : Option Addr) (n a : Nat) (B : Option Addr) (m b : Nat) (c : Col) (N : Option Addr) (kn kc : Nat) (names : List ByteArray) (w : World) (h : ColAt w A n B m c)
    (hN : Strs w N names) (hkn : names.length = kn) (hns : ∀ s ∈ names, s.size ≤ 9223372036854775807) :
    Calls Try.prog 8 #[colV A n a B m b c, .slice N kn kc] w (RetT w) := by
  have B0 : Below w.heap.size w (w.alloc (.cells #[.slice A n a, .slice B m b, .int .i64 c.base, .int .i64 c.second, .int .i64 c.third] 25)) := (Below.refl _ _).alloc (Nat.le_refl _) _
  have k0 : (w.alloc (.cells #[.slice A n a, .slice B m b, .int .i64 c.base, .int .i64 c.second, .int .i64 c.third] 25)).cell? ⟨w.heap.size, 0, none⟩ = some (.slice A n a) := by simp
  have k1 : (w.alloc (.cells #[.slice A n a, .slice B m b, .int .i64 c.base, .int .i64 c.second, .int .i64 c.third] 25)).cell? ⟨w.heap.size, 1, none⟩ = some (.slice B m b) := by simp
  have k2 : (w.alloc (.cells #[.slice A n a, .slice B m b, .int .i64 c.base, .int .i64 c.second, .int .i64 c.third] 25)).cell? ⟨w.heap.size, 2, none⟩ = some (.int .i64 c.base) := by simp
  have k3 : (w.alloc (.cells #[.slice A n a, .slice B m b, .int .i64 c.base, .int .i64 c.second, .int .i64 c.third] 25)).cell? ⟨w.heap.size, 3, none⟩ = some (.int .i64 c.second) := by simp
  have k4 : (w.alloc (.cells #[.slice A n a, .slice B m b, .int .i64 c.base, .int .i64 c.second, .int .i64 c.third] 25)).cell? ⟨w.heap.size, 4, none⟩ = some (.int .i64 c.third) := by simp
  have s0 : (w.alloc (.cells #[.slice A n a, .slice B m b, .int .i64 c.base, .int .i64 c.second, .int .i64 c.third] 25)).heap.size = w.heap.size + 1 := by simp
  have W0E : ∃ W0, w.alloc (.cells #[.slice A n a, .slice B m b, .int .i64 c.base, .int .i64 c.second, .int .i64 c.third] 25) = W0 := ⟨_, rfl⟩
  have FC := Lib.hid (fun W (hb : Below w.heap.size w W) => few_any A n a B m b c N kn kc names W (h.below hb) hkn)
  have OC := Lib.hid (fun W (hb : Below w.heap.size w W) (hf : fewC c names = true) => Apply_any A n a B m b c N kn kc names W (h.below hb) (few_sz hf).1 (by have := (few_sz hf).2.1; have := h.hm; omega) (hN.below hb) hkn (by have := (few_sz hf).2.2; omega) hns)
  have NC := Lib.hid (fun W (hb : Below w.heap.size w W) (hf : fewC c names = true) => Names_any B m b c.grps W (h.grps.below hb) h.hm (by have := (few_sz hf).2.1; have := h.hm; omega))
  have ZC := Lib.hid (fun W (hb : Below w.heap.size w W) (hf : fewC c names = true) => Apply_any A n a B m b c none 0 0 [] W (h.below hb) (few_sz hf).1 (by have := (few_sz hf).2.1; have := h.hm; omega) (Sl.nil _ _) rfl (by omega) (by simp))
  have HCA := Lib.hid h
  have HSM := Lib.hid (fun (hf : fewC c names = true) => And.intro (few_sz hf).1 (few_sz hf).2.1)
  have XB := Lib.hid (app_back (c := c) (names := names))
  have XN := Lib.hid (app_none (c := c) (names := names))
  have XV := Lib.hid (app_valid (c := c) (names := names))
  have X0 := Lib.hid (appC0 (c := c) (names := names))
  have X1 := Lib.hid (appC1 (c := c) (names := names))
  have SZ := Lib.hid (fun (hf : fewC c names = true) => app_sz (names := names) (few_sz hf).1)
  unfold colV at *
  clear h hN hns
  go_enter Try.func8, Try.ntmps8
  go_wp2_with fail
  obtain ⟨W0, hW0⟩ := W0E
  rw [hW0] at B0 s0 k0 k1 k2 k3 k4 ⊢
  clear hW0
  with_reducible refine (FC.out W0 B0).mono ?_
  rintro e W1 ⟨rfl, hb1⟩
  have hx0 : w.heap.size < W0.heap.size := by omega
  have hb2 := B0.trans (hb1.mono B0.size)
  have f0 := (hb1.cell (p := ⟨w.heap.size, 0, none⟩) hx0).trans k0
  have f1 := (hb1.cell (p := ⟨w.heap.size, 1, none⟩) hx0).trans k1
  have f2 := (hb1.cell (p := ⟨w.heap.size, 2, none⟩) hx0).trans k2
  have f3 := (hb1.cell (p := ⟨w.heap.size, 3, none⟩) hx0).trans k3
  have f4 := (hb1.cell (p := ⟨w.heap.size, 4, none⟩) hx0).trans k4
  have hx1 : w.heap.size < W1.heap.size := by have := hb1.size; omega
  clear k0 k1 k2 k3 k4 FC B0 hb1 s0 hx0
  cases hf : fewC c names with
  | false =>
    clear OC SZ NC ZC HSM XB XN XV X0 X1
    go_wp2_with fail
    refine (alive_any W1).mono ?_
    rintro e W2 ⟨rfl, hb3⟩
    go_wp2_with fail
    go_ret
    exact ⟨rfl, hb2.trans (hb3.mono hb2.size)⟩
  | true =>
    have OC := Lib.hid (fun W hb => OC.out W hb hf)
    have NC := Lib.hid (fun W hb => NC.out W hb hf)
    have ZC := Lib.hid (fun W hb => ZC.out W hb hf)
    obtain ⟨sm1, sm2⟩ := HSM.out hf
    have sz := SZ.out hf
    clear hf SZ HSM
    generalize hX : appC c names = x at *
    go_wp2_with fail
    with_reducible refine (OC.out W1 hb2).mono ?_
    rintro e W2 ⟨A2, n2, a2, B2, m2, b2, rfl, hC2, hn2, hm2, hb3⟩
    unfold colV
    have HC2 := Lib.hid hC2
    have hb4 := hb2.trans (hb3.mono hb2.size)
    have g0 := (hb3.cell (p := ⟨w.heap.size, 0, none⟩) hx1).trans f0
    have g1 := (hb3.cell (p := ⟨w.heap.size, 1, none⟩) hx1).trans f1
    have g2 := (hb3.cell (p := ⟨w.heap.size, 2, none⟩) hx1).trans f2
    have g3 := (hb3.cell (p := ⟨w.heap.size, 3, none⟩) hx1).trans f3
    have g4 := (hb3.cell (p := ⟨w.heap.size, 4, none⟩) hx1).trans f4
    have hx2 : w.heap.size < W2.heap.size := by have := hb3.size; omega
    have hxn : ¬ w.heap.size = W2.heap.size := by omega
    have Bx : Below W2.heap.size W2 (W2.alloc (.cells #[.slice A2 n2 a2, .slice B2 m2 b2, .int .i64 x.base, .int .i64 x.second, .int .i64 x.third] 25)) := (Below.refl _ _).alloc (Nat.le_refl _) _
    have p0 : (W2.alloc (.cells #[.slice A2 n2 a2, .slice B2 m2 b2, .int .i64 x.base, .int .i64 x.second, .int .i64 x.third] 25)).cell? ⟨W2.heap.size, 0, none⟩ = some (.slice A2 n2 a2) := by simp
    have p1 : (W2.alloc (.cells #[.slice A2 n2 a2, .slice B2 m2 b2, .int .i64 x.base, .int .i64 x.second, .int .i64 x.third] 25)).cell? ⟨W2.heap.size, 1, none⟩ = some (.slice B2 m2 b2) := by simp
    have p2 : (W2.alloc (.cells #[.slice A2 n2 a2, .slice B2 m2 b2, .int .i64 x.base, .int .i64 x.second, .int .i64 x.third] 25)).cell? ⟨W2.heap.size, 2, none⟩ = some (.int .i64 x.base) := by simp
    have p3 : (W2.alloc (.cells #[.slice A2 n2 a2, .slice B2 m2 b2, .int .i64 x.base, .int .i64 x.second, .int .i64 x.third] 25)).cell? ⟨W2.heap.size, 3, none⟩ = some (.int .i64 x.second) := by simp
    have p4 : (W2.alloc (.cells #[.slice A2 n2 a2, .slice B2 m2 b2, .int .i64 x.base, .int .i64 x.second, .int .i64 x.third] 25)).cell? ⟨W2.heap.size, 4, none⟩ = some (.int .i64 x.third) := by simp
    have sx : (W2.alloc (.cells #[.slice A2 n2 a2, .slice B2 m2 b2, .int .i64 x.base, .int .i64 x.second, .int .i64 x.third] 25)).heap.size = W2.heap.size + 1 := by simp
    clear f0 f1 f2 f3 f4 OC hb2 hb3 hC2 hx1
    by_cases he : ordErr c names = 0
    · have q1 : (ordErr c names != 0) = false := by simpa using he
      go_wp2_with fail
      obtain ⟨Wx, hWx⟩ : ∃ Wx, W2.alloc (.cells #[.slice A2 n2 a2, .slice B2 m2 b2, .int .i64 x.base, .int .i64 x.second, .int .i64 x.third] 25) = Wx := ⟨_, rfl⟩
      rw [hWx] at Bx p0 p1 p2 p3 p4 sx ⊢
      clear hWx
      have hb5 := hb4.trans (Bx.mono hb4.size)
      have hx3 : W2.heap.size < Wx.heap.size := by omega
      have hx5 : w.heap.size < Wx.heap.size := by omega
      have r0 := (Bx.cell (p := ⟨w.heap.size, 0, none⟩) hx2).trans g0
      have r1 := (Bx.cell (p := ⟨w.heap.size, 1, none⟩) hx2).trans g1
      have r2 := (Bx.cell (p := ⟨w.heap.size, 2, none⟩) hx2).trans g2
      have r3 := (Bx.cell (p := ⟨w.heap.size, 3, none⟩) hx2).trans g3
      have r4 := (Bx.cell (p := ⟨w.heap.size, 4, none⟩) hx2).trans g4
      have HC3 := Lib.hid (HC2.out.below Bx)
      clear g0 g1 g2 g3 g4 Bx HC2 hb4
      obtain ⟨hxb1, hxb2⟩ := XB.out he
      obtain ⟨hxn1, hxn2⟩ := XN.out he
      have hxv := XV.out he
      have hm2' : m2 ≤ 19 := by
        have h1 := HC3.out.hm
        have h2 := X1.out he
        rw [h2] at h1
        dsimp only at h1
        rw [(ordF he).len] at h1
        omega
      have hgl : (gnames c.grps).length = c.grps.length := by simp [gnames]
      have SK := Lib.hid (show ∀ W', Below Wx.heap.size Wx W' → W'.cell? ⟨w.heap.size, 0, none⟩ = some (.slice A n a) ∧ W'.cell? ⟨w.heap.size, 1, none⟩ = some (.slice B m b) ∧ W'.cell? ⟨w.heap.size, 2, none⟩ = some (.int .i64 c.base) ∧ W'.cell? ⟨w.heap.size, 3, none⟩ = some (.int .i64 c.second) ∧ W'.cell? ⟨w.heap.size, 4, none⟩ = some (.int .i64 c.third) ∧ W'.cell? ⟨W2.heap.size, 0, none⟩ = some (.slice A2 n2 a2) ∧ W'.cell? ⟨W2.heap.size, 1, none⟩ = some (.slice B2 m2 b2) ∧ W'.cell? ⟨W2.heap.size, 2, none⟩ = some (.int .i64 x.base) ∧ W'.cell? ⟨W2.heap.size, 3, none⟩ = some (.int .i64 x.second) ∧ W'.cell? ⟨W2.heap.size, 4, none⟩ = some (.int .i64 x.third) ∧ Below Wx.heap.size Wx W' from fun W' hb => ⟨(hb.cell (p := ⟨w.heap.size, 0, none⟩) hx5).trans r0, (hb.cell (p := ⟨w.heap.size, 1, none⟩) hx5).trans r1, (hb.cell (p := ⟨w.heap.size, 2, none⟩) hx5).trans r2, (hb.cell (p := ⟨w.heap.size, 3, none⟩) hx5).trans r3, (hb.cell (p := ⟨w.heap.size, 4, none⟩) hx5).trans r4, (hb.cell (p := ⟨W2.heap.size, 0, none⟩) hx3).trans p0, (hb.cell (p := ⟨W2.heap.size, 1, none⟩) hx3).trans p1, (hb.cell (p := ⟨W2.heap.size, 2, none⟩) hx3).trans p2, (hb.cell (p := ⟨W2.heap.size, 3, none⟩) hx3).trans p3, (hb.cell (p := ⟨W2.heap.size, 4, none⟩) hx3).trans p4, hb⟩)
      have CN := Lib.hid (show ∀ W', (W'.cell? ⟨w.heap.size, 0, none⟩ = some (.slice A n a) ∧ W'.cell? ⟨w.heap.size, 1, none⟩ = some (.slice B m b) ∧ W'.cell? ⟨w.heap.size, 2, none⟩ = some (.int .i64 c.base) ∧ W'.cell? ⟨w.heap.size, 3, none⟩ = some (.int .i64 c.second) ∧ W'.cell? ⟨w.heap.size, 4, none⟩ = some (.int .i64 c.third) ∧ W'.cell? ⟨W2.heap.size, 0, none⟩ = some (.slice A2 n2 a2) ∧ W'.cell? ⟨W2.heap.size, 1, none⟩ = some (.slice B2 m2 b2) ∧ W'.cell? ⟨W2.heap.size, 2, none⟩ = some (.int .i64 x.base) ∧ W'.cell? ⟨W2.heap.size, 3, none⟩ = some (.int .i64 x.second) ∧ W'.cell? ⟨W2.heap.size, 4, none⟩ = some (.int .i64 x.third) ∧ Below Wx.heap.size Wx W') → Calls Try.prog 22 #[.slice B m b] W' (fun e w' => ∃ v, e = .returned v ∧ (w'.cell? ⟨w.heap.size, 0, none⟩ = some (.slice A n a) ∧ w'.cell? ⟨w.heap.size, 1, none⟩ = some (.slice B m b) ∧ w'.cell? ⟨w.heap.size, 2, none⟩ = some (.int .i64 c.base) ∧ w'.cell? ⟨w.heap.size, 3, none⟩ = some (.int .i64 c.second) ∧ w'.cell? ⟨w.heap.size, 4, none⟩ = some (.int .i64 c.third) ∧ w'.cell? ⟨W2.heap.size, 0, none⟩ = some (.slice A2 n2 a2) ∧ w'.cell? ⟨W2.heap.size, 1, none⟩ = some (.slice B2 m2 b2) ∧ w'.cell? ⟨W2.heap.size, 2, none⟩ = some (.int .i64 x.base) ∧ w'.cell? ⟨W2.heap.size, 3, none⟩ = some (.int .i64 x.second) ∧ w'.cell? ⟨W2.heap.size, 4, none⟩ = some (.int .i64 x.third) ∧ Below Wx.heap.size Wx w') ∧ (∃ AN cN, v = .slice AN (gnames c.grps).length cN ∧ (gnames c.grps).length ≤ cN ∧ Strs w' AN (gnames c.grps) ∧ Below W'.heap.size W' w')) from fun W' hS => by
        have hb := hS.2.2.2.2.2.2.2.2.2.2
        refine (NC.out W' (hb5.trans (hb.mono hb5.size))).mono ?_
        rintro e w' ⟨AN, cN, rfl, h1, h2, h3⟩
        exact ⟨_, rfl, SK.out w' (hb.trans (h3.mono hb.size)), AN, cN, rfl, h1, h2, h3⟩)
      have CA := Lib.hid (show ∀ W' AN cN, (gnames c.grps).length ≤ cN → Strs W' AN (gnames c.grps) → (W'.cell? ⟨w.heap.size, 0, none⟩ = some (.slice A n a) ∧ W'.cell? ⟨w.heap.size, 1, none⟩ = some (.slice B m b) ∧ W'.cell? ⟨w.heap.size, 2, none⟩ = some (.int .i64 c.base) ∧ W'.cell? ⟨w.heap.size, 3, none⟩ = some (.int .i64 c.second) ∧ W'.cell? ⟨w.heap.size, 4, none⟩ = some (.int .i64 c.third) ∧ W'.cell? ⟨W2.heap.size, 0, none⟩ = some (.slice A2 n2 a2) ∧ W'.cell? ⟨W2.heap.size, 1, none⟩ = some (.slice B2 m2 b2) ∧ W'.cell? ⟨W2.heap.size, 2, none⟩ = some (.int .i64 x.base) ∧ W'.cell? ⟨W2.heap.size, 3, none⟩ = some (.int .i64 x.second) ∧ W'.cell? ⟨W2.heap.size, 4, none⟩ = some (.int .i64 x.third) ∧ Below Wx.heap.size Wx W') → Calls Try.prog 19 #[colV A2 n2 a2 B2 m2 b2 x, .slice AN (gnames c.grps).length cN] W' (fun e w' => ∃ v, e = .returned v ∧ (w'.cell? ⟨w.heap.size, 0, none⟩ = some (.slice A n a) ∧ w'.cell? ⟨w.heap.size, 1, none⟩ = some (.slice B m b) ∧ w'.cell? ⟨w.heap.size, 2, none⟩ = some (.int .i64 c.base) ∧ w'.cell? ⟨w.heap.size, 3, none⟩ = some (.int .i64 c.second) ∧ w'.cell? ⟨w.heap.size, 4, none⟩ = some (.int .i64 c.third) ∧ w'.cell? ⟨W2.heap.size, 0, none⟩ = some (.slice A2 n2 a2) ∧ w'.cell? ⟨W2.heap.size, 1, none⟩ = some (.slice B2 m2 b2) ∧ w'.cell? ⟨W2.heap.size, 2, none⟩ = some (.int .i64 x.base) ∧ w'.cell? ⟨W2.heap.size, 3, none⟩ = some (.int .i64 x.second) ∧ w'.cell? ⟨W2.heap.size, 4, none⟩ = some (.int .i64 x.third) ∧ Below Wx.heap.size Wx w') ∧ (∃ A3 n3 a3 B3 m3 b3, v = .tuple #[colV A3 n3 a3 B3 m3 b3 c, .int .i64 0] ∧ ColAt w' A3 n3 B3 m3 c ∧ n3 ≤ a3 ∧ m3 ≤ b3 ∧ Below W'.heap.size W' w' ∧ (∀ (w'' : World) (q : Nat), q < W'.heap.size → (∀ o s, w'.cell? ⟨q, o, none⟩ ≠ some (.string s)) → (∀ p : Addr, p.block ≠ q → w''.cell? p = w'.cell? p) → ColAt w'' A3 n3 B3 m3 c))) from fun W' AN cN hc hs hS => by
        have hb := hS.2.2.2.2.2.2.2.2.2.2
        have h0 := Apply_anyF A2 n2 a2 B2 m2 b2 x AN (gnames c.grps).length cN (gnames c.grps) W' (HC3.out.below hb) sz hm2' hs rfl (by rw [hgl]; omega) (fun s hs => by obtain ⟨g, hg, rfl⟩ := List.mem_map.1 hs; exact HCA.out.hs g hg)
        rw [hxb1, hxb2] at h0
        refine h0.mono ?_
        rintro e w' ⟨A3, n3, a3, B3, m3, b3, rfl, h1, h2, h3, h4, h5⟩
        exact ⟨_, rfl, SK.out w' (hb.trans (h4.mono hb.size)), A3, n3, a3, B3, m3, b3, rfl, h1, h2, h3, h4, h5⟩)
      have SA := Lib.hid (show ∀ W' (o : Obj), (W'.cell? ⟨w.heap.size, 0, none⟩ = some (.slice A n a) ∧ W'.cell? ⟨w.heap.size, 1, none⟩ = some (.slice B m b) ∧ W'.cell? ⟨w.heap.size, 2, none⟩ = some (.int .i64 c.base) ∧ W'.cell? ⟨w.heap.size, 3, none⟩ = some (.int .i64 c.second) ∧ W'.cell? ⟨w.heap.size, 4, none⟩ = some (.int .i64 c.third) ∧ W'.cell? ⟨W2.heap.size, 0, none⟩ = some (.slice A2 n2 a2) ∧ W'.cell? ⟨W2.heap.size, 1, none⟩ = some (.slice B2 m2 b2) ∧ W'.cell? ⟨W2.heap.size, 2, none⟩ = some (.int .i64 x.base) ∧ W'.cell? ⟨W2.heap.size, 3, none⟩ = some (.int .i64 x.second) ∧ W'.cell? ⟨W2.heap.size, 4, none⟩ = some (.int .i64 x.third) ∧ Below Wx.heap.size Wx W') → ((W'.alloc o).cell? ⟨w.heap.size, 0, none⟩ = some (.slice A n a) ∧ (W'.alloc o).cell? ⟨w.heap.size, 1, none⟩ = some (.slice B m b) ∧ (W'.alloc o).cell? ⟨w.heap.size, 2, none⟩ = some (.int .i64 c.base) ∧ (W'.alloc o).cell? ⟨w.heap.size, 3, none⟩ = some (.int .i64 c.second) ∧ (W'.alloc o).cell? ⟨w.heap.size, 4, none⟩ = some (.int .i64 c.third) ∧ (W'.alloc o).cell? ⟨W2.heap.size, 0, none⟩ = some (.slice A2 n2 a2) ∧ (W'.alloc o).cell? ⟨W2.heap.size, 1, none⟩ = some (.slice B2 m2 b2) ∧ (W'.alloc o).cell? ⟨W2.heap.size, 2, none⟩ = some (.int .i64 x.base) ∧ (W'.alloc o).cell? ⟨W2.heap.size, 3, none⟩ = some (.int .i64 x.second) ∧ (W'.alloc o).cell? ⟨W2.heap.size, 4, none⟩ = some (.int .i64 x.third) ∧ Below Wx.heap.size Wx (W'.alloc o)) from fun W' o hS => by
        have hb := hS.2.2.2.2.2.2.2.2.2.2
        exact SK.out _ (hb.trans (((Below.refl _ _).alloc (Nat.le_refl _) o).mono hb.size)))
      unfold colV at CA
      clear p0 p1 p2 p3 p4 r0 r1 r2 r3 r4
      refine wp_region_held_drew (S := fun W' => W'.cell? ⟨w.heap.size, 0, none⟩ = some (.slice A n a) ∧ W'.cell? ⟨w.heap.size, 1, none⟩ = some (.slice B m b) ∧ W'.cell? ⟨w.heap.size, 2, none⟩ = some (.int .i64 c.base) ∧ W'.cell? ⟨w.heap.size, 3, none⟩ = some (.int .i64 c.second) ∧ W'.cell? ⟨w.heap.size, 4, none⟩ = some (.int .i64 c.third) ∧ W'.cell? ⟨W2.heap.size, 0, none⟩ = some (.slice A2 n2 a2) ∧ W'.cell? ⟨W2.heap.size, 1, none⟩ = some (.slice B2 m2 b2) ∧ W'.cell? ⟨W2.heap.size, 2, none⟩ = some (.int .i64 x.base) ∧ W'.cell? ⟨W2.heap.size, 3, none⟩ = some (.int .i64 x.second) ∧ W'.cell? ⟨W2.heap.size, 4, none⟩ = some (.int .i64 x.third) ∧ Below Wx.heap.size Wx W') (by kernel_rfl) (SK.out _ (below_of_drewN Wx 1)) (fun hHeld => ?_)
      generalize Wx.drew = Wd at hHeld ⊢
      refine anyH_take (i := 0) (v := ?_) (some 31) rfl rfl (by kernel_rfl) (by kernel_rfl) (by kernel_rfl) (fun _ _ _ h => h) (by rfl) (by assumption) ?_ ?_
      rotate_left
      · intro w hSw; (try dsimp only at hSw); go_split_ands; go_simp; try (with_reducible rfl)
      try simp only [Act.put, List.setIfInBounds_toArray, List.set_cons_zero, List.set_cons_succ]
      refine anyH_take (i := 1) (v := ?_) (some 32) rfl rfl (by kernel_rfl) (by kernel_rfl) (by kernel_rfl) (fun _ _ _ h => h) (by rfl) (by assumption) ?_ ?_
      rotate_left
      · intro w hSw; (try dsimp only at hSw); go_split_ands; go_simp; try (with_reducible rfl)
      try simp only [Act.put, List.setIfInBounds_toArray, List.set_cons_zero, List.set_cons_succ]
      refine anyH_take (i := 2) (v := ?_) (some 33) rfl rfl (by kernel_rfl) (by kernel_rfl) (by kernel_rfl) (fun _ _ _ h => h) (by rfl) (by assumption) ?_ ?_
      rotate_left
      · intro w hSw; (try dsimp only at hSw); go_split_ands; go_simp; try (with_reducible rfl)
      try simp only [Act.put, List.setIfInBounds_toArray, List.set_cons_zero, List.set_cons_succ]
      refine wpAnyH_ready (rs := [3, 8]) (by kernel_rfl) (by simp) ?_
      refine AllReadyH.cons rfl (fun K hK => ?_) (AllReadyH.cons rfl (fun K hK => ?_) AllReadyH.nil)
      · refine step_call2 (some 34) rfl hK (by rfl) (by go_simp) (CN.out _ hHeld) (fun v Wn hHeldN hR => ?_)
        obtain ⟨AN, cN, rfl, hcN, hSN, hbN⟩ := hR
        clear hK K
        try simp only [Act.put, List.setIfInBounds_toArray, List.set_cons_zero, List.set_cons_succ]
        refine wpAnyH_ready (rs := [4, 8]) (by kernel_rfl) (by simp) ?_
        refine AllReadyH.cons rfl (fun K hK => ?_) (AllReadyH.cons rfl (fun K hK => ?_) AllReadyH.nil)
        · refine step_call2 (some 35) rfl hK (by rfl) (by go_simp) (CA.out _ AN cN hcN hSN hHeldN) (fun v Wa hHeldA hR => ?_)
          obtain ⟨A3, n3, a3, B3, m3, b3, rfl, hC3, hn3, hm3, hbA, hFr⟩ := hR
          clear hK K
          try simp only [Act.put, List.setIfInBounds_toArray, List.set_cons_zero, List.set_cons_succ]
          refine anyH_take (i := 5) (v := ?_) (some 30) rfl rfl (by kernel_rfl) (by kernel_rfl) (by kernel_rfl) (fun _ _ _ h => h) (by rfl) (by assumption) ?_ ?_
          rotate_left
          · intro w hSw; (try dsimp only at hSw); go_split_ands; go_simp; try (with_reducible rfl)
          try simp only [Act.put, List.setIfInBounds_toArray, List.set_cons_zero, List.set_cons_succ]
          refine anyH_take (i := 6) (v := ?_) (some 36) rfl rfl (by kernel_rfl) (by kernel_rfl) (by kernel_rfl) (fun _ _ _ h => h) (by rfl) (by assumption) ?_ ?_
          rotate_left
          · intro w hSw; (try dsimp only at hSw); go_split_ands; go_simp; try (with_reducible rfl)
          try simp only [Act.put, List.setIfInBounds_toArray, List.set_cons_zero, List.set_cons_succ]
          refine anyH_take (i := 7) (v := ?_) (some 37) rfl rfl (by kernel_rfl) (by kernel_rfl) (by kernel_rfl) (fun _ _ _ h => h) (by rfl) (by assumption) ?_ ?_
          rotate_left
          · intro w hSw; (try dsimp only at hSw); go_split_ands; go_simp; try (with_reducible rfl)
          try simp only [Act.put, List.setIfInBounds_toArray, List.set_cons_zero, List.set_cons_succ]
          refine wpAnyH_ready (rs := [8]) (by kernel_rfl) (by simp) ?_
          refine AllReadyH.cons rfl (fun K hK => ?_) AllReadyH.nil
          refine step_val2 (w' := Wa.alloc (.cells #[.slice none 0 0, .slice none 0 0, .int .i64 0, .int .i64 0, .int .i64 0] 25)) (v := .pointer (some ⟨Wa.heap.size, 0, none⟩)) (some 7) rfl hK (by rfl) (by go_simp) (SA.out _ _ hHeldA) (fun hHeldB => ?_)
          clear hK K
          try simp only [Act.put, List.setIfInBounds_toArray, List.set_cons_zero, List.set_cons_succ]
          refine wpAnyH_ready (rs := [9]) (by kernel_rfl) (by simp) ?_
          refine AllReadyH.cons rfl (fun K hK => ?_) AllReadyH.nil
          go_simp
          refine hK.out _ _ (SA.out _ _ hHeldA) (fun hHeldF => ?_)
          clear hK K
          try simp only [Act.put, List.setIfInBounds_toArray, List.set_cons_zero, List.set_cons_succ]
          refine anyH_take (i := 10) (v := ?_) (some 8) rfl rfl (by kernel_rfl) (by kernel_rfl) (by kernel_rfl) (fun _ _ _ h => h) (by rfl) (by assumption) ?_ ?_
          rotate_left
          · intro w hSw; (try dsimp only at hSw); go_split_ands; go_simp; try (with_reducible rfl)
          try simp only [Act.put, List.setIfInBounds_toArray, List.set_cons_zero, List.set_cons_succ]
          refine wpAnyH_done (by kernel_rfl) ?_ _
          have HCf := Lib.hid (hC3.below ((Below.refl _ Wa).alloc (Nat.le_refl _) (.cells #[.slice A3 n3 a3, .slice B3 m3 b3, .int .i64 c.base, .int .i64 c.second, .int .i64 c.third] 25)))
          have y0 : (Wa.alloc (.cells #[.slice A3 n3 a3, .slice B3 m3 b3, .int .i64 c.base, .int .i64 c.second, .int .i64 c.third] 25)).cell? ⟨Wa.heap.size, 0, none⟩ = some (.slice A3 n3 a3) := by simp
          have y1 : (Wa.alloc (.cells #[.slice A3 n3 a3, .slice B3 m3 b3, .int .i64 c.base, .int .i64 c.second, .int .i64 c.third] 25)).cell? ⟨Wa.heap.size, 1, none⟩ = some (.slice B3 m3 b3) := by simp
          have y2 : (Wa.alloc (.cells #[.slice A3 n3 a3, .slice B3 m3 b3, .int .i64 c.base, .int .i64 c.second, .int .i64 c.third] 25)).cell? ⟨Wa.heap.size, 2, none⟩ = some (.int .i64 c.base) := by simp
          have y3 : (Wa.alloc (.cells #[.slice A3 n3 a3, .slice B3 m3 b3, .int .i64 c.base, .int .i64 c.second, .int .i64 c.third] 25)).cell? ⟨Wa.heap.size, 3, none⟩ = some (.int .i64 c.second) := by simp
          have y4 : (Wa.alloc (.cells #[.slice A3 n3 a3, .slice B3 m3 b3, .int .i64 c.base, .int .i64 c.second, .int .i64 c.third] 25)).cell? ⟨Wa.heap.size, 4, none⟩ = some (.int .i64 c.third) := by simp
          try dsimp only at hHeldF
          obtain ⟨s0, s1, s2, s3, s4, t0, t1, t2, t3, t4, hbF⟩ := hHeldF
          obtain ⟨Wf, hWf⟩ : ∃ Wf, Wa.alloc (.cells #[.slice A3 n3 a3, .slice B3 m3 b3, .int .i64 c.base, .int .i64 c.second, .int .i64 c.third] 25) = Wf := ⟨_, rfl⟩
          rw [hWf] at s0 s1 s2 s3 s4 t0 t1 t2 t3 t4 hbF y0 y1 y2 y3 y4 HCf ⊢
          clear hWf
          obtain ⟨bt, hbt⟩ : ∃ bt, Wa.heap.size = bt := ⟨_, rfl⟩
          rw [hbt] at y0 y1 y2 y3 y4 ⊢
          clear hbt SA CA CN NC
          have hbw := hb5.trans (hbF.mono hb5.size)
          have hf1 : w.heap.size < Wf.heap.size := World.block_lt_of_cell? Wf _ s0
          have hf2 : W2.heap.size < Wf.heap.size := World.block_lt_of_cell? Wf _ t0
          have hf3 : bt < Wf.heap.size := World.block_lt_of_cell? Wf _ y0
          have Z := ZC.out Wf hbw
          rw [hxn1, hxn2] at Z
          have HZ := Lib.hid Z
          clear Z ZC
          go_wp2_with fail
          with_reducible refine HZ.out.mono ?_
          rintro e W7 ⟨A4, n4, a4, B4, m4, b4, rfl, hC4, hn4, hm4, hb7⟩
          unfold colV
          have s0 := (hb7.cell (p := ⟨w.heap.size, 0, none⟩) hf1).trans s0
          have s1 := (hb7.cell (p := ⟨w.heap.size, 1, none⟩) hf1).trans s1
          have s2 := (hb7.cell (p := ⟨w.heap.size, 2, none⟩) hf1).trans s2
          have s3 := (hb7.cell (p := ⟨w.heap.size, 3, none⟩) hf1).trans s3
          have s4 := (hb7.cell (p := ⟨w.heap.size, 4, none⟩) hf1).trans s4
          have t0 := (hb7.cell (p := ⟨W2.heap.size, 0, none⟩) hf2).trans t0
          have t1 := (hb7.cell (p := ⟨W2.heap.size, 1, none⟩) hf2).trans t1
          have t2 := (hb7.cell (p := ⟨W2.heap.size, 2, none⟩) hf2).trans t2
          have t3 := (hb7.cell (p := ⟨W2.heap.size, 3, none⟩) hf2).trans t3
          have t4 := (hb7.cell (p := ⟨W2.heap.size, 4, none⟩) hf2).trans t4
          have y0 := (hb7.cell (p := ⟨bt, 0, none⟩) hf3).trans y0
          have y1 := (hb7.cell (p := ⟨bt, 1, none⟩) hf3).trans y1
          have y2 := (hb7.cell (p := ⟨bt, 2, none⟩) hf3).trans y2
          have y3 := (hb7.cell (p := ⟨bt, 3, none⟩) hf3).trans y3
          have y4 := (hb7.cell (p := ⟨bt, 4, none⟩) hf3).trans y4
          have hl7 := hb7.size
          have Bz : Below W7.heap.size W7 (W7.alloc (.cells #[.slice A4 n4 a4, .slice B4 m4 b4, .int .i64 c.base, .int .i64 c.second, .int .i64 c.third] 25)) := (Below.refl _ _).alloc (Nat.le_refl _) _
          have s0 := (Bz.cell (p := ⟨w.heap.size, 0, none⟩) (by show w.heap.size < _; omega)).trans s0
          have s1 := (Bz.cell (p := ⟨w.heap.size, 1, none⟩) (by show w.heap.size < _; omega)).trans s1
          have s2 := (Bz.cell (p := ⟨w.heap.size, 2, none⟩) (by show w.heap.size < _; omega)).trans s2
          have s3 := (Bz.cell (p := ⟨w.heap.size, 3, none⟩) (by show w.heap.size < _; omega)).trans s3
          have s4 := (Bz.cell (p := ⟨w.heap.size, 4, none⟩) (by show w.heap.size < _; omega)).trans s4
          have t0 := (Bz.cell (p := ⟨W2.heap.size, 0, none⟩) (by show W2.heap.size < _; omega)).trans t0
          have t1 := (Bz.cell (p := ⟨W2.heap.size, 1, none⟩) (by show W2.heap.size < _; omega)).trans t1
          have t2 := (Bz.cell (p := ⟨W2.heap.size, 2, none⟩) (by show W2.heap.size < _; omega)).trans t2
          have t3 := (Bz.cell (p := ⟨W2.heap.size, 3, none⟩) (by show W2.heap.size < _; omega)).trans t3
          have t4 := (Bz.cell (p := ⟨W2.heap.size, 4, none⟩) (by show W2.heap.size < _; omega)).trans t4
          have y0 := (Bz.cell (p := ⟨bt, 0, none⟩) (by show bt < _; omega)).trans y0
          have y1 := (Bz.cell (p := ⟨bt, 1, none⟩) (by show bt < _; omega)).trans y1
          have y2 := (Bz.cell (p := ⟨bt, 2, none⟩) (by show bt < _; omega)).trans y2
          have y3 := (Bz.cell (p := ⟨bt, 3, none⟩) (by show bt < _; omega)).trans y3
          have y4 := (Bz.cell (p := ⟨bt, 4, none⟩) (by show bt < _; omega)).trans y4
          have z0 : (W7.alloc (.cells #[.slice A4 n4 a4, .slice B4 m4 b4, .int .i64 c.base, .int .i64 c.second, .int .i64 c.third] 25)).cell? ⟨W7.heap.size, 0, none⟩ = some (.slice A4 n4 a4) := by simp
          have z1 : (W7.alloc (.cells #[.slice A4 n4 a4, .slice B4 m4 b4, .int .i64 c.base, .int .i64 c.second, .int .i64 c.third] 25)).cell? ⟨W7.heap.size, 1, none⟩ = some (.slice B4 m4 b4) := by simp
          have z2 : (W7.alloc (.cells #[.slice A4 n4 a4, .slice B4 m4 b4, .int .i64 c.base, .int .i64 c.second, .int .i64 c.third] 25)).cell? ⟨W7.heap.size, 2, none⟩ = some (.int .i64 c.base) := by simp
          have z3 : (W7.alloc (.cells #[.slice A4 n4 a4, .slice B4 m4 b4, .int .i64 c.base, .int .i64 c.second, .int .i64 c.third] 25)).cell? ⟨W7.heap.size, 3, none⟩ = some (.int .i64 c.second) := by simp
          have z4 : (W7.alloc (.cells #[.slice A4 n4 a4, .slice B4 m4 b4, .int .i64 c.base, .int .i64 c.second, .int .i64 c.third] 25)).cell? ⟨W7.heap.size, 4, none⟩ = some (.int .i64 c.third) := by simp
          have sz7 : (W7.alloc (.cells #[.slice A4 n4 a4, .slice B4 m4 b4, .int .i64 c.base, .int .i64 c.second, .int .i64 c.third] 25)).heap.size = W7.heap.size + 1 := by simp
          have bxf := hbw.trans (hb7.mono hbw.size)
          have bx7 := bxf.trans (Bz.mono bxf.size)
          have bxx := (hbF.trans (hb7.mono hbF.size)).trans (Bz.mono (Nat.le_trans hbF.size hb7.size))
          have CZ := Lib.hid (hC4.below Bz)
          have CY := Lib.hid ((HCf.out.below hb7).below Bz)
          have CC := Lib.hid (HCA.out.below bx7)
          have CX := Lib.hid (HC3.out.below bxx)
          have ZE : ∃ Wz, W7.alloc (.cells #[.slice A4 n4 a4, .slice B4 m4 b4, .int .i64 c.base, .int .i64 c.second, .int .i64 c.third] 25) = Wz := ⟨_, rfl⟩
          clear HZ HCf HCA HC3 hC4
          go_wp2_with fail
          obtain ⟨Wz, hWz⟩ := ZE
          rw [hWz] at s0 s1 s2 s3 s4 t0 t1 t2 t3 t4 y0 y1 y2 y3 y4 z0 z1 z2 z3 z4 sz7 bx7 bxx CZ CY CC CX ⊢
          clear hWz
          have S1 := Lib.hid (sameC_eq A3 n3 a3 B3 m3 b3 A n a B m b c Wz CY.out CC.out sm1)
          unfold colV at S1
          with_reducible refine S1.out.mono ?_
          rintro e W8 ⟨rfl, hb8⟩
          have hz1 : w.heap.size < Wz.heap.size := by omega
          have hz2 : W2.heap.size < Wz.heap.size := by omega
          have hz3 : W7.heap.size < Wz.heap.size := by omega
          have s0 := (hb8.cell (p := ⟨w.heap.size, 0, none⟩) hz1).trans s0
          have s1 := (hb8.cell (p := ⟨w.heap.size, 1, none⟩) hz1).trans s1
          have s2 := (hb8.cell (p := ⟨w.heap.size, 2, none⟩) hz1).trans s2
          have s3 := (hb8.cell (p := ⟨w.heap.size, 3, none⟩) hz1).trans s3
          have s4 := (hb8.cell (p := ⟨w.heap.size, 4, none⟩) hz1).trans s4
          have t0 := (hb8.cell (p := ⟨W2.heap.size, 0, none⟩) hz2).trans t0
          have t1 := (hb8.cell (p := ⟨W2.heap.size, 1, none⟩) hz2).trans t1
          have t2 := (hb8.cell (p := ⟨W2.heap.size, 2, none⟩) hz2).trans t2
          have t3 := (hb8.cell (p := ⟨W2.heap.size, 3, none⟩) hz2).trans t3
          have t4 := (hb8.cell (p := ⟨W2.heap.size, 4, none⟩) hz2).trans t4
          have z0 := (hb8.cell (p := ⟨W7.heap.size, 0, none⟩) hz3).trans z0
          have z1 := (hb8.cell (p := ⟨W7.heap.size, 1, none⟩) hz3).trans z1
          have z2 := (hb8.cell (p := ⟨W7.heap.size, 2, none⟩) hz3).trans z2
          have z3 := (hb8.cell (p := ⟨W7.heap.size, 3, none⟩) hz3).trans z3
          have z4 := (hb8.cell (p := ⟨W7.heap.size, 4, none⟩) hz3).trans z4
          have hl8 := hb8.size
          have S2 := Lib.hid (sameC_eq A4 n4 a4 B4 m4 b4 A n a B m b c W8 (CZ.out.below hb8) (CC.out.below hb8) sm1)
          unfold colV at S2
          clear y0 y1 y2 y3 y4 S1
          go_wp2_with fail
          with_reducible refine S2.out.mono ?_
          rintro e W9 ⟨rfl, hb9⟩
          have hy2 : W2.heap.size < W8.heap.size := by omega
          have t0 := (hb9.cell (p := ⟨W2.heap.size, 0, none⟩) hy2).trans t0
          have t1 := (hb9.cell (p := ⟨W2.heap.size, 1, none⟩) hy2).trans t1
          have t2 := (hb9.cell (p := ⟨W2.heap.size, 2, none⟩) hy2).trans t2
          have t3 := (hb9.cell (p := ⟨W2.heap.size, 3, none⟩) hy2).trans t3
          have t4 := (hb9.cell (p := ⟨W2.heap.size, 4, none⟩) hy2).trans t4
          have CK := Lib.hid (ckColl_any A2 n2 a2 B2 m2 b2 x W9 ((CX.out.below hb8).below hb9) sz)
          rw [hxv] at CK
          unfold colV at CK
          clear s0 s1 s2 s3 s4 z0 z1 z2 z3 z4 S2
          have hc9 := (bx7.trans (hb8.mono bx7.size)).trans (hb9.mono (Nat.le_trans bx7.size hb8.size))
          go_wp2_with fail
          with_reducible refine CK.out.mono ?_
          rintro e W10 ⟨rfl, hb10⟩
          have hc10 := hc9.trans (hb10.mono hc9.size)
          go_wp2_with fail
          refine (alive_any W10).mono ?_
          rintro e W11 ⟨rfl, hb11⟩
          go_wp2_with fail
          go_ret
          exact ⟨rfl, hc10.trans (hb11.mono hc10.size)⟩
        · refine step_val2 (w' := Wn.alloc (.cells #[.slice none 0 0, .slice none 0 0, .int .i64 0, .int .i64 0, .int .i64 0] 25)) (v := .pointer (some ⟨Wn.heap.size, 0, none⟩)) (some 7) rfl hK (by rfl) (by go_simp) (SA.out _ _ hHeldN) (fun hHeldB => ?_)
          clear hK K
          try simp only [Act.put, List.setIfInBounds_toArray, List.set_cons_zero, List.set_cons_succ]
          refine wpAnyH_ready (rs := [4]) (by kernel_rfl) (by simp) ?_
          refine AllReadyH.cons rfl (fun K hK => ?_) AllReadyH.nil
          refine step_call2 (some 35) rfl hK (by rfl) (by go_simp) (CA.out _ AN cN hcN (hSN.below ((Below.refl _ _).alloc (Nat.le_refl _) _)) hHeldB) (fun v Wa hHeldA hR => ?_)
          obtain ⟨A3, n3, a3, B3, m3, b3, rfl, hC3, hn3, hm3, hbA, hFr⟩ := hR
          clear hK K
          try simp only [Act.put, List.setIfInBounds_toArray, List.set_cons_zero, List.set_cons_succ]
          refine anyH_take (i := 5) (v := ?_) (some 30) rfl rfl (by kernel_rfl) (by kernel_rfl) (by kernel_rfl) (fun _ _ _ h => h) (by rfl) (by assumption) ?_ ?_
          rotate_left
          · intro w hSw; (try dsimp only at hSw); go_split_ands; go_simp; try (with_reducible rfl)
          try simp only [Act.put, List.setIfInBounds_toArray, List.set_cons_zero, List.set_cons_succ]
          refine anyH_take (i := 6) (v := ?_) (some 36) rfl rfl (by kernel_rfl) (by kernel_rfl) (by kernel_rfl) (fun _ _ _ h => h) (by rfl) (by assumption) ?_ ?_
          rotate_left
          · intro w hSw; (try dsimp only at hSw); go_split_ands; go_simp; try (with_reducible rfl)
          try simp only [Act.put, List.setIfInBounds_toArray, List.set_cons_zero, List.set_cons_succ]
          refine anyH_take (i := 7) (v := ?_) (some 37) rfl rfl (by kernel_rfl) (by kernel_rfl) (by kernel_rfl) (fun _ _ _ h => h) (by rfl) (by assumption) ?_ ?_
          rotate_left
          · intro w hSw; (try dsimp only at hSw); go_split_ands; go_simp; try (with_reducible rfl)
          try simp only [Act.put, List.setIfInBounds_toArray, List.set_cons_zero, List.set_cons_succ]
          have HBB := Lib.hid (show Below (Wn.alloc (.cells #[.slice none 0 0, .slice none 0 0, .int .i64 0, .int .i64 0, .int .i64 0] 25)).heap.size (Wn.alloc (.cells #[.slice none 0 0, .slice none 0 0, .int .i64 0, .int .i64 0, .int .i64 0] 25)) Wa from hbA)
          have szb : Wn.heap.size < (Wn.alloc (.cells #[.slice none 0 0, .slice none 0 0, .int .i64 0, .int .i64 0, .int .i64 0] 25)).heap.size := by simp
          have c0 := (HBB.out.cell (p := ⟨Wn.heap.size, 0, none⟩) szb).trans (show (Wn.alloc (.cells #[.slice none 0 0, .slice none 0 0, .int .i64 0, .int .i64 0, .int .i64 0] 25)).cell? ⟨Wn.heap.size, 0, none⟩ = some (.slice none 0 0) by simp)
          have c1 := (HBB.out.cell (p := ⟨Wn.heap.size, 1, none⟩) szb).trans (show (Wn.alloc (.cells #[.slice none 0 0, .slice none 0 0, .int .i64 0, .int .i64 0, .int .i64 0] 25)).cell? ⟨Wn.heap.size, 1, none⟩ = some (.slice none 0 0) by simp)
          have c2 := (HBB.out.cell (p := ⟨Wn.heap.size, 2, none⟩) szb).trans (show (Wn.alloc (.cells #[.slice none 0 0, .slice none 0 0, .int .i64 0, .int .i64 0, .int .i64 0] 25)).cell? ⟨Wn.heap.size, 2, none⟩ = some (.int .i64 0) by simp)
          have c3 := (HBB.out.cell (p := ⟨Wn.heap.size, 3, none⟩) szb).trans (show (Wn.alloc (.cells #[.slice none 0 0, .slice none 0 0, .int .i64 0, .int .i64 0, .int .i64 0] 25)).cell? ⟨Wn.heap.size, 3, none⟩ = some (.int .i64 0) by simp)
          have c4 := (HBB.out.cell (p := ⟨Wn.heap.size, 4, none⟩) szb).trans (show (Wn.alloc (.cells #[.slice none 0 0, .slice none 0 0, .int .i64 0, .int .i64 0, .int .i64 0] 25)).cell? ⟨Wn.heap.size, 4, none⟩ = some (.int .i64 0) by simp)
          have fz0 := (HBB.out.frozen (p := ⟨Wn.heap.size, 0, none⟩) szb).trans (show (Wn.alloc (.cells #[.slice none 0 0, .slice none 0 0, .int .i64 0, .int .i64 0, .int .i64 0] 25)).frozen? ⟨Wn.heap.size, 0, none⟩ = false by simp)
          have fz1 := (HBB.out.frozen (p := ⟨Wn.heap.size, 1, none⟩) szb).trans (show (Wn.alloc (.cells #[.slice none 0 0, .slice none 0 0, .int .i64 0, .int .i64 0, .int .i64 0] 25)).frozen? ⟨Wn.heap.size, 1, none⟩ = false by simp)
          have fz2 := (HBB.out.frozen (p := ⟨Wn.heap.size, 2, none⟩) szb).trans (show (Wn.alloc (.cells #[.slice none 0 0, .slice none 0 0, .int .i64 0, .int .i64 0, .int .i64 0] 25)).frozen? ⟨Wn.heap.size, 2, none⟩ = false by simp)
          have fz3 := (HBB.out.frozen (p := ⟨Wn.heap.size, 3, none⟩) szb).trans (show (Wn.alloc (.cells #[.slice none 0 0, .slice none 0 0, .int .i64 0, .int .i64 0, .int .i64 0] 25)).frozen? ⟨Wn.heap.size, 3, none⟩ = false by simp)
          have fz4 := (HBB.out.frozen (p := ⟨Wn.heap.size, 4, none⟩) szb).trans (show (Wn.alloc (.cells #[.slice none 0 0, .slice none 0 0, .int .i64 0, .int .i64 0, .int .i64 0] 25)).frozen? ⟨Wn.heap.size, 4, none⟩ = false by simp)
          have hlx : Wx.heap.size ≤ Wn.heap.size := hHeldN.2.2.2.2.2.2.2.2.2.2.size
          have hns : ∀ o s, Wa.cell? ⟨Wn.heap.size, o, none⟩ ≠ some (.string s) := fun o s h => by
            have h1 := (HBB.out.cell (p := ⟨Wn.heap.size, o, none⟩) szb).symm.trans h
            rcases o with _ | _ | _ | _ | _ | o <;> simp at h1
          have BS := ((((hHeldA.2.2.2.2.2.2.2.2.2.2.setCell (p := ⟨Wn.heap.size, 0, none⟩) hlx (.slice A3 n3 a3)).setCell (p := ⟨Wn.heap.size, 1, none⟩) hlx (.slice B3 m3 b3)).setCell (p := ⟨Wn.heap.size, 2, none⟩) hlx (.int .i64 c.base)).setCell (p := ⟨Wn.heap.size, 3, none⟩) hlx (.int .i64 c.second)).setCell (p := ⟨Wn.heap.size, 4, none⟩) hlx (.int .i64 c.third)
          have HCf := Lib.hid (hFr (((((Wa.setCell ⟨Wn.heap.size, 0, none⟩ (.slice A3 n3 a3)).setCell ⟨Wn.heap.size, 1, none⟩ (.slice B3 m3 b3)).setCell ⟨Wn.heap.size, 2, none⟩ (.int .i64 c.base)).setCell ⟨Wn.heap.size, 3, none⟩ (.int .i64 c.second)).setCell ⟨Wn.heap.size, 4, none⟩ (.int .i64 c.third)) Wn.heap.size (szb) hns (fun p hp => by
            have h1 : Wn.heap.size ≠ p.block := fun e => hp e.symm
            refine (World.cell?_setCell_far _ _ _ _ h1).trans ?_
            refine (World.cell?_setCell_far _ _ _ _ h1).trans ?_
            refine (World.cell?_setCell_far _ _ _ _ h1).trans ?_
            refine (World.cell?_setCell_far _ _ _ _ h1).trans ?_
            exact World.cell?_setCell_far _ _ _ _ h1))
          have y0 : (((((Wa.setCell ⟨Wn.heap.size, 0, none⟩ (.slice A3 n3 a3)).setCell ⟨Wn.heap.size, 1, none⟩ (.slice B3 m3 b3)).setCell ⟨Wn.heap.size, 2, none⟩ (.int .i64 c.base)).setCell ⟨Wn.heap.size, 3, none⟩ (.int .i64 c.second)).setCell ⟨Wn.heap.size, 4, none⟩ (.int .i64 c.third)).cell? ⟨Wn.heap.size, 0, none⟩ = some (.slice A3 n3 a3) := by go_simp
          have y1 : (((((Wa.setCell ⟨Wn.heap.size, 0, none⟩ (.slice A3 n3 a3)).setCell ⟨Wn.heap.size, 1, none⟩ (.slice B3 m3 b3)).setCell ⟨Wn.heap.size, 2, none⟩ (.int .i64 c.base)).setCell ⟨Wn.heap.size, 3, none⟩ (.int .i64 c.second)).setCell ⟨Wn.heap.size, 4, none⟩ (.int .i64 c.third)).cell? ⟨Wn.heap.size, 1, none⟩ = some (.slice B3 m3 b3) := by go_simp
          have y2 : (((((Wa.setCell ⟨Wn.heap.size, 0, none⟩ (.slice A3 n3 a3)).setCell ⟨Wn.heap.size, 1, none⟩ (.slice B3 m3 b3)).setCell ⟨Wn.heap.size, 2, none⟩ (.int .i64 c.base)).setCell ⟨Wn.heap.size, 3, none⟩ (.int .i64 c.second)).setCell ⟨Wn.heap.size, 4, none⟩ (.int .i64 c.third)).cell? ⟨Wn.heap.size, 2, none⟩ = some (.int .i64 c.base) := by go_simp
          have y3 : (((((Wa.setCell ⟨Wn.heap.size, 0, none⟩ (.slice A3 n3 a3)).setCell ⟨Wn.heap.size, 1, none⟩ (.slice B3 m3 b3)).setCell ⟨Wn.heap.size, 2, none⟩ (.int .i64 c.base)).setCell ⟨Wn.heap.size, 3, none⟩ (.int .i64 c.second)).setCell ⟨Wn.heap.size, 4, none⟩ (.int .i64 c.third)).cell? ⟨Wn.heap.size, 3, none⟩ = some (.int .i64 c.second) := by go_simp
          have y4 : (((((Wa.setCell ⟨Wn.heap.size, 0, none⟩ (.slice A3 n3 a3)).setCell ⟨Wn.heap.size, 1, none⟩ (.slice B3 m3 b3)).setCell ⟨Wn.heap.size, 2, none⟩ (.int .i64 c.base)).setCell ⟨Wn.heap.size, 3, none⟩ (.int .i64 c.second)).setCell ⟨Wn.heap.size, 4, none⟩ (.int .i64 c.third)).cell? ⟨Wn.heap.size, 4, none⟩ = some (.int .i64 c.third) := by go_simp
          refine wpAnyH_ready (rs := [9]) (by kernel_rfl) (by simp) ?_
          refine AllReadyH.cons rfl (fun K hK => ?_) AllReadyH.nil
          go_simp
          refine hK.out _ _ (SK.out _ BS) (fun hHeldF => ?_)
          clear hK K
          try simp only [Act.put, List.setIfInBounds_toArray, List.set_cons_zero, List.set_cons_succ]
          refine anyH_take (i := 10) (v := ?_) (some 8) rfl rfl (by kernel_rfl) (by kernel_rfl) (by kernel_rfl) (fun _ _ _ h => h) (by rfl) (by assumption) ?_ ?_
          rotate_left
          · intro w hSw; (try dsimp only at hSw); go_split_ands; go_simp; try (with_reducible rfl)
          try simp only [Act.put, List.setIfInBounds_toArray, List.set_cons_zero, List.set_cons_succ]
          refine wpAnyH_done (by kernel_rfl) ?_ _
          try dsimp only at hHeldF
          clear c0 c1 c2 c3 c4 fz0 fz1 fz2 fz3 fz4 BS hns
          obtain ⟨s0, s1, s2, s3, s4, t0, t1, t2, t3, t4, hbF⟩ := hHeldF
          obtain ⟨Wf, hWf⟩ : ∃ Wf, ((((Wa.setCell ⟨Wn.heap.size, 0, none⟩ (.slice A3 n3 a3)).setCell ⟨Wn.heap.size, 1, none⟩ (.slice B3 m3 b3)).setCell ⟨Wn.heap.size, 2, none⟩ (.int .i64 c.base)).setCell ⟨Wn.heap.size, 3, none⟩ (.int .i64 c.second)).setCell ⟨Wn.heap.size, 4, none⟩ (.int .i64 c.third) = Wf := ⟨_, rfl⟩
          rw [hWf] at s0 s1 s2 s3 s4 t0 t1 t2 t3 t4 hbF y0 y1 y2 y3 y4 HCf ⊢
          clear hWf
          obtain ⟨bt, hbt⟩ : ∃ bt, Wn.heap.size = bt := ⟨_, rfl⟩
          rw [hbt] at y0 y1 y2 y3 y4 ⊢
          clear hbt SA CA CN NC
          have hbw := hb5.trans (hbF.mono hb5.size)
          have hf1 : w.heap.size < Wf.heap.size := World.block_lt_of_cell? Wf _ s0
          have hf2 : W2.heap.size < Wf.heap.size := World.block_lt_of_cell? Wf _ t0
          have hf3 : bt < Wf.heap.size := World.block_lt_of_cell? Wf _ y0
          have Z := ZC.out Wf hbw
          rw [hxn1, hxn2] at Z
          have HZ := Lib.hid Z
          clear Z ZC
          go_wp2_with fail
          with_reducible refine HZ.out.mono ?_
          rintro e W7 ⟨A4, n4, a4, B4, m4, b4, rfl, hC4, hn4, hm4, hb7⟩
          unfold colV
          have s0 := (hb7.cell (p := ⟨w.heap.size, 0, none⟩) hf1).trans s0
          have s1 := (hb7.cell (p := ⟨w.heap.size, 1, none⟩) hf1).trans s1
          have s2 := (hb7.cell (p := ⟨w.heap.size, 2, none⟩) hf1).trans s2
          have s3 := (hb7.cell (p := ⟨w.heap.size, 3, none⟩) hf1).trans s3
          have s4 := (hb7.cell (p := ⟨w.heap.size, 4, none⟩) hf1).trans s4
          have t0 := (hb7.cell (p := ⟨W2.heap.size, 0, none⟩) hf2).trans t0
          have t1 := (hb7.cell (p := ⟨W2.heap.size, 1, none⟩) hf2).trans t1
          have t2 := (hb7.cell (p := ⟨W2.heap.size, 2, none⟩) hf2).trans t2
          have t3 := (hb7.cell (p := ⟨W2.heap.size, 3, none⟩) hf2).trans t3
          have t4 := (hb7.cell (p := ⟨W2.heap.size, 4, none⟩) hf2).trans t4
          have y0 := (hb7.cell (p := ⟨bt, 0, none⟩) hf3).trans y0
          have y1 := (hb7.cell (p := ⟨bt, 1, none⟩) hf3).trans y1
          have y2 := (hb7.cell (p := ⟨bt, 2, none⟩) hf3).trans y2
          have y3 := (hb7.cell (p := ⟨bt, 3, none⟩) hf3).trans y3
          have y4 := (hb7.cell (p := ⟨bt, 4, none⟩) hf3).trans y4
          have hl7 := hb7.size
          have Bz : Below W7.heap.size W7 (W7.alloc (.cells #[.slice A4 n4 a4, .slice B4 m4 b4, .int .i64 c.base, .int .i64 c.second, .int .i64 c.third] 25)) := (Below.refl _ _).alloc (Nat.le_refl _) _
          have s0 := (Bz.cell (p := ⟨w.heap.size, 0, none⟩) (by show w.heap.size < _; omega)).trans s0
          have s1 := (Bz.cell (p := ⟨w.heap.size, 1, none⟩) (by show w.heap.size < _; omega)).trans s1
          have s2 := (Bz.cell (p := ⟨w.heap.size, 2, none⟩) (by show w.heap.size < _; omega)).trans s2
          have s3 := (Bz.cell (p := ⟨w.heap.size, 3, none⟩) (by show w.heap.size < _; omega)).trans s3
          have s4 := (Bz.cell (p := ⟨w.heap.size, 4, none⟩) (by show w.heap.size < _; omega)).trans s4
          have t0 := (Bz.cell (p := ⟨W2.heap.size, 0, none⟩) (by show W2.heap.size < _; omega)).trans t0
          have t1 := (Bz.cell (p := ⟨W2.heap.size, 1, none⟩) (by show W2.heap.size < _; omega)).trans t1
          have t2 := (Bz.cell (p := ⟨W2.heap.size, 2, none⟩) (by show W2.heap.size < _; omega)).trans t2
          have t3 := (Bz.cell (p := ⟨W2.heap.size, 3, none⟩) (by show W2.heap.size < _; omega)).trans t3
          have t4 := (Bz.cell (p := ⟨W2.heap.size, 4, none⟩) (by show W2.heap.size < _; omega)).trans t4
          have y0 := (Bz.cell (p := ⟨bt, 0, none⟩) (by show bt < _; omega)).trans y0
          have y1 := (Bz.cell (p := ⟨bt, 1, none⟩) (by show bt < _; omega)).trans y1
          have y2 := (Bz.cell (p := ⟨bt, 2, none⟩) (by show bt < _; omega)).trans y2
          have y3 := (Bz.cell (p := ⟨bt, 3, none⟩) (by show bt < _; omega)).trans y3
          have y4 := (Bz.cell (p := ⟨bt, 4, none⟩) (by show bt < _; omega)).trans y4
          have z0 : (W7.alloc (.cells #[.slice A4 n4 a4, .slice B4 m4 b4, .int .i64 c.base, .int .i64 c.second, .int .i64 c.third] 25)).cell? ⟨W7.heap.size, 0, none⟩ = some (.slice A4 n4 a4) := by simp
          have z1 : (W7.alloc (.cells #[.slice A4 n4 a4, .slice B4 m4 b4, .int .i64 c.base, .int .i64 c.second, .int .i64 c.third] 25)).cell? ⟨W7.heap.size, 1, none⟩ = some (.slice B4 m4 b4) := by simp
          have z2 : (W7.alloc (.cells #[.slice A4 n4 a4, .slice B4 m4 b4, .int .i64 c.base, .int .i64 c.second, .int .i64 c.third] 25)).cell? ⟨W7.heap.size, 2, none⟩ = some (.int .i64 c.base) := by simp
          have z3 : (W7.alloc (.cells #[.slice A4 n4 a4, .slice B4 m4 b4, .int .i64 c.base, .int .i64 c.second, .int .i64 c.third] 25)).cell? ⟨W7.heap.size, 3, none⟩ = some (.int .i64 c.second) := by simp
          have z4 : (W7.alloc (.cells #[.slice A4 n4 a4, .slice B4 m4 b4, .int .i64 c.base, .int .i64 c.second, .int .i64 c.third] 25)).cell? ⟨W7.heap.size, 4, none⟩ = some (.int .i64 c.third) := by simp
          have sz7 : (W7.alloc (.cells #[.slice A4 n4 a4, .slice B4 m4 b4, .int .i64 c.base, .int .i64 c.second, .int .i64 c.third] 25)).heap.size = W7.heap.size + 1 := by simp
          have bxf := hbw.trans (hb7.mono hbw.size)
          have bx7 := bxf.trans (Bz.mono bxf.size)
          have bxx := (hbF.trans (hb7.mono hbF.size)).trans (Bz.mono (Nat.le_trans hbF.size hb7.size))
          have CZ := Lib.hid (hC4.below Bz)
          have CY := Lib.hid ((HCf.out.below hb7).below Bz)
          have CC := Lib.hid (HCA.out.below bx7)
          have CX := Lib.hid (HC3.out.below bxx)
          have ZE : ∃ Wz, W7.alloc (.cells #[.slice A4 n4 a4, .slice B4 m4 b4, .int .i64 c.base, .int .i64 c.second, .int .i64 c.third] 25) = Wz := ⟨_, rfl⟩
          clear HZ HCf HCA HC3 hC4
          go_wp2_with fail
          obtain ⟨Wz, hWz⟩ := ZE
          rw [hWz] at s0 s1 s2 s3 s4 t0 t1 t2 t3 t4 y0 y1 y2 y3 y4 z0 z1 z2 z3 z4 sz7 bx7 bxx CZ CY CC CX ⊢
          clear hWz
          have S1 := Lib.hid (sameC_eq A3 n3 a3 B3 m3 b3 A n a B m b c Wz CY.out CC.out sm1)
          unfold colV at S1
          with_reducible refine S1.out.mono ?_
          rintro e W8 ⟨rfl, hb8⟩
          have hz1 : w.heap.size < Wz.heap.size := by omega
          have hz2 : W2.heap.size < Wz.heap.size := by omega
          have hz3 : W7.heap.size < Wz.heap.size := by omega
          have s0 := (hb8.cell (p := ⟨w.heap.size, 0, none⟩) hz1).trans s0
          have s1 := (hb8.cell (p := ⟨w.heap.size, 1, none⟩) hz1).trans s1
          have s2 := (hb8.cell (p := ⟨w.heap.size, 2, none⟩) hz1).trans s2
          have s3 := (hb8.cell (p := ⟨w.heap.size, 3, none⟩) hz1).trans s3
          have s4 := (hb8.cell (p := ⟨w.heap.size, 4, none⟩) hz1).trans s4
          have t0 := (hb8.cell (p := ⟨W2.heap.size, 0, none⟩) hz2).trans t0
          have t1 := (hb8.cell (p := ⟨W2.heap.size, 1, none⟩) hz2).trans t1
          have t2 := (hb8.cell (p := ⟨W2.heap.size, 2, none⟩) hz2).trans t2
          have t3 := (hb8.cell (p := ⟨W2.heap.size, 3, none⟩) hz2).trans t3
          have t4 := (hb8.cell (p := ⟨W2.heap.size, 4, none⟩) hz2).trans t4
          have z0 := (hb8.cell (p := ⟨W7.heap.size, 0, none⟩) hz3).trans z0
          have z1 := (hb8.cell (p := ⟨W7.heap.size, 1, none⟩) hz3).trans z1
          have z2 := (hb8.cell (p := ⟨W7.heap.size, 2, none⟩) hz3).trans z2
          have z3 := (hb8.cell (p := ⟨W7.heap.size, 3, none⟩) hz3).trans z3
          have z4 := (hb8.cell (p := ⟨W7.heap.size, 4, none⟩) hz3).trans z4
          have hl8 := hb8.size
          have S2 := Lib.hid (sameC_eq A4 n4 a4 B4 m4 b4 A n a B m b c W8 (CZ.out.below hb8) (CC.out.below hb8) sm1)
          unfold colV at S2
          clear y0 y1 y2 y3 y4 S1
          go_wp2_with fail
          with_reducible refine S2.out.mono ?_
          rintro e W9 ⟨rfl, hb9⟩
          have hy2 : W2.heap.size < W8.heap.size := by omega
          have t0 := (hb9.cell (p := ⟨W2.heap.size, 0, none⟩) hy2).trans t0
          have t1 := (hb9.cell (p := ⟨W2.heap.size, 1, none⟩) hy2).trans t1
          have t2 := (hb9.cell (p := ⟨W2.heap.size, 2, none⟩) hy2).trans t2
          have t3 := (hb9.cell (p := ⟨W2.heap.size, 3, none⟩) hy2).trans t3
          have t4 := (hb9.cell (p := ⟨W2.heap.size, 4, none⟩) hy2).trans t4
          have CK := Lib.hid (ckColl_any A2 n2 a2 B2 m2 b2 x W9 ((CX.out.below hb8).below hb9) sz)
          rw [hxv] at CK
          unfold colV at CK
          clear s0 s1 s2 s3 s4 z0 z1 z2 z3 z4 S2
          have hc9 := (bx7.trans (hb8.mono bx7.size)).trans (hb9.mono (Nat.le_trans bx7.size hb8.size))
          go_wp2_with fail
          with_reducible refine CK.out.mono ?_
          rintro e W10 ⟨rfl, hb10⟩
          have hc10 := hc9.trans (hb10.mono hc9.size)
          go_wp2_with fail
          refine (alive_any W10).mono ?_
          rintro e W11 ⟨rfl, hb11⟩
          go_wp2_with fail
          go_ret
          exact ⟨rfl, hc10.trans (hb11.mono hc10.size)⟩
      · refine step_val2 (w' := Wd.alloc (.cells #[.slice none 0 0, .slice none 0 0, .int .i64 0, .int .i64 0, .int .i64 0] 25)) (v := .pointer (some ⟨Wd.heap.size, 0, none⟩)) (some 7) rfl hK (by rfl) (by go_simp) (SA.out _ _ hHeld) (fun hHeldB => ?_)
        clear hK K
        try simp only [Act.put, List.setIfInBounds_toArray, List.set_cons_zero, List.set_cons_succ]
        refine wpAnyH_ready (rs := [3]) (by kernel_rfl) (by simp) ?_
        refine AllReadyH.cons rfl (fun K hK => ?_) AllReadyH.nil
        refine step_call2 (some 34) rfl hK (by rfl) (by go_simp) (CN.out _ hHeldB) (fun v Wn hHeldN hR => ?_)
        obtain ⟨AN, cN, rfl, hcN, hSN, hbN⟩ := hR
        clear hK K
        try simp only [Act.put, List.setIfInBounds_toArray, List.set_cons_zero, List.set_cons_succ]
        refine wpAnyH_ready (rs := [4]) (by kernel_rfl) (by simp) ?_
        refine AllReadyH.cons rfl (fun K hK => ?_) AllReadyH.nil
        refine step_call2 (some 35) rfl hK (by rfl) (by go_simp) (CA.out _ AN cN hcN hSN hHeldN) (fun v Wa hHeldA hR => ?_)
        obtain ⟨A3, n3, a3, B3, m3, b3, rfl, hC3, hn3, hm3, hbA, hFr⟩ := hR
        clear hK K
        try simp only [Act.put, List.setIfInBounds_toArray, List.set_cons_zero, List.set_cons_succ]
        refine anyH_take (i := 5) (v := ?_) (some 30) rfl rfl (by kernel_rfl) (by kernel_rfl) (by kernel_rfl) (fun _ _ _ h => h) (by rfl) (by assumption) ?_ ?_
        rotate_left
        · intro w hSw; (try dsimp only at hSw); go_split_ands; go_simp; try (with_reducible rfl)
        try simp only [Act.put, List.setIfInBounds_toArray, List.set_cons_zero, List.set_cons_succ]
        refine anyH_take (i := 6) (v := ?_) (some 36) rfl rfl (by kernel_rfl) (by kernel_rfl) (by kernel_rfl) (fun _ _ _ h => h) (by rfl) (by assumption) ?_ ?_
        rotate_left
        · intro w hSw; (try dsimp only at hSw); go_split_ands; go_simp; try (with_reducible rfl)
        try simp only [Act.put, List.setIfInBounds_toArray, List.set_cons_zero, List.set_cons_succ]
        refine anyH_take (i := 7) (v := ?_) (some 37) rfl rfl (by kernel_rfl) (by kernel_rfl) (by kernel_rfl) (fun _ _ _ h => h) (by rfl) (by assumption) ?_ ?_
        rotate_left
        · intro w hSw; (try dsimp only at hSw); go_split_ands; go_simp; try (with_reducible rfl)
        try simp only [Act.put, List.setIfInBounds_toArray, List.set_cons_zero, List.set_cons_succ]
        have HBB := Lib.hid (show Below (Wd.alloc (.cells #[.slice none 0 0, .slice none 0 0, .int .i64 0, .int .i64 0, .int .i64 0] 25)).heap.size (Wd.alloc (.cells #[.slice none 0 0, .slice none 0 0, .int .i64 0, .int .i64 0, .int .i64 0] 25)) Wa from (hbN.trans (hbA.mono hbN.size)))
        have szb : Wd.heap.size < (Wd.alloc (.cells #[.slice none 0 0, .slice none 0 0, .int .i64 0, .int .i64 0, .int .i64 0] 25)).heap.size := by simp
        have c0 := (HBB.out.cell (p := ⟨Wd.heap.size, 0, none⟩) szb).trans (show (Wd.alloc (.cells #[.slice none 0 0, .slice none 0 0, .int .i64 0, .int .i64 0, .int .i64 0] 25)).cell? ⟨Wd.heap.size, 0, none⟩ = some (.slice none 0 0) by simp)
        have c1 := (HBB.out.cell (p := ⟨Wd.heap.size, 1, none⟩) szb).trans (show (Wd.alloc (.cells #[.slice none 0 0, .slice none 0 0, .int .i64 0, .int .i64 0, .int .i64 0] 25)).cell? ⟨Wd.heap.size, 1, none⟩ = some (.slice none 0 0) by simp)
        have c2 := (HBB.out.cell (p := ⟨Wd.heap.size, 2, none⟩) szb).trans (show (Wd.alloc (.cells #[.slice none 0 0, .slice none 0 0, .int .i64 0, .int .i64 0, .int .i64 0] 25)).cell? ⟨Wd.heap.size, 2, none⟩ = some (.int .i64 0) by simp)
        have c3 := (HBB.out.cell (p := ⟨Wd.heap.size, 3, none⟩) szb).trans (show (Wd.alloc (.cells #[.slice none 0 0, .slice none 0 0, .int .i64 0, .int .i64 0, .int .i64 0] 25)).cell? ⟨Wd.heap.size, 3, none⟩ = some (.int .i64 0) by simp)
        have c4 := (HBB.out.cell (p := ⟨Wd.heap.size, 4, none⟩) szb).trans (show (Wd.alloc (.cells #[.slice none 0 0, .slice none 0 0, .int .i64 0, .int .i64 0, .int .i64 0] 25)).cell? ⟨Wd.heap.size, 4, none⟩ = some (.int .i64 0) by simp)
        have fz0 := (HBB.out.frozen (p := ⟨Wd.heap.size, 0, none⟩) szb).trans (show (Wd.alloc (.cells #[.slice none 0 0, .slice none 0 0, .int .i64 0, .int .i64 0, .int .i64 0] 25)).frozen? ⟨Wd.heap.size, 0, none⟩ = false by simp)
        have fz1 := (HBB.out.frozen (p := ⟨Wd.heap.size, 1, none⟩) szb).trans (show (Wd.alloc (.cells #[.slice none 0 0, .slice none 0 0, .int .i64 0, .int .i64 0, .int .i64 0] 25)).frozen? ⟨Wd.heap.size, 1, none⟩ = false by simp)
        have fz2 := (HBB.out.frozen (p := ⟨Wd.heap.size, 2, none⟩) szb).trans (show (Wd.alloc (.cells #[.slice none 0 0, .slice none 0 0, .int .i64 0, .int .i64 0, .int .i64 0] 25)).frozen? ⟨Wd.heap.size, 2, none⟩ = false by simp)
        have fz3 := (HBB.out.frozen (p := ⟨Wd.heap.size, 3, none⟩) szb).trans (show (Wd.alloc (.cells #[.slice none 0 0, .slice none 0 0, .int .i64 0, .int .i64 0, .int .i64 0] 25)).frozen? ⟨Wd.heap.size, 3, none⟩ = false by simp)
        have fz4 := (HBB.out.frozen (p := ⟨Wd.heap.size, 4, none⟩) szb).trans (show (Wd.alloc (.cells #[.slice none 0 0, .slice none 0 0, .int .i64 0, .int .i64 0, .int .i64 0] 25)).frozen? ⟨Wd.heap.size, 4, none⟩ = false by simp)
        have hlx : Wx.heap.size ≤ Wd.heap.size := hHeld.2.2.2.2.2.2.2.2.2.2.size
        have hns : ∀ o s, Wa.cell? ⟨Wd.heap.size, o, none⟩ ≠ some (.string s) := fun o s h => by
          have h1 := (HBB.out.cell (p := ⟨Wd.heap.size, o, none⟩) szb).symm.trans h
          rcases o with _ | _ | _ | _ | _ | o <;> simp at h1
        have BS := ((((hHeldA.2.2.2.2.2.2.2.2.2.2.setCell (p := ⟨Wd.heap.size, 0, none⟩) hlx (.slice A3 n3 a3)).setCell (p := ⟨Wd.heap.size, 1, none⟩) hlx (.slice B3 m3 b3)).setCell (p := ⟨Wd.heap.size, 2, none⟩) hlx (.int .i64 c.base)).setCell (p := ⟨Wd.heap.size, 3, none⟩) hlx (.int .i64 c.second)).setCell (p := ⟨Wd.heap.size, 4, none⟩) hlx (.int .i64 c.third)
        have HCf := Lib.hid (hFr (((((Wa.setCell ⟨Wd.heap.size, 0, none⟩ (.slice A3 n3 a3)).setCell ⟨Wd.heap.size, 1, none⟩ (.slice B3 m3 b3)).setCell ⟨Wd.heap.size, 2, none⟩ (.int .i64 c.base)).setCell ⟨Wd.heap.size, 3, none⟩ (.int .i64 c.second)).setCell ⟨Wd.heap.size, 4, none⟩ (.int .i64 c.third)) Wd.heap.size ((by have := hbN.size; omega)) hns (fun p hp => by
          have h1 : Wd.heap.size ≠ p.block := fun e => hp e.symm
          refine (World.cell?_setCell_far _ _ _ _ h1).trans ?_
          refine (World.cell?_setCell_far _ _ _ _ h1).trans ?_
          refine (World.cell?_setCell_far _ _ _ _ h1).trans ?_
          refine (World.cell?_setCell_far _ _ _ _ h1).trans ?_
          exact World.cell?_setCell_far _ _ _ _ h1))
        have y0 : (((((Wa.setCell ⟨Wd.heap.size, 0, none⟩ (.slice A3 n3 a3)).setCell ⟨Wd.heap.size, 1, none⟩ (.slice B3 m3 b3)).setCell ⟨Wd.heap.size, 2, none⟩ (.int .i64 c.base)).setCell ⟨Wd.heap.size, 3, none⟩ (.int .i64 c.second)).setCell ⟨Wd.heap.size, 4, none⟩ (.int .i64 c.third)).cell? ⟨Wd.heap.size, 0, none⟩ = some (.slice A3 n3 a3) := by go_simp
        have y1 : (((((Wa.setCell ⟨Wd.heap.size, 0, none⟩ (.slice A3 n3 a3)).setCell ⟨Wd.heap.size, 1, none⟩ (.slice B3 m3 b3)).setCell ⟨Wd.heap.size, 2, none⟩ (.int .i64 c.base)).setCell ⟨Wd.heap.size, 3, none⟩ (.int .i64 c.second)).setCell ⟨Wd.heap.size, 4, none⟩ (.int .i64 c.third)).cell? ⟨Wd.heap.size, 1, none⟩ = some (.slice B3 m3 b3) := by go_simp
        have y2 : (((((Wa.setCell ⟨Wd.heap.size, 0, none⟩ (.slice A3 n3 a3)).setCell ⟨Wd.heap.size, 1, none⟩ (.slice B3 m3 b3)).setCell ⟨Wd.heap.size, 2, none⟩ (.int .i64 c.base)).setCell ⟨Wd.heap.size, 3, none⟩ (.int .i64 c.second)).setCell ⟨Wd.heap.size, 4, none⟩ (.int .i64 c.third)).cell? ⟨Wd.heap.size, 2, none⟩ = some (.int .i64 c.base) := by go_simp
        have y3 : (((((Wa.setCell ⟨Wd.heap.size, 0, none⟩ (.slice A3 n3 a3)).setCell ⟨Wd.heap.size, 1, none⟩ (.slice B3 m3 b3)).setCell ⟨Wd.heap.size, 2, none⟩ (.int .i64 c.base)).setCell ⟨Wd.heap.size, 3, none⟩ (.int .i64 c.second)).setCell ⟨Wd.heap.size, 4, none⟩ (.int .i64 c.third)).cell? ⟨Wd.heap.size, 3, none⟩ = some (.int .i64 c.second) := by go_simp
        have y4 : (((((Wa.setCell ⟨Wd.heap.size, 0, none⟩ (.slice A3 n3 a3)).setCell ⟨Wd.heap.size, 1, none⟩ (.slice B3 m3 b3)).setCell ⟨Wd.heap.size, 2, none⟩ (.int .i64 c.base)).setCell ⟨Wd.heap.size, 3, none⟩ (.int .i64 c.second)).setCell ⟨Wd.heap.size, 4, none⟩ (.int .i64 c.third)).cell? ⟨Wd.heap.size, 4, none⟩ = some (.int .i64 c.third) := by go_simp
        refine wpAnyH_ready (rs := [9]) (by kernel_rfl) (by simp) ?_
        refine AllReadyH.cons rfl (fun K hK => ?_) AllReadyH.nil
        go_simp
        refine hK.out _ _ (SK.out _ BS) (fun hHeldF => ?_)
        clear hK K
        try simp only [Act.put, List.setIfInBounds_toArray, List.set_cons_zero, List.set_cons_succ]
        refine anyH_take (i := 10) (v := ?_) (some 8) rfl rfl (by kernel_rfl) (by kernel_rfl) (by kernel_rfl) (fun _ _ _ h => h) (by rfl) (by assumption) ?_ ?_
        rotate_left
        · intro w hSw; (try dsimp only at hSw); go_split_ands; go_simp; try (with_reducible rfl)
        try simp only [Act.put, List.setIfInBounds_toArray, List.set_cons_zero, List.set_cons_succ]
        refine wpAnyH_done (by kernel_rfl) ?_ _
        try dsimp only at hHeldF
        clear c0 c1 c2 c3 c4 fz0 fz1 fz2 fz3 fz4 BS hns
        obtain ⟨s0, s1, s2, s3, s4, t0, t1, t2, t3, t4, hbF⟩ := hHeldF
        obtain ⟨Wf, hWf⟩ : ∃ Wf, ((((Wa.setCell ⟨Wd.heap.size, 0, none⟩ (.slice A3 n3 a3)).setCell ⟨Wd.heap.size, 1, none⟩ (.slice B3 m3 b3)).setCell ⟨Wd.heap.size, 2, none⟩ (.int .i64 c.base)).setCell ⟨Wd.heap.size, 3, none⟩ (.int .i64 c.second)).setCell ⟨Wd.heap.size, 4, none⟩ (.int .i64 c.third) = Wf := ⟨_, rfl⟩
        rw [hWf] at s0 s1 s2 s3 s4 t0 t1 t2 t3 t4 hbF y0 y1 y2 y3 y4 HCf ⊢
        clear hWf
        obtain ⟨bt, hbt⟩ : ∃ bt, Wd.heap.size = bt := ⟨_, rfl⟩
        rw [hbt] at y0 y1 y2 y3 y4 ⊢
        clear hbt SA CA CN NC
        have hbw := hb5.trans (hbF.mono hb5.size)
        have hf1 : w.heap.size < Wf.heap.size := World.block_lt_of_cell? Wf _ s0
        have hf2 : W2.heap.size < Wf.heap.size := World.block_lt_of_cell? Wf _ t0
        have hf3 : bt < Wf.heap.size := World.block_lt_of_cell? Wf _ y0
        have Z := ZC.out Wf hbw
        rw [hxn1, hxn2] at Z
        have HZ := Lib.hid Z
        clear Z ZC
        go_wp2_with fail
        with_reducible refine HZ.out.mono ?_
        rintro e W7 ⟨A4, n4, a4, B4, m4, b4, rfl, hC4, hn4, hm4, hb7⟩
        unfold colV
        have s0 := (hb7.cell (p := ⟨w.heap.size, 0, none⟩) hf1).trans s0
        have s1 := (hb7.cell (p := ⟨w.heap.size, 1, none⟩) hf1).trans s1
        have s2 := (hb7.cell (p := ⟨w.heap.size, 2, none⟩) hf1).trans s2
        have s3 := (hb7.cell (p := ⟨w.heap.size, 3, none⟩) hf1).trans s3
        have s4 := (hb7.cell (p := ⟨w.heap.size, 4, none⟩) hf1).trans s4
        have t0 := (hb7.cell (p := ⟨W2.heap.size, 0, none⟩) hf2).trans t0
        have t1 := (hb7.cell (p := ⟨W2.heap.size, 1, none⟩) hf2).trans t1
        have t2 := (hb7.cell (p := ⟨W2.heap.size, 2, none⟩) hf2).trans t2
        have t3 := (hb7.cell (p := ⟨W2.heap.size, 3, none⟩) hf2).trans t3
        have t4 := (hb7.cell (p := ⟨W2.heap.size, 4, none⟩) hf2).trans t4
        have y0 := (hb7.cell (p := ⟨bt, 0, none⟩) hf3).trans y0
        have y1 := (hb7.cell (p := ⟨bt, 1, none⟩) hf3).trans y1
        have y2 := (hb7.cell (p := ⟨bt, 2, none⟩) hf3).trans y2
        have y3 := (hb7.cell (p := ⟨bt, 3, none⟩) hf3).trans y3
        have y4 := (hb7.cell (p := ⟨bt, 4, none⟩) hf3).trans y4
        have hl7 := hb7.size
        have Bz : Below W7.heap.size W7 (W7.alloc (.cells #[.slice A4 n4 a4, .slice B4 m4 b4, .int .i64 c.base, .int .i64 c.second, .int .i64 c.third] 25)) := (Below.refl _ _).alloc (Nat.le_refl _) _
        have s0 := (Bz.cell (p := ⟨w.heap.size, 0, none⟩) (by show w.heap.size < _; omega)).trans s0
        have s1 := (Bz.cell (p := ⟨w.heap.size, 1, none⟩) (by show w.heap.size < _; omega)).trans s1
        have s2 := (Bz.cell (p := ⟨w.heap.size, 2, none⟩) (by show w.heap.size < _; omega)).trans s2
        have s3 := (Bz.cell (p := ⟨w.heap.size, 3, none⟩) (by show w.heap.size < _; omega)).trans s3
        have s4 := (Bz.cell (p := ⟨w.heap.size, 4, none⟩) (by show w.heap.size < _; omega)).trans s4
        have t0 := (Bz.cell (p := ⟨W2.heap.size, 0, none⟩) (by show W2.heap.size < _; omega)).trans t0
        have t1 := (Bz.cell (p := ⟨W2.heap.size, 1, none⟩) (by show W2.heap.size < _; omega)).trans t1
        have t2 := (Bz.cell (p := ⟨W2.heap.size, 2, none⟩) (by show W2.heap.size < _; omega)).trans t2
        have t3 := (Bz.cell (p := ⟨W2.heap.size, 3, none⟩) (by show W2.heap.size < _; omega)).trans t3
        have t4 := (Bz.cell (p := ⟨W2.heap.size, 4, none⟩) (by show W2.heap.size < _; omega)).trans t4
        have y0 := (Bz.cell (p := ⟨bt, 0, none⟩) (by show bt < _; omega)).trans y0
        have y1 := (Bz.cell (p := ⟨bt, 1, none⟩) (by show bt < _; omega)).trans y1
        have y2 := (Bz.cell (p := ⟨bt, 2, none⟩) (by show bt < _; omega)).trans y2
        have y3 := (Bz.cell (p := ⟨bt, 3, none⟩) (by show bt < _; omega)).trans y3
        have y4 := (Bz.cell (p := ⟨bt, 4, none⟩) (by show bt < _; omega)).trans y4
        have z0 : (W7.alloc (.cells #[.slice A4 n4 a4, .slice B4 m4 b4, .int .i64 c.base, .int .i64 c.second, .int .i64 c.third] 25)).cell? ⟨W7.heap.size, 0, none⟩ = some (.slice A4 n4 a4) := by simp
        have z1 : (W7.alloc (.cells #[.slice A4 n4 a4, .slice B4 m4 b4, .int .i64 c.base, .int .i64 c.second, .int .i64 c.third] 25)).cell? ⟨W7.heap.size, 1, none⟩ = some (.slice B4 m4 b4) := by simp
        have z2 : (W7.alloc (.cells #[.slice A4 n4 a4, .slice B4 m4 b4, .int .i64 c.base, .int .i64 c.second, .int .i64 c.third] 25)).cell? ⟨W7.heap.size, 2, none⟩ = some (.int .i64 c.base) := by simp
        have z3 : (W7.alloc (.cells #[.slice A4 n4 a4, .slice B4 m4 b4, .int .i64 c.base, .int .i64 c.second, .int .i64 c.third] 25)).cell? ⟨W7.heap.size, 3, none⟩ = some (.int .i64 c.second) := by simp
        have z4 : (W7.alloc (.cells #[.slice A4 n4 a4, .slice B4 m4 b4, .int .i64 c.base, .int .i64 c.second, .int .i64 c.third] 25)).cell? ⟨W7.heap.size, 4, none⟩ = some (.int .i64 c.third) := by simp
        have sz7 : (W7.alloc (.cells #[.slice A4 n4 a4, .slice B4 m4 b4, .int .i64 c.base, .int .i64 c.second, .int .i64 c.third] 25)).heap.size = W7.heap.size + 1 := by simp
        have bxf := hbw.trans (hb7.mono hbw.size)
        have bx7 := bxf.trans (Bz.mono bxf.size)
        have bxx := (hbF.trans (hb7.mono hbF.size)).trans (Bz.mono (Nat.le_trans hbF.size hb7.size))
        have CZ := Lib.hid (hC4.below Bz)
        have CY := Lib.hid ((HCf.out.below hb7).below Bz)
        have CC := Lib.hid (HCA.out.below bx7)
        have CX := Lib.hid (HC3.out.below bxx)
        have ZE : ∃ Wz, W7.alloc (.cells #[.slice A4 n4 a4, .slice B4 m4 b4, .int .i64 c.base, .int .i64 c.second, .int .i64 c.third] 25) = Wz := ⟨_, rfl⟩
        clear HZ HCf HCA HC3 hC4
        go_wp2_with fail
        obtain ⟨Wz, hWz⟩ := ZE
        rw [hWz] at s0 s1 s2 s3 s4 t0 t1 t2 t3 t4 y0 y1 y2 y3 y4 z0 z1 z2 z3 z4 sz7 bx7 bxx CZ CY CC CX ⊢
        clear hWz
        have S1 := Lib.hid (sameC_eq A3 n3 a3 B3 m3 b3 A n a B m b c Wz CY.out CC.out sm1)
        unfold colV at S1
        with_reducible refine S1.out.mono ?_
        rintro e W8 ⟨rfl, hb8⟩
        have hz1 : w.heap.size < Wz.heap.size := by omega
        have hz2 : W2.heap.size < Wz.heap.size := by omega
        have hz3 : W7.heap.size < Wz.heap.size := by omega
        have s0 := (hb8.cell (p := ⟨w.heap.size, 0, none⟩) hz1).trans s0
        have s1 := (hb8.cell (p := ⟨w.heap.size, 1, none⟩) hz1).trans s1
        have s2 := (hb8.cell (p := ⟨w.heap.size, 2, none⟩) hz1).trans s2
        have s3 := (hb8.cell (p := ⟨w.heap.size, 3, none⟩) hz1).trans s3
        have s4 := (hb8.cell (p := ⟨w.heap.size, 4, none⟩) hz1).trans s4
        have t0 := (hb8.cell (p := ⟨W2.heap.size, 0, none⟩) hz2).trans t0
        have t1 := (hb8.cell (p := ⟨W2.heap.size, 1, none⟩) hz2).trans t1
        have t2 := (hb8.cell (p := ⟨W2.heap.size, 2, none⟩) hz2).trans t2
        have t3 := (hb8.cell (p := ⟨W2.heap.size, 3, none⟩) hz2).trans t3
        have t4 := (hb8.cell (p := ⟨W2.heap.size, 4, none⟩) hz2).trans t4
        have z0 := (hb8.cell (p := ⟨W7.heap.size, 0, none⟩) hz3).trans z0
        have z1 := (hb8.cell (p := ⟨W7.heap.size, 1, none⟩) hz3).trans z1
        have z2 := (hb8.cell (p := ⟨W7.heap.size, 2, none⟩) hz3).trans z2
        have z3 := (hb8.cell (p := ⟨W7.heap.size, 3, none⟩) hz3).trans z3
        have z4 := (hb8.cell (p := ⟨W7.heap.size, 4, none⟩) hz3).trans z4
        have hl8 := hb8.size
        have S2 := Lib.hid (sameC_eq A4 n4 a4 B4 m4 b4 A n a B m b c W8 (CZ.out.below hb8) (CC.out.below hb8) sm1)
        unfold colV at S2
        clear y0 y1 y2 y3 y4 S1
        go_wp2_with fail
        with_reducible refine S2.out.mono ?_
        rintro e W9 ⟨rfl, hb9⟩
        have hy2 : W2.heap.size < W8.heap.size := by omega
        have t0 := (hb9.cell (p := ⟨W2.heap.size, 0, none⟩) hy2).trans t0
        have t1 := (hb9.cell (p := ⟨W2.heap.size, 1, none⟩) hy2).trans t1
        have t2 := (hb9.cell (p := ⟨W2.heap.size, 2, none⟩) hy2).trans t2
        have t3 := (hb9.cell (p := ⟨W2.heap.size, 3, none⟩) hy2).trans t3
        have t4 := (hb9.cell (p := ⟨W2.heap.size, 4, none⟩) hy2).trans t4
        have CK := Lib.hid (ckColl_any A2 n2 a2 B2 m2 b2 x W9 ((CX.out.below hb8).below hb9) sz)
        rw [hxv] at CK
        unfold colV at CK
        clear s0 s1 s2 s3 s4 z0 z1 z2 z3 z4 S2
        have hc9 := (bx7.trans (hb8.mono bx7.size)).trans (hb9.mono (Nat.le_trans bx7.size hb8.size))
        go_wp2_with fail
        with_reducible refine CK.out.mono ?_
        rintro e W10 ⟨rfl, hb10⟩
        have hc10 := hc9.trans (hb10.mono hc9.size)
        go_wp2_with fail
        refine (alive_any W10).mono ?_
        rintro e W11 ⟨rfl, hb11⟩
        go_wp2_with fail
        go_ret
        exact ⟨rfl, hc10.trans (hb11.mono hc10.size)⟩
    · have q1 : (ordErr c names != 0) = true := by simpa using he
      have HXE := Lib.hid (X0.out he)
      clear X0 X1 XB XN XV NC ZC HCA
      go_wp2_with fail
      obtain ⟨Wx, hWx⟩ : ∃ Wx, W2.alloc (.cells #[.slice A2 n2 a2, .slice B2 m2 b2, .int .i64 x.base, .int .i64 x.second, .int .i64 x.third] 25) = Wx := ⟨_, rfl⟩
      rw [hWx] at Bx p0 p1 p2 p3 p4 sx ⊢
      clear hWx
      have hb5 := hb4.trans (Bx.mono hb4.size)
      have hx3 : W2.heap.size < Wx.heap.size := by omega
      have hx5 : w.heap.size < Wx.heap.size := by omega
      have r0 := (Bx.cell (p := ⟨w.heap.size, 0, none⟩) hx2).trans g0
      have r1 := (Bx.cell (p := ⟨w.heap.size, 1, none⟩) hx2).trans g1
      have r2 := (Bx.cell (p := ⟨w.heap.size, 2, none⟩) hx2).trans g2
      have r3 := (Bx.cell (p := ⟨w.heap.size, 3, none⟩) hx2).trans g3
      have r4 := (Bx.cell (p := ⟨w.heap.size, 4, none⟩) hx2).trans g4
      have HC3 := Lib.hid (HC2.out.below Bx)
      clear g0 g1 g2 g3 g4 Bx HC2 hb4
      have hxe := HXE.out
      subst hxe
      have SC := Lib.hid (sameC_eq A2 n2 a2 B2 m2 b2 none 0 0 none 0 0 ⟨[], [], 0, 0, 0⟩ Wx HC3.out ⟨⟨[], rfl, Sl.nil _ _, fun i hi => absurd hi (Nat.not_lt_zero _)⟩, Sl.nil _ _, rfl, rfl, fun _ h => by cases h⟩ sz)
      unfold colV at SC
      clear HC3
      dsimp only at SC ⊢
      with_reducible refine SC.out.mono ?_
      rintro e W4 ⟨rfl, hb8⟩
      have hb9 := hb5.trans (hb8.mono hb5.size)
      clear SC hb8
      go_wp2_with fail
      refine (alive_any W4).mono ?_
      rintro e W5 ⟨rfl, hb10⟩
      go_wp2_with fail
      go_ret
      exact ⟨rfl, hb9.trans (hb10.mono hb9.size)⟩

end Go.Proofs.Ytnfnoefjgiojoaa
