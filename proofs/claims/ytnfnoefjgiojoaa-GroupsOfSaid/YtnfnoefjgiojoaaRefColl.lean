/- Contracts of the reference's entry and Check: the first error of a collation. -/
import Derived.Test.YtnfnoefjgiojoaaCkColl
namespace Go.Proofs.Ytnfnoefjgiojoaa
open Go.RowKit Go.Maps Go.WideMaps

set_option maxRecDepth 100000 in
set_option maxHeartbeats 8000000 in
theorem refEntry_any (A : Option Addr) (n a : Nat) (B : Option Addr) (m b : Nat) (c : Col) (i : Nat) (w : World) (h : ColAt w A n B m c) (hz : ColSz c) (hi : i < c.ents.length) :
    Calls Try.prog 50 #[colV A n a B m b c, .int .i64 i] w (RetInt (entI c.base c.ents i) w) := by
  obtain ⟨es, gs, base, second, third⟩ := c
  dsimp only at *
  unfold colV
  dsimp only
  have HEN := h.ents
  have hnn := h.hn
  dsimp only at hnn HEN
  subst hnn
  obtain ⟨b1, o1, rfl, hbl, hcell⟩ := HEN.at hi
  obtain ⟨C, cc, E, d, c1, c2, hC, hE⟩ := hcell i hi
  obtain ⟨z1, z2⟩ := hz.e i hi
  dsimp only at z1 z2
  have hnz : es.length ≤ 1048576 := hz.n
  have E1 := Lib.hid (fun h => entI_1 (base := base) hi h)
  have HPV := Lib.hid (show 0 < i → ∃ D dd, w.cell? ⟨b1, o1 + (i - 1) * 2, none⟩ = some (.slice D (es[i - 1]'(by omega)).codes.length dd) ∧ Ints w D (es[i - 1]'(by omega)).codes ∧ (es[i - 1]'(by omega)).codes.length ≤ 1048576 ∧ (entErr1 base es[i] = 0 → (0 ≤ cmpL (es[i - 1]'(by omega)).codes es[i].codes → entI base es i = 4) ∧ (¬ 0 ≤ cmpL (es[i - 1]'(by omega)).codes es[i].codes → entI base es i = 0)) from fun hp => by
    obtain ⟨j, rfl⟩ : ∃ j, i = j + 1 := ⟨i - 1, by omega⟩
    obtain ⟨D, dd, _, _, e1, _, e3, _⟩ := hcell j (by omega)
    exact ⟨D, dd, e1, e3, (hz.e j (show j < es.length by omega)).1, fun hz => ⟨fun h => entI_4 hi hz h, fun h => entI_ok hi hz h⟩⟩)
  have HP0 := Lib.hid (show ¬ 0 < i → entErr1 base es[i] = 0 → entI base es i = 0 from fun hp hz => by
    obtain rfl : i = 0 := by omega
    exact entI_0 hi hz)
  generalize hx : es[i] = x at *
  have HX := Lib.hid hx
  clear hcell h hz hx HEN
  have HSZ := Lib.hid (show szBad x ↔ (x.codes.length < 1 ∨ 8 < x.codes.length ∨ 16 < x.elems.length) from Iff.rfl)
  have hii : (i : Int) < (es.length : Int) := by omega
  have B0 : Below w.heap.size w ((w.alloc (.cells #[.slice (some ⟨b1, o1, none⟩) es.length a, .slice B m b, .int .i64 base, .int .i64 second, .int .i64 third] 25)).alloc (.cells #[.slice C x.codes.length cc, .slice E x.elems.length d] 49)) := ((Below.refl _ _).alloc (Nat.le_refl _) _).alloc (by simp) _
  by_cases hsz : x.codes.length < 1 ∨ 8 < x.codes.length ∨ 16 < x.elems.length
  · have HQ := Lib.hid ((E1.out (by rw [ent2 (base := base) (HSZ.out.2 hsz)]; simp)).trans (ent2 (base := base) (HSZ.out.2 hsz)))
    generalize entI base es i = R at *
    clear HPV HP0 E1
    obtain hsz | ⟨g1, hsz⟩ | ⟨g1, g2, hsz⟩ : x.codes.length < 1 ∨ (¬ x.codes.length < 1 ∧ 8 < x.codes.length) ∨ (¬ x.codes.length < 1 ∧ ¬ 8 < x.codes.length ∧ 16 < x.elems.length) := by omega
    all_goals
      go_enter Try.func50, Try.ntmps50
      go_wp2
      go_ret
      exact ⟨ret_int HQ.out.symm, B0⟩
  · have HSZN := Lib.hid (fun h => hsz (HSZ.out.1 h))
    have y1 : ¬ x.codes.length < 1 := by omega
    have y2 : ¬ 8 < x.codes.length := by omega
    have y3 : ¬ 16 < x.elems.length := by omega
    clear hsz HSZ
    go_enter Try.func50, Try.ntmps50
    go_wp2
    have s0 : ((w.alloc (.cells #[.slice (some ⟨b1, o1, none⟩) es.length a, .slice B m b, .int .i64 base, .int .i64 second, .int .i64 third] 25)).alloc (.cells #[.slice C x.codes.length cc, .slice E x.elems.length d] 49)).heap.size = w.heap.size + 2 := by simp
    have k0 : ((w.alloc (.cells #[.slice (some ⟨b1, o1, none⟩) es.length a, .slice B m b, .int .i64 base, .int .i64 second, .int .i64 third] 25)).alloc (.cells #[.slice C x.codes.length cc, .slice E x.elems.length d] 49)).cell? ⟨w.heap.size, 0, none⟩ = some (.slice (some ⟨b1, o1, none⟩) es.length a) := by simp
    have k2 : ((w.alloc (.cells #[.slice (some ⟨b1, o1, none⟩) es.length a, .slice B m b, .int .i64 base, .int .i64 second, .int .i64 third] 25)).alloc (.cells #[.slice C x.codes.length cc, .slice E x.elems.length d] 49)).cell? ⟨w.heap.size, 2, none⟩ = some (.int .i64 base) := by simp
    have l0 : ((w.alloc (.cells #[.slice (some ⟨b1, o1, none⟩) es.length a, .slice B m b, .int .i64 base, .int .i64 second, .int .i64 third] 25)).alloc (.cells #[.slice C x.codes.length cc, .slice E x.elems.length d] 49)).cell? ⟨w.heap.size + 1, 0, none⟩ = some (.slice C x.codes.length cc) := by simp
    have l1 : ((w.alloc (.cells #[.slice (some ⟨b1, o1, none⟩) es.length a, .slice B m b, .int .i64 base, .int .i64 second, .int .i64 third] 25)).alloc (.cells #[.slice C x.codes.length cc, .slice E x.elems.length d] 49)).cell? ⟨w.heap.size + 1, 1, none⟩ = some (.slice E x.elems.length d) := by simp
    obtain ⟨W0, hW0⟩ : ∃ W0, (w.alloc (.cells #[.slice (some ⟨b1, o1, none⟩) es.length a, .slice B m b, .int .i64 base, .int .i64 second, .int .i64 third] 25)).alloc (.cells #[.slice C x.codes.length cc, .slice E x.elems.length d] 49) = W0 := ⟨_, rfl⟩
    rw [hW0] at B0 s0 k0 k2 l0 l1 ⊢
    clear hW0
    have HC0 := Lib.hid (hC.below B0); have HE0 := Lib.hid (hE.below B0)
    have K := Lib.hid (And.intro k0 (And.intro k2 (And.intro l0 l1)))
    have hx0 : w.heap.size < W0.heap.size := by omega
    have hx1 : w.heap.size + 1 < W0.heap.size := by omega
    clear hC hE k0 k2 l0 l1 s0 c1 c2
    go_loop [6] (fun u => ∃ i : Nat, i ≤ x.codes.length ∧ u = .int .i64 i ∧ (∀ t, (ht : t < x.codes.length) → t < i → inR 0 1114111 x.codes[t] = true)) (fun u => x.codes.length - (intOf u).toNat)
    case atStart => exact ⟨0, Nat.zero_le _, rfl, fun t _ h => by omega⟩
    case round =>
      obtain ⟨k, hk, rfl, g1⟩ := hrel
      have G1 := Lib.hid g1; clear g1
      have l0 := K.out.2.2.1
      by_cases hlt : k < x.codes.length
      · obtain ⟨b2, o2, rfl, hcell⟩ := HC0.out.at hlt
        have c1 := hcell k hlt
        have HB := Lib.hid (fun h => ent1 (base := base) HSZN.out hlt h)
        have HN := Lib.hid (fun h => all_up (P := fun c => inR 0 1114111 c = true) hlt G1.out h)
        clear hcell
        generalize x.codes[k] = cd at *
        go_wp2_with fail
        refine (refValid_any cd _).mono ?_
        rintro e w1 ⟨rfl, rfl⟩
        cases hv : inR 0 1114111 cd
        · have HQ := Lib.hid ((E1.out (by rw [HB.out hv]; simp)).trans (HB.out hv))
          go_wp2_with fail
          go_ret
          exact ⟨ret_int HQ.out.symm, B0⟩
        · have HQ := Lib.hid (HN.out hv)
          go_wp2_with fail
          go_round
          case rel => exact ⟨k + 1, by omega, by go_num, HQ.out⟩
          case measure => simp [intOf]; omega
      · have G1' := Lib.hid (fun t (ht : t < x.codes.length) => G1.out t ht (by omega))
        clear G1
        go_wp2
        clear l0
        go_loopw [7, 8] (fun u _ wr => ∃ i : Nat, i ≤ x.elems.length ∧ u = .int .i64 i ∧ (∀ t, (ht : t < x.elems.length) → t < i → eltErr x.elems[t] = 0) ∧ Below W0.heap.size W0 wr) (fun u _ _ => x.elems.length - (intOf u).toNat)
        case atStart => exact ⟨0, Nat.zero_le _, rfl, fun t _ h => by omega, Below.refl _ _⟩
        case round =>
          obtain ⟨k, hk, rfl, g2, hb⟩ := hrel
          have G2 := Lib.hid g2; clear g2
          have l1 := (hb.cell (p := ⟨w.heap.size + 1, 1, none⟩) hx1).trans K.out.2.2.2
          by_cases hlt : k < x.elems.length
          · obtain ⟨b2, o2, rfl, hbl2, hcell⟩ := (HE0.out.below hb).at hlt
            obtain ⟨c1, c2, c3, c4⟩ := hcell k hlt
            have HB := Lib.hid (fun h => entE (base := base) HSZN.out G1'.out hlt G2.out h)
            have HN := Lib.hid (fun h => all_up (P := fun e => eltErr e = 0) hlt G2.out h)
            have CE := Lib.hid (fun W => refEltCheck_any x.elems[k] W)
            clear hcell
            generalize eltErr x.elems[k] = ev at *
            generalize x.elems[k].p = p at *
            generalize x.elems[k].s = s at *
            generalize x.elems[k].t = t at *
            generalize x.elems[k].v = v at *
            go_wp2_with fail
            refine (CE.out _).mono ?_
            rintro e w1 ⟨rfl, hb1⟩
            have hb2 := hb.trans (hb1.mono hb.size)
            clear hb1 c1 c2 c3 c4
            by_cases hev : ev = 0
            · have q1 : (ev != 0) = false := by simpa using hev
              have HQ := Lib.hid (HN.out hev)
              clear hev HB HN
              go_wp2_with fail
              go_roundw
              case rel => exact ⟨k + 1, by omega, by go_num, HQ.out, hb2⟩
              case measure => simp [intOf]; omega
            · have q1 : (ev != 0) = true := by simpa using hev
              have HQ := Lib.hid ((E1.out (by rw [HB.out hev]; exact hev)).trans (HB.out hev))
              clear hev HB HN
              go_wp2_with fail
              go_ret
              exact ⟨ret_int HQ.out.symm, B0.trans (hb2.mono B0.size)⟩
          · have G2' := Lib.hid (fun t (ht : t < x.elems.length) => G2.out t ht (by omega))
            clear G2
            go_wp2
            clear l1
            go_loopw [9] (fun u wr => ∃ i : Nat, i ≤ x.elems.length ∧ u = .int .i64 i ∧ (∀ t, (ht : t < x.elems.length) → t < i → ¬ base ≤ x.elems[t].p) ∧ Below W0.heap.size W0 wr) (fun u _ => x.elems.length - (intOf u).toNat)
            case atStart => exact ⟨0, Nat.zero_le _, rfl, fun t _ h => by omega, hb⟩
            case round =>
              obtain ⟨k, hk, rfl, g3, hb⟩ := hrel
              have G3 := Lib.hid g3; clear g3
              have l1 := (hb.cell (p := ⟨w.heap.size + 1, 1, none⟩) hx1).trans K.out.2.2.2
              have l0 := (hb.cell (p := ⟨w.heap.size + 1, 0, none⟩) hx1).trans K.out.2.2.1
              have k0 := (hb.cell (p := ⟨w.heap.size, 0, none⟩) hx0).trans K.out.1
              have k2 := (hb.cell (p := ⟨w.heap.size, 2, none⟩) hx0).trans K.out.2.1
              by_cases hlt : k < x.elems.length
              · obtain ⟨b2, o2, rfl, hbl2, hcell⟩ := (HE0.out.below hb).at hlt
                have c1 := (hcell k hlt).1
                have HB := Lib.hid (fun h => entP (base := base) HSZN.out G1'.out G2'.out hlt h)
                have HN := Lib.hid (fun h => all_up (P := fun e => ¬ base ≤ e.p) hlt G3.out h)
                have i1 : (k : Int) < (x.elems.length : Int) := by omega
                clear hcell
                generalize x.elems[k].p = p at *
                by_cases hev : base ≤ p
                · have q1 : decide (base ≤ p) = true := by simpa using hev
                  have HQ := Lib.hid ((E1.out (by rw [HB.out hev]; simp)).trans (HB.out hev))
                  clear HB HN hev
                  go_wp2_with fail
                  go_quiet (fail)
                  go_wp2_with fail
                  go_ret
                  exact ⟨ret_int HQ.out.symm, B0.trans ((below_drewN hb _).mono B0.size)⟩
                · have q1 : decide (base ≤ p) = false := by simpa using hev
                  have HQ := Lib.hid (HN.out hev)
                  clear HB HN hev
                  go_wp2_with fail
                  go_quiet (fail)
                  go_wp2_with fail
                  go_roundw
                  case rel => exact ⟨k + 1, by omega, by go_num, (fun t ht h9 => by have := HQ.out t ht h9; omega), below_drewN hb _⟩
                  case measure => simp [intOf]; omega
              · have HZ := ent0 (base := base) HSZN.out G1'.out G2'.out (fun t ht => G3.out t ht (by omega))
                have HCx := HC0.out.below hb
                by_cases hp : 0 < i
                · obtain ⟨D, dd, d1, hD, z3, hcmp⟩ := HPV.out hp
                  have HCMP := Lib.hid (hcmp HZ)
                  have hD' := (hD.below B0).below hb
                  have d1' := (hb.cell (p := ⟨b1, o1 + (i - 1) * 2, none⟩) (by have := World.block_lt_of_cell? w _ d1; have := B0.size; simp at *; omega)).trans ((B0.cell (p := ⟨b1, o1 + (i - 1) * 2, none⟩) (World.block_lt_of_cell? w _ d1)).trans d1)
                  have CC := Lib.hid (fun n => Compare_any D C _ _ dd cc _ x.codes (wr.drewN n) (Sl.drewN hD' n) (Sl.drewN HCx n) rfl rfl (by omega) (by omega))
                  clear hcmp E1 HPV HP0 hD d1 hD' HCx HZ
                  generalize (es[i - 1]'(by omega)).codes = pcs at *
                  generalize cmpL pcs x.codes = cv at *
                  generalize entI base es i = R at *
                  have i1 : (0 : Int) ≤ (i : Int) - 1 := by omega
                  have i2 : (i : Int) - 1 < (es.length : Int) := by omega
                  have i3 : ((i : Int) - 1).toNat = i - 1 := by omega
                  have w1 : IntKind.i64.wrap ((i : Int) - 1) = (i : Int) - 1 := IntWalk.i64_in _ (by omega)
                  by_cases hcv : 0 ≤ cv
                  · have q9 : decide (0 ≤ cv) = true := by simpa using hcv
                    have HV := Lib.hid (HCMP.out.1 (by omega))
                    clear hcv HCMP
                    go_wp2_with fail
                    go_quiet ((go_at_call 64; exact quiet_qt (CC.out _)))
                    clear i3 w1
                    go_wp2_with fail
                    go_ret
                    exact ⟨ret_int HV.out.symm, B0.trans ((below_drewN hb _).mono B0.size)⟩
                  · have q9 : decide (0 ≤ cv) = false := by simpa using hcv
                    have HV := Lib.hid (HCMP.out.2 (by omega))
                    clear hcv HCMP
                    go_wp2_with fail
                    go_quiet ((go_at_call 64; exact quiet_qt (CC.out _)))
                    clear i3 w1
                    go_wp2_with fail
                    go_ret
                    exact ⟨ret_int HV.out.symm, B0.trans ((below_drewN hb _).mono B0.size)⟩
                · have hp0 : decide ((0 : Int) < (i : Int)) = false := by simp; omega
                  have HV := Lib.hid (HP0.out hp HZ)
                  clear E1 HPV HP0 HZ HCx
                  generalize entI base es i = R at *
                  go_wp2_with fail
                  go_quiet (fail)
                  go_wp2_with fail
                  go_ret
                  exact ⟨ret_int HV.out.symm, B0.trans ((below_drewN hb _).mono B0.size)⟩

set_option maxRecDepth 100000 in
set_option maxHeartbeats 8000000 in
theorem refColl_any (A : Option Addr) (n a : Nat) (B : Option Addr) (m b : Nat) (c : Col) (w : World) (h : ColAt w A n B m c) (hz : ColSz c) :
    Calls Try.prog 32 #[colV A n a B m b c] w (RetInt (colErr c) w) := by
  have B0 : Below w.heap.size w (w.alloc (.cells #[.slice A n a, .slice B m b, .int .i64 c.base, .int .i64 c.second, .int .i64 c.third] 25)) := (Below.refl _ _).alloc (Nat.le_refl _) _
  have H1 := Lib.hid (col1 (c := c))
  have HG := Lib.hid (colG (c := c))
  have HE := Lib.hid (colE (c := c))
  have CG := Lib.hid (fun W (hb : Below w.heap.size w W) (h65 : c.base ≤ 65502) => refGroups_any A n a B m b c W (h.below hb) h65 (by rw [← h.hm]; exact hz.m))
  have CE := Lib.hid (fun W i (hb : Below w.heap.size w W) (hi : i < c.ents.length) => refEntry_any A n a B m b c i W (h.below hb) hz hi)
  obtain ⟨es, gs, base, second, third⟩ := c
  dsimp only at *
  unfold colV at *
  dsimp only at *
  have CI := Lib.hid weight43_any
  have hnn := h.hn
  have hnz : es.length ≤ 1048576 := hz.n
  dsimp only at hnn
  subst hnn
  clear h hz
  by_cases q1 : base < 1
  · have HQ := Lib.hid (H1.out (.inl q1))
    go_enter Try.func32, Try.ntmps32
    go_wp2_with fail
    go_ret
    exact ⟨ret_int HQ.out.symm, B0⟩
  · by_cases q2 : 65502 < base
    · have HQ := Lib.hid (H1.out (.inr (.inl q2)))
      go_enter Try.func32, Try.ntmps32
      go_wp2_with fail
      go_ret
      exact ⟨ret_int HQ.out.symm, B0⟩
    · cases q3 : inR 1 65535 second
      · have HQ := Lib.hid (H1.out (.inr (.inr (.inl q3))))
        go_enter Try.func32, Try.ntmps32
        go_wp2_with fail
        refine (CI.out second _).mono ?_
        rw [q3]; rintro e w' ⟨rfl, rfl⟩
        go_wp2_with fail
        go_ret
        exact ⟨ret_int HQ.out.symm, B0⟩
      · cases q4 : inR 1 65535 third
        · have HQ := Lib.hid (H1.out (.inr (.inr (.inr q4))))
          go_enter Try.func32, Try.ntmps32
          go_wp2_with fail
          refine (CI.out second _).mono ?_
          rw [q3]; rintro e w' ⟨rfl, rfl⟩
          go_wp2_with fail
          refine (CI.out third _).mono ?_
          rw [q4]; rintro e w' ⟨rfl, rfl⟩
          go_wp2_with fail
          go_ret
          exact ⟨ret_int HQ.out.symm, B0⟩
        · have hno : ¬ (base < 1 ∨ 65502 < base ∨ inR 1 65535 second = false ∨ inR 1 65535 third = false) := by rw [q3, q4]; simp; omega
          have HG' := Lib.hid (HG.out hno); have HE' := Lib.hid (HE.out hno)
          clear HG HE H1 hno
          go_enter Try.func32, Try.ntmps32
          go_wp2_with fail
          refine (CI.out second _).mono ?_
          rw [q3]; rintro e w' ⟨rfl, rfl⟩
          go_wp2_with fail
          refine (CI.out third _).mono ?_
          rw [q4]; rintro e w' ⟨rfl, rfl⟩
          go_wp2_with fail
          have s0 : (w.alloc (.cells #[.slice A es.length a, .slice B m b, .int .i64 base, .int .i64 second, .int .i64 third] 25)).heap.size = w.heap.size + 1 := by simp
          have k0 : (w.alloc (.cells #[.slice A es.length a, .slice B m b, .int .i64 base, .int .i64 second, .int .i64 third] 25)).cell? ⟨w.heap.size, 0, none⟩ = some (.slice A es.length a) := by simp
          have k1 : (w.alloc (.cells #[.slice A es.length a, .slice B m b, .int .i64 base, .int .i64 second, .int .i64 third] 25)).cell? ⟨w.heap.size, 1, none⟩ = some (.slice B m b) := by simp
          have k2 : (w.alloc (.cells #[.slice A es.length a, .slice B m b, .int .i64 base, .int .i64 second, .int .i64 third] 25)).cell? ⟨w.heap.size, 2, none⟩ = some (.int .i64 base) := by simp
          have k3 : (w.alloc (.cells #[.slice A es.length a, .slice B m b, .int .i64 base, .int .i64 second, .int .i64 third] 25)).cell? ⟨w.heap.size, 3, none⟩ = some (.int .i64 second) := by simp
          have k4 : (w.alloc (.cells #[.slice A es.length a, .slice B m b, .int .i64 base, .int .i64 second, .int .i64 third] 25)).cell? ⟨w.heap.size, 4, none⟩ = some (.int .i64 third) := by simp
          obtain ⟨W0, hW0⟩ : ∃ W0, w.alloc (.cells #[.slice A es.length a, .slice B m b, .int .i64 base, .int .i64 second, .int .i64 third] 25) = W0 := ⟨_, rfl⟩
          rw [hW0] at B0 s0 k0 k1 k2 k3 k4 ⊢
          clear hW0
          have K := Lib.hid (And.intro k0 (And.intro k1 (And.intro k2 (And.intro k3 k4))))
          have hx0 : w.heap.size < W0.heap.size := by omega
          clear k0 k1 k2 k3 k4 s0 q3 q4 CI
          refine (CG.out W0 B0 (by omega)).mono ?_
          rintro e W1 ⟨rfl, hb1⟩
          clear CG
          by_cases hgz : grpErr base gs = 0
          · have g1 : (grpErr base gs != 0) = false := by simpa using hgz
            have HQ := Lib.hid (HE'.out hgz)
            clear hgz HG' HE'
            generalize grpErr base gs = ge at *
            generalize colErr ⟨es, gs, base, second, third⟩ = R at *
            go_wp2_with fail
            go_loopw [4, 5] (fun u _ wr => ∃ i : Nat, i ≤ es.length ∧ u = .int .i64 i ∧ entsErr base es none = entsErr base (es.drop i) (prevE es i) ∧ Below W0.heap.size W0 wr) (fun u _ _ => es.length - (intOf u).toNat)
            case atStart => exact ⟨0, Nat.zero_le _, rfl, rfl, hb1⟩
            case round =>
              obtain ⟨i, hi, rfl, hen, hb⟩ := hrel
              have HEE := Lib.hid hen; clear hen hb1
              have f0 := (hb.cell (p := ⟨w.heap.size, 0, none⟩) hx0).trans K.out.1
              by_cases hlt : i < es.length
              · have f1 := (hb.cell (p := ⟨w.heap.size, 1, none⟩) hx0).trans K.out.2.1
                have f2 := (hb.cell (p := ⟨w.heap.size, 2, none⟩) hx0).trans K.out.2.2.1
                have f3 := (hb.cell (p := ⟨w.heap.size, 3, none⟩) hx0).trans K.out.2.2.2.1
                have f4 := (hb.cell (p := ⟨w.heap.size, 4, none⟩) hx0).trans K.out.2.2.2.2
                have ST := Lib.hid (ents_step base es i hlt)
                have CEi := Lib.hid (CE.out wr i (B0.trans (hb.mono B0.size)) hlt)
                generalize entI base es i = ev at *
                go_wp2_with fail
                refine CEi.out.mono ?_
                rintro e w3 ⟨rfl, hb3⟩
                have hb4 := hb.trans (hb3.mono hb.size)
                clear hb3 f0 f1 f2 f3 f4 CEi
                by_cases hev : ev = 0
                · have e1 : (ev != 0) = false := by simpa using hev
                  have HV := Lib.hid hev
                  clear hev
                  go_wp2_with fail
                  go_roundw
                  case rel => exact ⟨i + 1, by omega, by go_num, by rw [HEE.out, ST.out, HV.out]; rfl, hb4⟩
                  case measure => simp [intOf]; omega
                · have e1 : (ev != 0) = true := by simpa using hev
                  have HV := Lib.hid hev
                  clear hev
                  go_wp2_with fail
                  go_ret
                  exact ⟨ret_int (by rw [HQ.out, HEE.out, ST.out, if_pos HV.out]), B0.trans (hb4.mono B0.size)⟩
              · have HF := Lib.hid (ents_end base es i (by omega))
                go_wp2
                go_ret
                exact ⟨ret_int (by rw [HQ.out, HEE.out, HF.out]), B0.trans (hb.mono B0.size)⟩
          · have g1 : (grpErr base gs != 0) = true := by simpa using hgz
            have HQ := Lib.hid (HG'.out hgz)
            clear hgz HG' HE'
            generalize grpErr base gs = ge at *
            go_wp2_with fail
            go_ret
            exact ⟨ret_int HQ.out.symm, B0.trans (hb1.mono B0.size)⟩

end Go.Proofs.Ytnfnoefjgiojoaa
