/- The contract of the reference's Check of case mapping. Written by gen_caserck.py. -/
import Derived.Test.YtpamkbbmbeeheaaCaseCk
namespace Go.Proofs.Ytpamkbbmbeeheaa
open Go.RowKit Go.Maps Go.WideMaps

set_option maxRecDepth 100000 in
set_option maxHeartbeats 12800000 in
theorem refCaseCheck_any (v0 v1 v2 v3 v4 v5 : Value) (C : Cse) (w : World) (h : CaseAt w v0 v1 v2 v3 v4 v5 C) (hz : CaseSz C) :
    Calls Try.prog 14 #[.agg #[v0, v1, v2, v3, v4, v5]] w (RetInt (caseErr C) w) := by
  have K0 := Lib.hid (cerr0 (C := C)); have K1 := Lib.hid (cerr1 (C := C)); have K2 := Lib.hid (cerr2 (C := C)); have K3 := Lib.hid (cerr3 (C := C))
  have K6 := Lib.hid (cerr6 (C := C)); have K11 := Lib.hid (cerr11 (C := C)); have KOK := Lib.hid (cerrOK (C := C))
  generalize caseErr C = R at *
  obtain ⟨l0, l1, l2, l3, r4, r5⟩ := C
  obtain ⟨⟨A0, c0, rfl, g0, m0⟩, ⟨A1, c1, rfl, g1, m1⟩, ⟨A2, c2, rfl, g2, m2⟩, ⟨A3, c3, rfl, g3, m3⟩, ⟨A4, c4, rfl, g4, m4⟩, ⟨A5, c5, rfl, g5, m5⟩⟩ := h
  obtain ⟨z0, z1, z2, z3, z4, z5⟩ := hz
  dsimp only at *
  have MC0 := Lib.hid (fun W (hb : Below w.heap.size w W) => refMapCheck_any A0 l0.length c0 l0 W (m0.below hb) rfl z0)
  have TC0 := Lib.hid (fun W (hb : Below w.heap.size w W) => tagged_any A0 l0.length c0 l0 finalS W (m0.below hb) rfl z0)
  have MC1 := Lib.hid (fun W (hb : Below w.heap.size w W) => refMapCheck_any A1 l1.length c1 l1 W (m1.below hb) rfl z1)
  have TC1 := Lib.hid (fun W (hb : Below w.heap.size w W) => tagged_any A1 l1.length c1 l1 .empty W (m1.below hb) rfl z1)
  have MC2 := Lib.hid (fun W (hb : Below w.heap.size w W) => refMapCheck_any A2 l2.length c2 l2 W (m2.below hb) rfl z2)
  have TC2 := Lib.hid (fun W (hb : Below w.heap.size w W) => tagged_any A2 l2.length c2 l2 .empty W (m2.below hb) rfl z2)
  have MC3 := Lib.hid (fun W (hb : Below w.heap.size w W) => refMapCheck_any A3 l3.length c3 l3 W (m3.below hb) rfl z3)
  have TC3 := Lib.hid (fun W (hb : Below w.heap.size w W) => tagged_any A3 l3.length c3 l3 .empty W (m3.below hb) rfl z3)
  have VC4 := Lib.hid (fun W (hb : Below w.heap.size w W) => refSetValid_any A4 r4.length c4 r4 W (m4.below hb) rfl (by omega))
  have VC5 := Lib.hid (fun W (hb : Below w.heap.size w W) => refSetValid_any A5 r5.length c5 r5 W (m5.below hb) rfl (by omega))
  clear m0 m1 m2 m3 m4 m5 z0 z1 z2 z3
  generalize mapErr l0 = e0 at *
  generalize taggedL l0 finalS = t0 at *
  generalize mapErr l1 = e1 at *
  generalize taggedL l1 .empty = t1 at *
  generalize mapErr l2 = e2 at *
  generalize taggedL l2 .empty = t2 at *
  generalize mapErr l3 = e3 at *
  generalize taggedL l3 .empty = t3 at *
  generalize setOk r4 = s4 at *
  generalize setOk r5 = s5 at *
  unfold finalS at *
  have B1 : Below w.heap.size w ((w.alloc (.cells #[.slice A0 l0.length c0, .slice A1 l1.length c1, .slice A2 l2.length c2, .slice A3 l3.length c3, .slice A4 r4.length c4, .slice A5 r5.length c5] 27)).alloc (.cells #[.slice A0 l0.length c0, .slice A1 l1.length c1, .slice A2 l2.length c2, .slice A3 l3.length c3] 22)) := ((Below.refl _ _).alloc (Nat.le_refl _) _).alloc (by simp) _
  have s1 : ((w.alloc (.cells #[.slice A0 l0.length c0, .slice A1 l1.length c1, .slice A2 l2.length c2, .slice A3 l3.length c3, .slice A4 r4.length c4, .slice A5 r5.length c5] 27)).alloc (.cells #[.slice A0 l0.length c0, .slice A1 l1.length c1, .slice A2 l2.length c2, .slice A3 l3.length c3] 22)).heap.size = w.heap.size + 2 := by simp
  have XB : Box ((w.alloc (.cells #[.slice A0 l0.length c0, .slice A1 l1.length c1, .slice A2 l2.length c2, .slice A3 l3.length c3, .slice A4 r4.length c4, .slice A5 r5.length c5] 27)).alloc (.cells #[.slice A0 l0.length c0, .slice A1 l1.length c1, .slice A2 l2.length c2, .slice A3 l3.length c3] 22)) w.heap.size 27 [.slice A0 l0.length c0, .slice A1 l1.length c1, .slice A2 l2.length c2, .slice A3 l3.length c3, .slice A4 r4.length c4, .slice A5 r5.length c5] := (Box.new w 27 [.slice A0 l0.length c0, .slice A1 l1.length c1, .slice A2 l2.length c2, .slice A3 l3.length c3, .slice A4 r4.length c4, .slice A5 r5.length c5] rfl).below (B := w.heap.size + 1) ((Below.refl _ _).alloc (by simp) _) (by omega)
  have XA : Box ((w.alloc (.cells #[.slice A0 l0.length c0, .slice A1 l1.length c1, .slice A2 l2.length c2, .slice A3 l3.length c3, .slice A4 r4.length c4, .slice A5 r5.length c5] 27)).alloc (.cells #[.slice A0 l0.length c0, .slice A1 l1.length c1, .slice A2 l2.length c2, .slice A3 l3.length c3] 22)) (w.heap.size + 1) 22 [.slice A0 l0.length c0, .slice A1 l1.length c1, .slice A2 l2.length c2, .slice A3 l3.length c3] := Box.new _ _ _ (by simp)
  have W1E : ∃ W1, ((w.alloc (.cells #[.slice A0 l0.length c0, .slice A1 l1.length c1, .slice A2 l2.length c2, .slice A3 l3.length c3, .slice A4 r4.length c4, .slice A5 r5.length c5] 27)).alloc (.cells #[.slice A0 l0.length c0, .slice A1 l1.length c1, .slice A2 l2.length c2, .slice A3 l3.length c3] 22)) = W1 := ⟨_, rfl⟩
  go_enter Try.func14, Try.ntmps14
  go_wp2_with fail
  obtain ⟨W1, hW1⟩ := W1E
  rw [hW1] at B1 s1 XB XA ⊢
  clear hW1
  have hx0 : w.heap.size < W1.heap.size := by omega
  have hx1 : w.heap.size + 1 < W1.heap.size := by omega
  have HXA := Lib.hid XA
  have HXB := Lib.hid XB
  clear XA XB
  go_loopw [4] (fun u wr => ∃ k : Nat, k ≤ 4 ∧ u = .int .i64 k ∧ (1 ≤ k → e0 = 0) ∧ (2 ≤ k → e1 = 0) ∧ (3 ≤ k → e2 = 0) ∧ (4 ≤ k → e3 = 0) ∧ Below W1.heap.size W1 wr) (fun u _ => 4 - (intOf u).toNat)
  case atStart => exact ⟨0, by omega, rfl, fun h => by omega, fun h => by omega, fun h => by omega, fun h => by omega, Below.refl _ _⟩
  case round =>
    obtain ⟨k, hk, rfl, q0, q1, q2, q3, hbr⟩ := hrel
    have Q0 := Lib.hid q0; have Q1 := Lib.hid q1; have Q2 := Lib.hid q2; have Q3 := Lib.hid q3
    clear q0 q1 q2 q3
    have hbw := B1.trans (hbr.mono B1.size)
    have X5 := HXA.out.below hbr hx1
    have y0 := X5.cell (i := 0) rfl
    have y1 := X5.cell (i := 1) rfl
    have y2 := X5.cell (i := 2) rfl
    have y3 := X5.cell (i := 3) rfl
    clear X5
    obtain rfl | rfl | rfl | rfl | rfl : k = 0 ∨ k = 1 ∨ k = 2 ∨ k = 3 ∨ k = 4 := by omega
    · have CC := Lib.hid (MC0.out wr hbw)
      have KE := Lib.hid (fun hh => K0.out  hh)
      go_wp2_with fail
      with_reducible refine CC.out.mono ?_
      rintro e W2 ⟨rfl, hb2⟩
      have hb3 := hbr.trans (hb2.mono hbr.size)
      by_cases he : e0 = 0
      · have q : (e0 != 0) = false := by simpa using he
        have HE := Lib.hid he
        clear he KE
        go_wp2_with fail
        go_roundw
        case rel => exact ⟨1, by omega, rfl, fun _ => HE.out, fun h => by omega, fun h => by omega, fun h => by omega, hb3⟩
        case measure => simp [intOf]
      · have q : (e0 != 0) = true := by simpa using he
        obtain rfl := KE.out he
        clear he KE
        go_wp2_with fail
        go_ret
        exact ⟨rfl, B1.trans (hb3.mono B1.size)⟩
    · have CC := Lib.hid (MC1.out wr hbw)
      have KE := Lib.hid (fun hh => K1.out (Q0.out (by omega)) hh)
      go_wp2_with fail
      with_reducible refine CC.out.mono ?_
      rintro e W2 ⟨rfl, hb2⟩
      have hb3 := hbr.trans (hb2.mono hbr.size)
      by_cases he : e1 = 0
      · have q : (e1 != 0) = false := by simpa using he
        have HE := Lib.hid he
        clear he KE
        go_wp2_with fail
        go_roundw
        case rel => exact ⟨2, by omega, rfl, fun _ => Q0.out (by omega), fun _ => HE.out, fun h => by omega, fun h => by omega, hb3⟩
        case measure => simp [intOf]
      · have q : (e1 != 0) = true := by simpa using he
        obtain rfl := KE.out he
        clear he KE
        go_wp2_with fail
        go_ret
        exact ⟨rfl, B1.trans (hb3.mono B1.size)⟩
    · have CC := Lib.hid (MC2.out wr hbw)
      have KE := Lib.hid (fun hh => K2.out (Q0.out (by omega)) (Q1.out (by omega)) hh)
      go_wp2_with fail
      with_reducible refine CC.out.mono ?_
      rintro e W2 ⟨rfl, hb2⟩
      have hb3 := hbr.trans (hb2.mono hbr.size)
      by_cases he : e2 = 0
      · have q : (e2 != 0) = false := by simpa using he
        have HE := Lib.hid he
        clear he KE
        go_wp2_with fail
        go_roundw
        case rel => exact ⟨3, by omega, rfl, fun _ => Q0.out (by omega), fun _ => Q1.out (by omega), fun _ => HE.out, fun h => by omega, hb3⟩
        case measure => simp [intOf]
      · have q : (e2 != 0) = true := by simpa using he
        obtain rfl := KE.out he
        clear he KE
        go_wp2_with fail
        go_ret
        exact ⟨rfl, B1.trans (hb3.mono B1.size)⟩
    · have CC := Lib.hid (MC3.out wr hbw)
      have KE := Lib.hid (fun hh => K3.out (Q0.out (by omega)) (Q1.out (by omega)) (Q2.out (by omega)) hh)
      go_wp2_with fail
      with_reducible refine CC.out.mono ?_
      rintro e W2 ⟨rfl, hb2⟩
      have hb3 := hbr.trans (hb2.mono hbr.size)
      by_cases he : e3 = 0
      · have q : (e3 != 0) = false := by simpa using he
        have HE := Lib.hid he
        clear he KE
        go_wp2_with fail
        go_roundw
        case rel => exact ⟨4, by omega, rfl, fun _ => Q0.out (by omega), fun _ => Q1.out (by omega), fun _ => Q2.out (by omega), fun _ => HE.out, hb3⟩
        case measure => simp [intOf]
      · have q : (e3 != 0) = true := by simpa using he
        obtain rfl := KE.out he
        clear he KE
        go_wp2_with fail
        go_ret
        exact ⟨rfl, B1.trans (hb3.mono B1.size)⟩
    · have h0 := Q0.out (by omega); have h1 := Q1.out (by omega); have h2 := Q2.out (by omega); have h3 := Q3.out (by omega)
      have K6' := Lib.hid (K6.out h0 h1 h2 h3)
      have K11' := Lib.hid (K11.out h0 h1 h2 h3)
      have KOK' := Lib.hid (KOK.out h0 h1 h2 h3)
      clear h0 h1 h2 h3 K0 K1 K2 K3 K6 K11 KOK Q0 Q1 Q2 Q3 MC0 MC1 MC2 MC3 y0 y1 y2 y3
      have XC := HXB.out.below hbr hx0
      have x0 := XC.cell (i := 0) rfl
      have x1 := XC.cell (i := 1) rfl
      have x2 := XC.cell (i := 2) rfl
      have x3 := XC.cell (i := 3) rfl
      have x4 := XC.cell (i := 4) rfl
      have D0 := Lib.hid (TC0.out wr hbw)
      have d1 := TC1.out wr hbw
      rw [show (ByteArray.empty : ByteArray) = ⟨#[]⟩ from rfl] at d1
      have D1 := Lib.hid d1
      clear d1
      have d2 := TC2.out wr hbw
      rw [show (ByteArray.empty : ByteArray) = ⟨#[]⟩ from rfl] at d2
      have D2 := Lib.hid d2
      clear d2
      have d3 := TC3.out wr hbw
      rw [show (ByteArray.empty : ByteArray) = ⟨#[]⟩ from rfl] at d3
      have D3 := Lib.hid d3
      clear d3
      clear XC TC0 TC1 TC2 TC3
      go_wp2_with fail
      with_reducible refine D0.out.mono ?_
      rintro e w' ⟨rfl, rfl⟩
      cases t0 with
      | true =>
        obtain rfl := K6'.out (.inl rfl)
        clear K6' K11' KOK'
        go_wp2_with fail
        go_ret
        exact ⟨rfl, hbw⟩
      | false =>
        go_wp2_with fail
        with_reducible refine D1.out.mono ?_
        rintro e w' ⟨rfl, rfl⟩
        cases t1 with
        | true =>
          obtain rfl := K6'.out (.inr (.inl rfl))
          clear K6' K11' KOK'
          go_wp2_with fail
          go_ret
          exact ⟨rfl, hbw⟩
        | false =>
          go_wp2_with fail
          with_reducible refine D2.out.mono ?_
          rintro e w' ⟨rfl, rfl⟩
          cases t2 with
          | true =>
            obtain rfl := K6'.out (.inr (.inr (.inl rfl)))
            clear K6' K11' KOK'
            go_wp2_with fail
            go_ret
            exact ⟨rfl, hbw⟩
          | false =>
            go_wp2_with fail
            with_reducible refine D3.out.mono ?_
            rintro e w' ⟨rfl, rfl⟩
            cases t3 with
            | true =>
              obtain rfl := K6'.out (.inr (.inr (.inr (rfl))))
              clear K6' K11' KOK'
              go_wp2_with fail
              go_ret
              exact ⟨rfl, hbw⟩
            | false =>
              have K11'' := Lib.hid (K11'.out (by simp))
              have KOK'' := Lib.hid (KOK'.out (by simp))
              have V4 := Lib.hid (VC4.out wr hbw)
              clear K6' K11' KOK' D0 D1 D2 D3
              go_wp2_with fail
              with_reducible refine V4.out.mono ?_
              rintro e W7 ⟨rfl, hb7⟩
              have hb8 := hbr.trans (hb7.mono hbr.size)
              have f5 := (HXB.out.below hb8 hx0).cell (i := 5) rfl
              clear V4 x0 x1 x2 x3 x4
              cases s4 with
              | false =>
                obtain rfl := K11''.out (.inl rfl)
                clear K11'' KOK''
                go_wp2_with fail
                go_ret
                exact ⟨rfl, B1.trans (hb8.mono B1.size)⟩
              | true =>
                have V5 := Lib.hid (VC5.out W7 (B1.trans (hb8.mono B1.size)))
                go_wp2_with fail
                with_reducible refine V5.out.mono ?_
                rintro e W8 ⟨rfl, hb9⟩
                have hb10 := hb8.trans (hb9.mono hb8.size)
                clear V5 f5
                cases s5 with
                | false =>
                  obtain rfl := K11''.out (.inr rfl)
                  clear K11'' KOK''
                  go_wp2_with fail
                  go_ret
                  exact ⟨rfl, B1.trans (hb10.mono B1.size)⟩
                | true =>
                  obtain rfl := KOK''.out (by simp)
                  clear K11'' KOK''
                  go_wp2_with fail
                  go_ret
                  exact ⟨rfl, B1.trans (hb10.mono B1.size)⟩

end Go.Proofs.Ytpamkbbmbeeheaa
