/- The contract of casemap.Check. Written by gen_caseck.py. -/
import Derived.Test.YtpamkbbmbeeheaaCase
namespace Go.Proofs.Ytpamkbbmbeeheaa
open Go.RowKit Go.Maps Go.WideMaps

section
variable {C : Cse}
theorem cerr0 (h : mapErr C.lower ≠ 0) : caseErr C = mapErr C.lower := by unfold caseErr; rw [if_pos h]
theorem cerr1 (h0 : mapErr C.lower = 0) (h : mapErr C.upper ≠ 0) : caseErr C = mapErr C.upper := by unfold caseErr; rw [if_neg (by simpa using h0), if_pos h]
theorem cerr2 (h0 : mapErr C.lower = 0) (h1 : mapErr C.upper = 0) (h : mapErr C.title ≠ 0) : caseErr C = mapErr C.title := by unfold caseErr; rw [if_neg (by simpa using h0), if_neg (by simpa using h1), if_pos h]
theorem cerr3 (h0 : mapErr C.lower = 0) (h1 : mapErr C.upper = 0) (h2 : mapErr C.title = 0) (h : mapErr C.fold ≠ 0) : caseErr C = mapErr C.fold := by unfold caseErr; rw [if_neg (by simpa using h0), if_neg (by simpa using h1), if_neg (by simpa using h2), if_pos h]
theorem cerr6 (h0 : mapErr C.lower = 0) (h1 : mapErr C.upper = 0) (h2 : mapErr C.title = 0) (h3 : mapErr C.fold = 0) (h : taggedL C.lower finalS = true ∨ taggedL C.upper .empty = true ∨ taggedL C.title .empty = true ∨ taggedL C.fold .empty = true) : caseErr C = 6 := by
  unfold caseErr; rw [if_neg (by simpa using h0), if_neg (by simpa using h1), if_neg (by simpa using h2), if_neg (by simpa using h3), if_pos h]
theorem cerr11 (h0 : mapErr C.lower = 0) (h1 : mapErr C.upper = 0) (h2 : mapErr C.title = 0) (h3 : mapErr C.fold = 0) (h : ¬ (taggedL C.lower finalS = true ∨ taggedL C.upper .empty = true ∨ taggedL C.title .empty = true ∨ taggedL C.fold .empty = true)) (h4 : setOk C.cased = false ∨ setOk C.ign = false) : caseErr C = 11 := by
  unfold caseErr; rw [if_neg (by simpa using h0), if_neg (by simpa using h1), if_neg (by simpa using h2), if_neg (by simpa using h3), if_neg h, if_pos h4]
theorem cerrOK (h0 : mapErr C.lower = 0) (h1 : mapErr C.upper = 0) (h2 : mapErr C.title = 0) (h3 : mapErr C.fold = 0) (h : ¬ (taggedL C.lower finalS = true ∨ taggedL C.upper .empty = true ∨ taggedL C.title .empty = true ∨ taggedL C.fold .empty = true)) (h4 : ¬ (setOk C.cased = false ∨ setOk C.ign = false)) : caseErr C = 0 := by
  unfold caseErr; rw [if_neg (by simpa using h0), if_neg (by simpa using h1), if_neg (by simpa using h2), if_neg (by simpa using h3), if_neg h, if_neg h4]
end
theorem tagged_yes {ms : List Mp} {tag : ByteArray} {k : Nat} (hk : k < ms.length) (h : tagN tag ms[k] = true) : taggedL ms tag = true := anyT hk h
theorem tagged_no {ms : List Mp} {tag : ByteArray} (h : ∀ t, (ht : t < ms.length) → tagN tag ms[t] = false) : taggedL ms tag = false := anyF h

set_option maxRecDepth 100000 in
set_option maxHeartbeats 12800000 in
theorem caseCheck_any (v0 v1 v2 v3 v4 v5 : Value) (C : Cse) (w : World) (h : CaseAt w v0 v1 v2 v3 v4 v5 C) (hz : CaseSz C) :
    Calls Try.prog 13 #[.agg #[v0, v1, v2, v3, v4, v5]] w (RetInt (caseErr C) w) := by
  have K0 := Lib.hid (cerr0 (C := C)); have K1 := Lib.hid (cerr1 (C := C)); have K2 := Lib.hid (cerr2 (C := C)); have K3 := Lib.hid (cerr3 (C := C))
  have K6 := Lib.hid (cerr6 (C := C)); have K11 := Lib.hid (cerr11 (C := C)); have KOK := Lib.hid (cerrOK (C := C))
  generalize caseErr C = R at *
  obtain ⟨l0, l1, l2, l3, r4, r5⟩ := C
  obtain ⟨⟨A0, c0, rfl, g0, m0⟩, ⟨A1, c1, rfl, g1, m1⟩, ⟨A2, c2, rfl, g2, m2⟩, ⟨A3, c3, rfl, g3, m3⟩, ⟨A4, c4, rfl, g4, m4⟩, ⟨A5, c5, rfl, g5, m5⟩⟩ := h
  obtain ⟨z0, z1, z2, z3, z4, z5⟩ := hz
  dsimp only at *
  have MC0 := Lib.hid (fun W (hb : Below w.heap.size w W) => mapCheck_any A0 l0.length c0 l0 W (m0.below hb) rfl z0)
  have HM0 := Lib.hid (fun W (hb : Below w.heap.size w W) => m0.below hb)
  have hn0 := z0.n
  have TY0 := Lib.hid (fun k hk hh => tagged_yes (ms := l0) (tag := finalS) (k := k) hk hh)
  have TN0 := Lib.hid (tagged_no (ms := l0) (tag := finalS))
  have MC1 := Lib.hid (fun W (hb : Below w.heap.size w W) => mapCheck_any A1 l1.length c1 l1 W (m1.below hb) rfl z1)
  have HM1 := Lib.hid (fun W (hb : Below w.heap.size w W) => m1.below hb)
  have hn1 := z1.n
  have TY1 := Lib.hid (fun k hk hh => tagged_yes (ms := l1) (tag := .empty) (k := k) hk hh)
  have TN1 := Lib.hid (tagged_no (ms := l1) (tag := .empty))
  have MC2 := Lib.hid (fun W (hb : Below w.heap.size w W) => mapCheck_any A2 l2.length c2 l2 W (m2.below hb) rfl z2)
  have HM2 := Lib.hid (fun W (hb : Below w.heap.size w W) => m2.below hb)
  have hn2 := z2.n
  have TY2 := Lib.hid (fun k hk hh => tagged_yes (ms := l2) (tag := .empty) (k := k) hk hh)
  have TN2 := Lib.hid (tagged_no (ms := l2) (tag := .empty))
  have MC3 := Lib.hid (fun W (hb : Below w.heap.size w W) => mapCheck_any A3 l3.length c3 l3 W (m3.below hb) rfl z3)
  have HM3 := Lib.hid (fun W (hb : Below w.heap.size w W) => m3.below hb)
  have hn3 := z3.n
  have TY3 := Lib.hid (fun k hk hh => tagged_yes (ms := l3) (tag := .empty) (k := k) hk hh)
  have TN3 := Lib.hid (tagged_no (ms := l3) (tag := .empty))
  have VC4 := Lib.hid (fun W (hb : Below w.heap.size w W) => cpValidS_any A4 r4.length c4 r4 W (m4.below hb) rfl z4)
  have VC5 := Lib.hid (fun W (hb : Below w.heap.size w W) => cpValidS_any A5 r5.length c5 r5 W (m5.below hb) rfl z5)
  clear m0 m1 m2 m3 m4 m5 z0 z1 z2 z3
  generalize mapErr l0 = e0 at *
  generalize taggedL l0 finalS = t0 at *
  generalize mapErr l1 = e1 at *
  generalize taggedL l1 .empty = t1 at *
  generalize mapErr l2 = e2 at *
  generalize taggedL l2 .empty = t2 at *
  generalize mapErr l3 = e3 at *
  generalize taggedL l3 .empty = t3 at *
  generalize setOk r4 = s4 at *
  generalize setOk r5 = s5 at *
  have B1 : Below w.heap.size w ((w.alloc (.cells #[.slice A0 l0.length c0, .slice A1 l1.length c1, .slice A2 l2.length c2, .slice A3 l3.length c3, .slice A4 r4.length c4, .slice A5 r5.length c5] 27)).alloc (.cells #[.slice A0 l0.length c0, .slice A1 l1.length c1, .slice A2 l2.length c2, .slice A3 l3.length c3] 51)) := ((Below.refl _ _).alloc (Nat.le_refl _) _).alloc (by simp) _
  have s1 : ((w.alloc (.cells #[.slice A0 l0.length c0, .slice A1 l1.length c1, .slice A2 l2.length c2, .slice A3 l3.length c3, .slice A4 r4.length c4, .slice A5 r5.length c5] 27)).alloc (.cells #[.slice A0 l0.length c0, .slice A1 l1.length c1, .slice A2 l2.length c2, .slice A3 l3.length c3] 51)).heap.size = w.heap.size + 2 := by simp
  have k4 : ((w.alloc (.cells #[.slice A0 l0.length c0, .slice A1 l1.length c1, .slice A2 l2.length c2, .slice A3 l3.length c3, .slice A4 r4.length c4, .slice A5 r5.length c5] 27)).alloc (.cells #[.slice A0 l0.length c0, .slice A1 l1.length c1, .slice A2 l2.length c2, .slice A3 l3.length c3] 51)).cell? ⟨w.heap.size, 4, none⟩ = some (.slice A4 r4.length c4) := by go_simp
  have k5 : ((w.alloc (.cells #[.slice A0 l0.length c0, .slice A1 l1.length c1, .slice A2 l2.length c2, .slice A3 l3.length c3, .slice A4 r4.length c4, .slice A5 r5.length c5] 27)).alloc (.cells #[.slice A0 l0.length c0, .slice A1 l1.length c1, .slice A2 l2.length c2, .slice A3 l3.length c3] 51)).cell? ⟨w.heap.size, 5, none⟩ = some (.slice A5 r5.length c5) := by go_simp
  have XA : Box ((w.alloc (.cells #[.slice A0 l0.length c0, .slice A1 l1.length c1, .slice A2 l2.length c2, .slice A3 l3.length c3, .slice A4 r4.length c4, .slice A5 r5.length c5] 27)).alloc (.cells #[.slice A0 l0.length c0, .slice A1 l1.length c1, .slice A2 l2.length c2, .slice A3 l3.length c3] 51)) (w.heap.size + 1) 51 [.slice A0 l0.length c0, .slice A1 l1.length c1, .slice A2 l2.length c2, .slice A3 l3.length c3] := Box.new _ _ _ (by simp)
  have W1E : ∃ W1, ((w.alloc (.cells #[.slice A0 l0.length c0, .slice A1 l1.length c1, .slice A2 l2.length c2, .slice A3 l3.length c3, .slice A4 r4.length c4, .slice A5 r5.length c5] 27)).alloc (.cells #[.slice A0 l0.length c0, .slice A1 l1.length c1, .slice A2 l2.length c2, .slice A3 l3.length c3] 51)) = W1 := ⟨_, rfl⟩
  have ix0 := fun W => (idx4 (.slice A0 l0.length c0) (.slice A1 l1.length c1) (.slice A2 l2.length c2) (.slice A3 l3.length c3) W).1
  have ix1 := fun W => (idx4 (.slice A0 l0.length c0) (.slice A1 l1.length c1) (.slice A2 l2.length c2) (.slice A3 l3.length c3) W).2.1
  have ix2 := fun W => (idx4 (.slice A0 l0.length c0) (.slice A1 l1.length c1) (.slice A2 l2.length c2) (.slice A3 l3.length c3) W).2.2.1
  have ix3 := fun W => (idx4 (.slice A0 l0.length c0) (.slice A1 l1.length c1) (.slice A2 l2.length c2) (.slice A3 l3.length c3) W).2.2.2
  go_enter Try.func13, Try.ntmps13
  go_wp2_with fail
  obtain ⟨W1, hW1⟩ := W1E
  rw [hW1] at B1 s1 k4 k5 XA ⊢
  clear hW1
  have hx0 : w.heap.size < W1.heap.size := by omega
  have hx1 : w.heap.size + 1 < W1.heap.size := by omega
  have HXA := Lib.hid XA
  have HK := Lib.hid (And.intro k4 k5)
  clear XA k4 k5
  go_loopw [21] (fun u wr => ∃ k : Nat, k ≤ 4 ∧ u = .int .i64 k ∧ (1 ≤ k → e0 = 0) ∧ (2 ≤ k → e1 = 0) ∧ (3 ≤ k → e2 = 0) ∧ (4 ≤ k → e3 = 0) ∧ Below W1.heap.size W1 wr) (fun u _ => 4 - (intOf u).toNat)
  case atStart => exact ⟨0, by omega, rfl, fun h => by omega, fun h => by omega, fun h => by omega, fun h => by omega, Below.refl _ _⟩
  case round =>
    obtain ⟨k, hk, rfl, q0, q1, q2, q3, hbr⟩ := hrel
    have Q0 := Lib.hid q0; have Q1 := Lib.hid q1; have Q2 := Lib.hid q2; have Q3 := Lib.hid q3
    clear q0 q1 q2 q3
    have hbw := B1.trans (hbr.mono B1.size)
    obtain rfl | rfl | rfl | rfl | rfl : k = 0 ∨ k = 1 ∨ k = 2 ∨ k = 3 ∨ k = 4 := by omega
    · have CC := Lib.hid (MC0.out wr hbw)
      have KE := Lib.hid (fun hh => K0.out  hh)
      go_wp2_with fail
      with_reducible refine CC.out.mono ?_
      rintro e W2 ⟨rfl, hb2⟩
      have hb3 := hbr.trans (hb2.mono hbr.size)
      by_cases he : e0 = 0
      · have q : (e0 != 0) = false := by simpa using he
        have HE := Lib.hid he
        clear he KE
        go_wp2_with fail
        go_roundw
        case rel => exact ⟨1, by omega, rfl, fun _ => HE.out, fun h => by omega, fun h => by omega, fun h => by omega, hb3⟩
        case measure => simp [intOf]
      · have q : (e0 != 0) = true := by simpa using he
        obtain rfl := KE.out he
        clear he KE
        go_wp2_with fail
        go_ret
        exact ⟨rfl, B1.trans (hb3.mono B1.size)⟩
    · have CC := Lib.hid (MC1.out wr hbw)
      have KE := Lib.hid (fun hh => K1.out (Q0.out (by omega)) hh)
      go_wp2_with fail
      with_reducible refine CC.out.mono ?_
      rintro e W2 ⟨rfl, hb2⟩
      have hb3 := hbr.trans (hb2.mono hbr.size)
      by_cases he : e1 = 0
      · have q : (e1 != 0) = false := by simpa using he
        have HE := Lib.hid he
        clear he KE
        go_wp2_with fail
        go_roundw
        case rel => exact ⟨2, by omega, rfl, fun _ => Q0.out (by omega), fun _ => HE.out, fun h => by omega, fun h => by omega, hb3⟩
        case measure => simp [intOf]
      · have q : (e1 != 0) = true := by simpa using he
        obtain rfl := KE.out he
        clear he KE
        go_wp2_with fail
        go_ret
        exact ⟨rfl, B1.trans (hb3.mono B1.size)⟩
    · have CC := Lib.hid (MC2.out wr hbw)
      have KE := Lib.hid (fun hh => K2.out (Q0.out (by omega)) (Q1.out (by omega)) hh)
      go_wp2_with fail
      with_reducible refine CC.out.mono ?_
      rintro e W2 ⟨rfl, hb2⟩
      have hb3 := hbr.trans (hb2.mono hbr.size)
      by_cases he : e2 = 0
      · have q : (e2 != 0) = false := by simpa using he
        have HE := Lib.hid he
        clear he KE
        go_wp2_with fail
        go_roundw
        case rel => exact ⟨3, by omega, rfl, fun _ => Q0.out (by omega), fun _ => Q1.out (by omega), fun _ => HE.out, fun h => by omega, hb3⟩
        case measure => simp [intOf]
      · have q : (e2 != 0) = true := by simpa using he
        obtain rfl := KE.out he
        clear he KE
        go_wp2_with fail
        go_ret
        exact ⟨rfl, B1.trans (hb3.mono B1.size)⟩
    · have CC := Lib.hid (MC3.out wr hbw)
      have KE := Lib.hid (fun hh => K3.out (Q0.out (by omega)) (Q1.out (by omega)) (Q2.out (by omega)) hh)
      go_wp2_with fail
      with_reducible refine CC.out.mono ?_
      rintro e W2 ⟨rfl, hb2⟩
      have hb3 := hbr.trans (hb2.mono hbr.size)
      by_cases he : e3 = 0
      · have q : (e3 != 0) = false := by simpa using he
        have HE := Lib.hid he
        clear he KE
        go_wp2_with fail
        go_roundw
        case rel => exact ⟨4, by omega, rfl, fun _ => Q0.out (by omega), fun _ => Q1.out (by omega), fun _ => Q2.out (by omega), fun _ => HE.out, hb3⟩
        case measure => simp [intOf]
      · have q : (e3 != 0) = true := by simpa using he
        obtain rfl := KE.out he
        clear he KE
        go_wp2_with fail
        go_ret
        exact ⟨rfl, B1.trans (hb3.mono B1.size)⟩
    · have h0 := Q0.out (by omega); have h1 := Q1.out (by omega); have h2 := Q2.out (by omega); have h3 := Q3.out (by omega)
      have K6' := Lib.hid (K6.out h0 h1 h2 h3)
      have K11' := Lib.hid (K11.out h0 h1 h2 h3)
      have KOK' := Lib.hid (KOK.out h0 h1 h2 h3)
      clear h0 h1 h2 h3 K0 K1 K2 K3 K6 K11 KOK Q0 Q1 Q2 Q3 MC0 MC1 MC2 MC3
      have X5 := HXA.out.below hbr hx1
      have y0 := X5.cell (i := 0) rfl
      have y1 := X5.cell (i := 1) rfl
      have y2 := X5.cell (i := 2) rfl
      have y3 := X5.cell (i := 3) rfl
      clear X5
      obtain ⟨W5, rfl⟩ : ∃ W5 : World, W5 = wr := ⟨_, rfl⟩
      go_wp2_with fail
      clear y0 y1 y2 y3
      go_loopw [31] (fun u wr => ∃ k : Nat, k ≤ 4 ∧ u = .int .i64 k ∧ (1 ≤ k → t0 = false) ∧ (2 ≤ k → t1 = false) ∧ (3 ≤ k → t2 = false) ∧ (4 ≤ k → t3 = false) ∧ Below W1.heap.size W1 wr) (fun u _ => 4 - (intOf u).toNat)
      case atStart => exact ⟨0, by omega, rfl, fun h => by omega, fun h => by omega, fun h => by omega, fun h => by omega, hbr⟩
      case round =>
        obtain ⟨k, hk, rfl, q0, q1, q2, q3, hbk⟩ := hrel
        have Q0 := Lib.hid q0; have Q1 := Lib.hid q1; have Q2 := Lib.hid q2; have Q3 := Lib.hid q3
        clear q0 q1 q2 q3
        obtain rfl | rfl | rfl | rfl | rfl : k = 0 ∨ k = 1 ∨ k = 2 ∨ k = 3 ∨ k = 4 := by omega
        · obtain ⟨wr0, rfl⟩ : ∃ wr0 : World, wr0 = wr := ⟨_, rfl⟩
          go_wp2_with fail
          go_loopw [37] (fun u wr => ∃ j : Nat, j ≤ l0.length ∧ u = .int .i64 j ∧ (∀ t, (ht : t < l0.length) → t < j → tagN finalS l0[t] = false) ∧ Below W1.heap.size W1 wr) (fun u _ => l0.length - (intOf u).toNat)
          case atStart => exact ⟨0, Nat.zero_le _, rfl, fun t _ h => by omega, hbk⟩
          case round =>
            obtain ⟨j, hj, rfl, hno, hbj⟩ := hrel
            have HNO := Lib.hid hno
            clear hno
            by_cases hlt : j < l0.length
            · obtain ⟨b1, o1, rfl, hbl, hcell⟩ := (HM0.out wr (B1.trans (hbj.mono B1.size))).at hlt
              obtain ⟨D, cc, d0, d1, d2, _, _⟩ := hcell j hlt
              have HY := Lib.hid (fun (hh : tagN finalS l0[j] = true) => K6'.out (.inl (TY0.out j hlt hh)))
              have HN := Lib.hid (fun hh => all_up (P := fun m : Mp => tagN finalS m = false) hlt HNO.out hh)
              clear hcell
              generalize l0[j] = mi at *
              have N0 := Lib.hid (tagN_0 (tag := finalS) (m := mi))
              have N1 := Lib.hid (tagN_same (tag := finalS) (m := mi))
              have N2 := Lib.hid (tagN_other (tag := finalS) (m := mi))
              generalize tagN finalS mi = tb at *
              obtain ⟨mf, mt, mg⟩ := mi
              dsimp only at *
              generalize mt.length = mtl at *
              have Bp : Below wr.heap.size wr (wr.alloc (.cells #[.int .i64 mf, .slice D mtl cc, .string mg] 38)) := (Below.refl _ _).alloc (Nat.le_refl _) _
              have hb6 := hbj.trans (Bp.mono hbj.size)
              clear Bp
              by_cases hg : mg.size = 0
              · have g0 : mg.toList = [] := str_nil hg
                have HQ := Lib.hid (HN.out (N0.out hg))
                clear N0 N1 N2 HY HN
                go_wp2_with fail
                go_roundw
                case rel => exact ⟨j + 1, by omega, by go_num, HQ.out, hb6⟩
                case measure => simp [intOf]; omega
              · have g0 : ¬ mg.toList = [] := str_cons hg
                have g1 : mg.toList.isEmpty = false := by simpa using g0
                by_cases he : mg = finalS
                · have HQ := Lib.hid (HN.out (N1.out he))
                  clear N0 N1 N2 HY HN hg g0 g1
                  subst he
                  unfold finalS at *
                  go_wp2_with fail
                  go_roundw
                  case rel => exact ⟨j + 1, by omega, by go_num, HQ.out, hb6⟩
                  case measure => simp [intOf]; omega
                · have p1 : (mg.toList == (⟨#[102, 105, 110, 97, 108]⟩ : ByteArray).toList) = false := str_eqF he
                  have p2 : (⟨#[102, 105, 110, 97, 108]⟩ : ByteArray).toList = [102, 105, 110, 97, 108] := by rw [ByteArray.toList_eq]
                  have p3 : (mg.toList == [102, 105, 110, 97, 108]) = false := by rw [← p2]; exact p1
                  have p4 : ¬ mg.toList = [102, 105, 110, 97, 108] := by simpa using p3
                  obtain rfl := HY.out (N2.out hg he)
                  clear N0 N1 N2 HY HN he p2
                  go_wp2_with fail
                  go_ret
                  exact ⟨rfl, B1.trans (hb6.mono B1.size)⟩
            · have HT := Lib.hid (TN0.out (fun t ht => HNO.out t ht (by omega)))
              clear HNO
              go_wp2_with fail
              go_roundw
              case rel => exact ⟨1, by omega, rfl, fun _ => HT.out, fun h => by omega, fun h => by omega, fun h => by omega, hbj⟩
              case measure => simp [intOf]
        · obtain ⟨wr0, rfl⟩ : ∃ wr0 : World, wr0 = wr := ⟨_, rfl⟩
          go_wp2_with fail
          go_loopw [37] (fun u wr => ∃ j : Nat, j ≤ l1.length ∧ u = .int .i64 j ∧ (∀ t, (ht : t < l1.length) → t < j → tagN .empty l1[t] = false) ∧ Below W1.heap.size W1 wr) (fun u _ => l1.length - (intOf u).toNat)
          case atStart => exact ⟨0, Nat.zero_le _, rfl, fun t _ h => by omega, hbk⟩
          case round =>
            obtain ⟨j, hj, rfl, hno, hbj⟩ := hrel
            have HNO := Lib.hid hno
            clear hno
            by_cases hlt : j < l1.length
            · obtain ⟨b1, o1, rfl, hbl, hcell⟩ := (HM1.out wr (B1.trans (hbj.mono B1.size))).at hlt
              obtain ⟨D, cc, d0, d1, d2, _, _⟩ := hcell j hlt
              have HY := Lib.hid (fun (hh : tagN .empty l1[j] = true) => K6'.out (.inr (.inl (TY1.out j hlt hh))))
              have HN := Lib.hid (fun hh => all_up (P := fun m : Mp => tagN .empty m = false) hlt HNO.out hh)
              clear hcell
              generalize l1[j] = mi at *
              have N0 := Lib.hid (tagN_0 (tag := .empty) (m := mi))
              have N1 := Lib.hid (tagN_same (tag := .empty) (m := mi))
              have N2 := Lib.hid (tagN_other (tag := .empty) (m := mi))
              generalize tagN .empty mi = tb at *
              obtain ⟨mf, mt, mg⟩ := mi
              dsimp only at *
              generalize mt.length = mtl at *
              have Bp : Below wr.heap.size wr (wr.alloc (.cells #[.int .i64 mf, .slice D mtl cc, .string mg] 38)) := (Below.refl _ _).alloc (Nat.le_refl _) _
              have hb6 := hbj.trans (Bp.mono hbj.size)
              clear Bp
              by_cases hg : mg.size = 0
              · have g0 : mg.toList = [] := str_nil hg
                have HQ := Lib.hid (HN.out (N0.out hg))
                clear N0 N1 N2 HY HN
                go_wp2_with fail
                go_roundw
                case rel => exact ⟨j + 1, by omega, by go_num, HQ.out, hb6⟩
                case measure => simp [intOf]; omega
              · have g0 : ¬ mg.toList = [] := str_cons hg
                have g1 : mg.toList.isEmpty = false := by simpa using g0
                obtain rfl := HY.out (N2.out hg (ne_empty hg))
                clear N0 N1 N2 HY HN
                go_wp2_with fail
                go_ret
                exact ⟨rfl, B1.trans (hb6.mono B1.size)⟩
            · have HT := Lib.hid (TN1.out (fun t ht => HNO.out t ht (by omega)))
              clear HNO
              go_wp2_with fail
              go_roundw
              case rel => exact ⟨2, by omega, rfl, fun _ => Q0.out (by omega), fun _ => HT.out, fun h => by omega, fun h => by omega, hbj⟩
              case measure => simp [intOf]
        · obtain ⟨wr0, rfl⟩ : ∃ wr0 : World, wr0 = wr := ⟨_, rfl⟩
          go_wp2_with fail
          go_loopw [37] (fun u wr => ∃ j : Nat, j ≤ l2.length ∧ u = .int .i64 j ∧ (∀ t, (ht : t < l2.length) → t < j → tagN .empty l2[t] = false) ∧ Below W1.heap.size W1 wr) (fun u _ => l2.length - (intOf u).toNat)
          case atStart => exact ⟨0, Nat.zero_le _, rfl, fun t _ h => by omega, hbk⟩
          case round =>
            obtain ⟨j, hj, rfl, hno, hbj⟩ := hrel
            have HNO := Lib.hid hno
            clear hno
            by_cases hlt : j < l2.length
            · obtain ⟨b1, o1, rfl, hbl, hcell⟩ := (HM2.out wr (B1.trans (hbj.mono B1.size))).at hlt
              obtain ⟨D, cc, d0, d1, d2, _, _⟩ := hcell j hlt
              have HY := Lib.hid (fun (hh : tagN .empty l2[j] = true) => K6'.out (.inr (.inr (.inl (TY2.out j hlt hh)))))
              have HN := Lib.hid (fun hh => all_up (P := fun m : Mp => tagN .empty m = false) hlt HNO.out hh)
              clear hcell
              generalize l2[j] = mi at *
              have N0 := Lib.hid (tagN_0 (tag := .empty) (m := mi))
              have N1 := Lib.hid (tagN_same (tag := .empty) (m := mi))
              have N2 := Lib.hid (tagN_other (tag := .empty) (m := mi))
              generalize tagN .empty mi = tb at *
              obtain ⟨mf, mt, mg⟩ := mi
              dsimp only at *
              generalize mt.length = mtl at *
              have Bp : Below wr.heap.size wr (wr.alloc (.cells #[.int .i64 mf, .slice D mtl cc, .string mg] 38)) := (Below.refl _ _).alloc (Nat.le_refl _) _
              have hb6 := hbj.trans (Bp.mono hbj.size)
              clear Bp
              by_cases hg : mg.size = 0
              · have g0 : mg.toList = [] := str_nil hg
                have HQ := Lib.hid (HN.out (N0.out hg))
                clear N0 N1 N2 HY HN
                go_wp2_with fail
                go_roundw
                case rel => exact ⟨j + 1, by omega, by go_num, HQ.out, hb6⟩
                case measure => simp [intOf]; omega
              · have g0 : ¬ mg.toList = [] := str_cons hg
                have g1 : mg.toList.isEmpty = false := by simpa using g0
                obtain rfl := HY.out (N2.out hg (ne_empty hg))
                clear N0 N1 N2 HY HN
                go_wp2_with fail
                go_ret
                exact ⟨rfl, B1.trans (hb6.mono B1.size)⟩
            · have HT := Lib.hid (TN2.out (fun t ht => HNO.out t ht (by omega)))
              clear HNO
              go_wp2_with fail
              go_roundw
              case rel => exact ⟨3, by omega, rfl, fun _ => Q0.out (by omega), fun _ => Q1.out (by omega), fun _ => HT.out, fun h => by omega, hbj⟩
              case measure => simp [intOf]
        · obtain ⟨wr0, rfl⟩ : ∃ wr0 : World, wr0 = wr := ⟨_, rfl⟩
          go_wp2_with fail
          go_loopw [37] (fun u wr => ∃ j : Nat, j ≤ l3.length ∧ u = .int .i64 j ∧ (∀ t, (ht : t < l3.length) → t < j → tagN .empty l3[t] = false) ∧ Below W1.heap.size W1 wr) (fun u _ => l3.length - (intOf u).toNat)
          case atStart => exact ⟨0, Nat.zero_le _, rfl, fun t _ h => by omega, hbk⟩
          case round =>
            obtain ⟨j, hj, rfl, hno, hbj⟩ := hrel
            have HNO := Lib.hid hno
            clear hno
            by_cases hlt : j < l3.length
            · obtain ⟨b1, o1, rfl, hbl, hcell⟩ := (HM3.out wr (B1.trans (hbj.mono B1.size))).at hlt
              obtain ⟨D, cc, d0, d1, d2, _, _⟩ := hcell j hlt
              have HY := Lib.hid (fun (hh : tagN .empty l3[j] = true) => K6'.out (.inr (.inr (.inr (TY3.out j hlt hh)))))
              have HN := Lib.hid (fun hh => all_up (P := fun m : Mp => tagN .empty m = false) hlt HNO.out hh)
              clear hcell
              generalize l3[j] = mi at *
              have N0 := Lib.hid (tagN_0 (tag := .empty) (m := mi))
              have N1 := Lib.hid (tagN_same (tag := .empty) (m := mi))
              have N2 := Lib.hid (tagN_other (tag := .empty) (m := mi))
              generalize tagN .empty mi = tb at *
              obtain ⟨mf, mt, mg⟩ := mi
              dsimp only at *
              generalize mt.length = mtl at *
              have Bp : Below wr.heap.size wr (wr.alloc (.cells #[.int .i64 mf, .slice D mtl cc, .string mg] 38)) := (Below.refl _ _).alloc (Nat.le_refl _) _
              have hb6 := hbj.trans (Bp.mono hbj.size)
              clear Bp
              by_cases hg : mg.size = 0
              · have g0 : mg.toList = [] := str_nil hg
                have HQ := Lib.hid (HN.out (N0.out hg))
                clear N0 N1 N2 HY HN
                go_wp2_with fail
                go_roundw
                case rel => exact ⟨j + 1, by omega, by go_num, HQ.out, hb6⟩
                case measure => simp [intOf]; omega
              · have g0 : ¬ mg.toList = [] := str_cons hg
                have g1 : mg.toList.isEmpty = false := by simpa using g0
                obtain rfl := HY.out (N2.out hg (ne_empty hg))
                clear N0 N1 N2 HY HN
                go_wp2_with fail
                go_ret
                exact ⟨rfl, B1.trans (hb6.mono B1.size)⟩
            · have HT := Lib.hid (TN3.out (fun t ht => HNO.out t ht (by omega)))
              clear HNO
              go_wp2_with fail
              go_roundw
              case rel => exact ⟨4, by omega, rfl, fun _ => Q0.out (by omega), fun _ => Q1.out (by omega), fun _ => Q2.out (by omega), fun _ => HT.out, hbj⟩
              case measure => simp [intOf]
        · have h0 := Q0.out (by omega); have h1 := Q1.out (by omega); have h2 := Q2.out (by omega); have h3 := Q3.out (by omega)
          have K11'' := Lib.hid (K11'.out (by rw [h0, h1, h2, h3]; simp))
          have KOK'' := Lib.hid (KOK'.out (by rw [h0, h1, h2, h3]; simp))
          clear h0 h1 h2 h3 K6' K11' KOK' Q0 Q1 Q2 Q3
          have f4 := (hbk.cell (p := ⟨w.heap.size, 4, none⟩) hx0).trans HK.out.1
          have hxk : w.heap.size < wr.heap.size := by have := hbk.size; omega
          have V4 := Lib.hid (VC4.out wr (B1.trans (hbk.mono B1.size)))
          go_wp2_with fail
          with_reducible refine V4.out.mono ?_
          rintro e W7 ⟨rfl, hb7⟩
          have hb8 := hbk.trans (hb7.mono hbk.size)
          have f5 := (hb8.cell (p := ⟨w.heap.size, 5, none⟩) hx0).trans HK.out.2
          have hxl : w.heap.size < W7.heap.size := by have := hb8.size; omega
          clear V4 f4
          cases s4 with
          | false =>
            obtain rfl := K11''.out (.inl rfl)
            clear K11'' KOK''
            go_wp2_with fail
            go_ret
            exact ⟨rfl, B1.trans (hb8.mono B1.size)⟩
          | true =>
            have V5 := Lib.hid (VC5.out W7 (B1.trans (hb8.mono B1.size)))
            go_wp2_with fail
            with_reducible refine V5.out.mono ?_
            rintro e W8 ⟨rfl, hb9⟩
            have hb10 := hb8.trans (hb9.mono hb8.size)
            clear V5 f5
            cases s5 with
            | false =>
              obtain rfl := K11''.out (.inr rfl)
              clear K11'' KOK''
              go_wp2_with fail
              go_ret
              exact ⟨rfl, B1.trans (hb10.mono B1.size)⟩
            | true =>
              obtain rfl := KOK''.out (by simp)
              clear K11'' KOK''
              go_wp2_with fail
              go_ret
              exact ⟨rfl, B1.trans (hb10.mono B1.size)⟩

end Go.Proofs.Ytpamkbbmbeeheaa
