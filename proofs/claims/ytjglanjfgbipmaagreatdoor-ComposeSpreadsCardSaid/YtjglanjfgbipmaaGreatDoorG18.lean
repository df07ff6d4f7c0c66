/- Texts that are merged into one file: SetF, DCheck, RefDec, RefDecB. -/
import Derived.Test.YtjglanjfgbipmaaGreatDoorG07
import Derived.Test.YtjglanjfgbipmaaGreatDoorG08
import Derived.Test.YtjglanjfgbipmaaGreatDoorG10
import Derived.Test.YtjglanjfgbipmaaGreatDoorG14
import Derived.Test.YtjglanjfgbipmaaGreatDoorG17
import Derived.BigQuiet
/- Contracts of cpset.Valid and mapping.Get. Written by gen_setf.py. -/
namespace Go.Proofs.YtjglanjfgbipmaaGreatDoor
open Go.RowKit Go.Maps Go.WideMaps

set_option maxRecDepth 100000 in
set_option maxHeartbeats 3200000 in
theorem cpValidS_any (A : Option Addr) (n a : Nat) (ys : List Rg) (w : World) (hA : Rgs w A ys) (hn : ys.length = n) (hz : n ≤ 12) :
    Calls Tryz.prog 74 #[.agg #[.slice A n a]] w (RetBool (setOk ys) w) := by
  subst hn
  have B0 : Below w.heap.size w (w.alloc (.cells #[.slice A ys.length a] 26)) := (Below.refl _ _).alloc (Nat.le_refl _) _
  have k0 : (w.alloc (.cells #[.slice A ys.length a] 26)).cell? ⟨w.heap.size, 0, none⟩ = some (.slice A ys.length a) := by simp
  have s0 : (w.alloc (.cells #[.slice A ys.length a] 26)).heap.size = w.heap.size + 1 := by simp
  have W0E : ∃ W0, (w.alloc (.cells #[.slice A ys.length a] 26)) = W0 := ⟨_, rfl⟩
  have MC := Lib.hid (fun W (hb : Below w.heap.size w W) => cpMake_any A ys.length a ys W (hA.below hb) rfl hz)
  have hcl := canR_len ys
  have S0 := Lib.hid (show setOk ys = decide (canR ys = ys) from rfl)
  generalize canR ys = xs at *
  have S1 := Lib.hid (sameR_len (xs := xs) (ys := ys))
  have S2 := Lib.hid (fun k h1 h2 h => sameR_ne (xs := xs) (ys := ys) (k := k) h1 h2 h)
  have S3 := Lib.hid (sameR_eq (xs := xs) (ys := ys))
  generalize decide (xs = ys) = R at *
  generalize setOk ys = R' at *
  obtain rfl := S0.out
  have HA := Lib.hid (fun W (hb : Below w.heap.size w W) => hA.below hb)
  clear hA
  go_enter Tryz.func74, Tryz.ntmps74
  go_wp2_with fail
  obtain ⟨W0, hW0⟩ := W0E
  rw [hW0] at B0 k0 s0 ⊢
  clear hW0
  have hx0 : w.heap.size < W0.heap.size := by omega
  with_reducible refine (MC.out W0 B0).mono ?_
  rintro e W1 ⟨E, d, rfl, hd, hE, hb1⟩
  have HE := Lib.hid hE
  have f0 := (hb1.cell (p := ⟨w.heap.size, 0, none⟩) hx0).trans k0
  have hx1 : w.heap.size < W1.heap.size := by have := hb1.size; omega
  have hxn : ¬ w.heap.size = W1.heap.size := by omega
  have Bm : Below W1.heap.size W1 (W1.alloc (.cells #[.slice E xs.length d] 26)) := (Below.refl _ _).alloc (Nat.le_refl _) _
  have m0 : (W1.alloc (.cells #[.slice E xs.length d] 26)).cell? ⟨W1.heap.size, 0, none⟩ = some (.slice E xs.length d) := by simp
  have g0 := (Bm.cell (p := ⟨w.heap.size, 0, none⟩) hx1).trans f0
  have sm : (W1.alloc (.cells #[.slice E xs.length d] 26)).heap.size = W1.heap.size + 1 := by simp
  have hb2 := B0.trans (hb1.mono B0.size)
  have hb3 := hb2.trans (Bm.mono hb2.size)
  have HE2 := Lib.hid (HE.out.below Bm)
  have W2E : ∃ W2, W1.alloc (.cells #[.slice E xs.length d] 26) = W2 := ⟨_, rfl⟩
  clear MC hE HE k0
  by_cases hl : xs.length = ys.length
  rotate_left
  · obtain rfl := S1.out hl
    have q1 : ((xs.length : Int) != (ys.length : Int)) = true := by simp; omega
    go_wp2_with fail
    go_ret
    exact ⟨rfl, hb3⟩
  have q1 : ((xs.length : Int) != (ys.length : Int)) = false := by simp; omega
  have hle : xs.length ≤ ys.length := by omega
  have S3' := Lib.hid (S3.out hl)
  clear hl S1 S3
  go_wp2_with fail
  obtain ⟨W2, hW2⟩ := W2E
  rw [hW2] at Bm m0 g0 sm hb3 HE2 ⊢
  clear hW2 q1 f0
  have hy0 : w.heap.size < W2.heap.size := by omega
  have G0 := Lib.hid g0
  clear g0 m0
  go_loopw [19] (fun u wr => ∃ i : Nat, i ≤ xs.length ∧ u = .int .i64 i ∧ (∀ t, (h1 : t < xs.length) → (h2 : t < ys.length) → t < i → xs[t] = ys[t]) ∧ Below W2.heap.size W2 wr) (fun u _ => xs.length - (intOf u).toNat)
  case atStart => exact ⟨0, Nat.zero_le _, rfl, fun t _ _ h => by omega, Below.refl _ _⟩
  case round =>
    obtain ⟨i, hi, rfl, hno, hbr⟩ := hrel
    have HNO := Lib.hid hno
    clear hno
    have f0 := (hbr.cell (p := ⟨w.heap.size, 0, none⟩) hy0).trans G0.out
    have hyr : w.heap.size < wr.heap.size := by have := hbr.size; omega
    have hyn : ¬ w.heap.size = wr.heap.size := by omega
    have hbw := hb3.trans (hbr.mono hb3.size)
    by_cases hlt : i < xs.length
    · have hlt2 : i < ys.length := by omega
      obtain ⟨b1, o1, rfl, hbl, hcell⟩ := (HE2.out.below hbr).at hlt
      obtain ⟨c1, c2⟩ := hcell i hlt
      obtain ⟨b2, o2, rfl, hbl2, hcell2⟩ := (HA.out wr hbw).at hlt2
      obtain ⟨d1, d2⟩ := hcell2 i hlt2
      have HY := Lib.hid (fun h => S2.out i hlt hlt2 h)
      have HN := Lib.hid (fun (h : xs[i] = ys[i]) => show ∀ t, (h1 : t < xs.length) → (h2 : t < ys.length) → t < i + 1 → xs[t] = ys[t] from fun t h1 h2 ht => by
        by_cases e : t < i
        · exact HNO.out t h1 h2 e
        · obtain rfl : t = i := by omega
          exact h)
      clear hcell hcell2
      generalize xs[i] = x at *
      generalize ys[i] = y at *
      obtain ⟨xl, xh⟩ := x
      obtain ⟨yl, yh⟩ := y
      dsimp only at *
      have n1 : ¬ b1 = wr.heap.size := by omega
      have n2 : ¬ b2 = wr.heap.size := by omega
      have i1 : (0 : Int) ≤ (i : Int) := by omega
      have i2 : (i : Int) < (xs.length : Int) := by omega
      have i3 : ((i : Int)).toNat = i := by omega
      have i4 : (i : Int) < (ys.length : Int) := by omega
      have Bx : Below wr.heap.size wr (wr.alloc (.cells #[.int .i64 xl, .int .i64 xh] 69)) := (Below.refl _ _).alloc (Nat.le_refl _) _
      have x0 : (wr.alloc (.cells #[.int .i64 xl, .int .i64 xh] 69)).cell? ⟨wr.heap.size, 0, none⟩ = some (.int .i64 xl) := by simp
      have x1 : (wr.alloc (.cells #[.int .i64 xl, .int .i64 xh] 69)).cell? ⟨wr.heap.size, 1, none⟩ = some (.int .i64 xh) := by simp
      have e0 := (Bx.cell (p := ⟨w.heap.size, 0, none⟩) hyr).trans f0
      have e1 := (Bx.cell (p := ⟨b2, o2 + i * 2, none⟩) hbl2).trans d1
      have e2 := (Bx.cell (p := ⟨b2, o2 + i * 2 + 1, none⟩) hbl2).trans d2
      have hb5 := hbr.trans (Bx.mono hbr.size)
      have WxE : ∃ Wx, wr.alloc (.cells #[.int .i64 xl, .int .i64 xh] 69) = Wx := ⟨_, rfl⟩
      clear f0 d1 d2
      go_wp2_with fail
      obtain ⟨Wx, hWx⟩ := WxE
      rw [hWx] at Bx x0 x1 e0 e1 e2 hb5 ⊢
      clear hWx c1 c2
      by_cases he : (⟨xl, xh⟩ : Rg) = ⟨yl, yh⟩
      · have HQ := Lib.hid (HN.out he)
        have NR1 : ∀ W, (binOp .neq 69 (.agg #[.int .i64 xl, .int .i64 xh]) (.agg #[.int .i64 yl, .int .i64 yh])).run Tryz.prog W = .ok (.bool false) W := fun W => by rw [neq_rg, he]; simp
        clear HY HN he
        go_quiet (fail)
        go_wp2_with fail
        go_roundw
        case rel => exact ⟨i + 1, by omega, by go_num, HQ.out, below_drewN hb5 _⟩
        case measure => simp [intOf]; omega
      · obtain rfl := HY.out he
        have NR1 : ∀ W, (binOp .neq 69 (.agg #[.int .i64 xl, .int .i64 xh]) (.agg #[.int .i64 yl, .int .i64 yh])).run Tryz.prog W = .ok (.bool true) W := fun W => by rw [neq_rg, decide_eq_false he]; rfl
        clear HY HN he
        go_quiet (fail)
        go_wp2_with fail
        go_ret
        exact ⟨rfl, hb3.trans ((below_drewN hb5 _).mono hb3.size)⟩
    · obtain rfl := S3'.out (fun t h1 h2 => HNO.out t h1 h2 (by omega))
      go_wp2_with fail
      go_ret
      exact ⟨rfl, hbw⟩

theorem eql_mkey (a c : Int) (s t : ByteArray) (w : World) : (binOp .eql 117 (.agg #[.int .i64 a, .string s]) (.agg #[.int .i64 c, .string t])).run Tryz.prog w = .ok (.bool (decide ((a, s) = (c, t)))) w := by
  have u3 := Tryz.underlying3
  have a3 := Tryz.isAgg3
  have z3 := Tryz.sizeOf3
  have u9 := Tryz.underlying9
  have a9 := Tryz.isAgg9
  have z9 := Tryz.sizeOf9
  have hS : Tryz.prog.underlying 117 = some (.struct (Tryz.prog.fieldsOf 117)) := by kernel_rfl
  have hp : Tryz.prog.stoodInHeld 117 = false := by kernel_rfl
  rw [run_eql_struct, show (10000 : Nat) = 9999 + 1 from rfl, run_equalIn_agg w 9999 117 _ _ hS hp]
  simp only [Program.fieldsOf, Tryz.underlying117]
  go_simp
  by_cases h1 : s = t
  · subst h1
    by_cases h2 : a = c <;> simp [h2]
  · have h0 : ¬ s.toList = t.toList := by simpa using str_eqF h1
    simp [h0, h1]

end Go.Proofs.YtjglanjfgbipmaaGreatDoor
/- The contract of decompose.Check. -/
namespace Go.Proofs.YtjglanjfgbipmaaGreatDoor
open Go.RowKit Go.Maps Go.WideMaps

/-- the data of normalization in memory -/
structure NrmAt (w : World) (A0 : Option Addr) (n0 : Nat) (A1 : Option Addr) (n1 : Nat) (A2 : Option Addr) (n2 : Nat) (x : Nrm) : Prop where
  s0 : Spans w A0 x.cls
  s1 : Mps w A1 x.dec
  s2 : Rgs w A2 x.exc
  l0 : x.cls.length = n0
  l1 : x.dec.length = n1
  l2 : x.exc.length = n2
theorem NrmAt.below {w w' : World} {A0 : Option Addr} {n0 : Nat} {A1 : Option Addr} {n1 : Nat} {A2 : Option Addr} {n2 : Nat} {x : Nrm} (h : NrmAt w A0 n0 A1 n1 A2 n2 x) (hb : Below w.heap.size w w') : NrmAt w' A0 n0 A1 n1 A2 n2 x :=
  ⟨h.s0.below hb, h.s1.below hb, h.s2.below hb, h.l0, h.l1, h.l2⟩
/-- sizes -/
structure NrmSz (x : Nrm) : Prop where
  z0 : x.cls.length ≤ 1048576
  z1 : MpsSz x.dec
  z2 : x.exc.length ≤ 12

set_option maxRecDepth 100000 in
set_option maxHeartbeats 6400000 in
theorem dCheck_any (A0 : Option Addr) (n0 k0 : Nat) (A1 : Option Addr) (n1 k1 : Nat) (A2 : Option Addr) (n2 k2 : Nat) (x : Nrm) (w : World) (hN : NrmAt w A0 n0 A1 n1 A2 n2 x) (hz : NrmSz x) (hL : Laid w) :
    Calls Tryz.prog 52 #[.agg #[.slice A0 n0 k0, .slice A1 n1 k1, .slice A2 n2 k2]] w (RetInt (nErr x) w) := by
  obtain ⟨ss, ms, rs⟩ := x
  obtain ⟨hS, hM, hR, rfl, rfl, rfl⟩ := hN
  dsimp only at *
  have z0 : ss.length ≤ 1048576 := hz.z0
  have z1 : ms.length ≤ 1048576 := hz.z1.n
  have CC := Lib.hid (fun W (hb : Below w.heap.size w W) => Check_any A0 ss.length k0 ss W (hS.below hb) rfl (by omega) (hL.below hb))
  have MC := Lib.hid (fun W (hb : Below w.heap.size w W) => mapCheck_any A1 ms.length k1 ms W (hM.below hb) rfl hz.z1)
  have VC := Lib.hid (fun W (hb : Below w.heap.size w W) => cpValidS_any A2 rs.length k2 rs W (hR.below hb) rfl hz.z2)
  have KC := Lib.hid (fun c W => Kind_any c W)
  have RC := Lib.hid (fun A nt kt text W (hb : Below w.heap.size w W) (hT : Ints W A text) (hnt : text.length = nt) (hbt : nt ≤ 1048576) => Runs_any A0 ss.length k0 ss A nt kt text W (hS.below hb) hT hnt rfl hbt (by omega) (hL.below hb))
  have ME := Lib.hid (fun W (hb : Below w.heap.size w W) (hst : StF ms) (hco : CodesOk ms) (hh : NoHg ms) => measure_any A0 ss.length k0 A1 ms.length k1 A2 rs.length k2 ms W (hM.below hb) rfl hst hco hh z1)
  have N0 := Lib.hid (fun h => nErr_c (x := ⟨ss, ms, rs⟩) h)
  have N1 := Lib.hid (fun h1 h2 => nErr_m (x := ⟨ss, ms, rs⟩) h1 h2)
  have N2 := Lib.hid (fun h1 h2 h3 => nErr_s (x := ⟨ss, ms, rs⟩) h1 h2 h3)
  have N3 := Lib.hid (fun (c : Ck3 ⟨ss, ms, rs⟩) h => c.twice h)
  have N4 := Lib.hid (fun (c : Ck4 ⟨ss, ms, rs⟩) h => c.kind h)
  have N5 := Lib.hid (fun (c : Ck5 ⟨ss, ms, rs⟩) h => c.data h)
  have N6 := Lib.hid (fun (c : Ck6 ⟨ss, ms, rs⟩) => c.rest)
  dsimp only at N0 N1 N2 N3 N4 N5 N6
  generalize nErr ⟨ss, ms, rs⟩ = r at *
  have HM := Lib.hid hM
  clear hM hS hR hz hL
  have B0 : Below w.heap.size w (w.alloc (.cells #[.slice A0 ss.length k0, .slice A1 ms.length k1, .slice A2 rs.length k2] 28)) := (Below.refl _ _).alloc (Nat.le_refl _) _
  have X0 : Box (w.alloc (.cells #[.slice A0 ss.length k0, .slice A1 ms.length k1, .slice A2 rs.length k2] 28)) w.heap.size 28 [.slice A0 ss.length k0, .slice A1 ms.length k1, .slice A2 rs.length k2] := Box.new _ _ _ rfl
  have W0E : ∃ W0, (w.alloc (.cells #[.slice A0 ss.length k0, .slice A1 ms.length k1, .slice A2 rs.length k2] 28)) = W0 := ⟨_, rfl⟩
  go_enter Tryz.func52, Tryz.ntmps52
  go_wp2_with fail
  obtain ⟨W0, hW0⟩ := W0E
  rw [hW0] at B0 X0 ⊢
  clear hW0
  have s0 : w.heap.size < W0.heap.size := X0.lt
  have Q := Lib.hid (fun W (hb : Below W0.heap.size W0 W) => show W.cell? ⟨w.heap.size, 0, none⟩ = some (.slice A0 ss.length k0) ∧ W.cell? ⟨w.heap.size, 1, none⟩ = some (.slice A1 ms.length k1) ∧ W.cell? ⟨w.heap.size, 2, none⟩ = some (.slice A2 rs.length k2) from
    have X := X0.below hb s0
    ⟨X.cell rfl, X.cell rfl, X.cell rfl⟩)
  have BB := Lib.hid (fun W (hb : Below W0.heap.size W0 W) => B0.trans (hb.mono B0.size))
  clear X0
  with_reducible refine (CC.out _ B0).mono ?_
  rintro e W1 ⟨rfl, hb1⟩
  obtain ⟨q0, q1, q2⟩ := Q.out W1 hb1
  generalize hc : chk ss = c at *
  have HC := Lib.hid hc
  clear hc CC
  by_cases h0 : ¬ c = 0
  · go_wp2_with fail
    go_ret
    exact ⟨ret_int (N0.out h0).symm, BB.out _ hb1⟩
  replace h0 := Decidable.not_not.1 h0
  subst h0
  clear N0
  go_wp2_with fail
  with_reducible refine (MC.out _ (BB.out _ hb1)).mono ?_
  rintro e W2 ⟨rfl, hb2⟩
  replace hb2 := hb1.trans (hb2.mono hb1.size)
  clear q0 q1 q2 hb1 MC
  obtain ⟨q0, q1, q2⟩ := Q.out W2 hb2
  generalize hc : mapErr ms = c at *
  have HMC := Lib.hid hc
  clear hc
  by_cases h0 : ¬ c = 0
  · go_wp2_with fail
    go_ret
    exact ⟨ret_int (N1.out (by trivial) h0).symm, BB.out _ hb2⟩
  replace h0 := Decidable.not_not.1 h0
  subst h0
  clear N1
  go_wp2_with fail
  with_reducible refine (VC.out _ (BB.out _ hb2)).mono ?_
  rintro e W3 ⟨rfl, hb3⟩
  replace hb3 := hb2.trans (hb3.mono hb2.size)
  clear q0 q1 q2 hb2 VC
  obtain ⟨q0, q1, q2⟩ := Q.out W3 hb3
  generalize hc : setOk rs = c at *
  have HSC := Lib.hid hc
  clear hc
  cases c with
  | false =>
    go_wp2_with fail
    go_ret
    exact ⟨ret_int (N2.out (by trivial) (by trivial) (by trivial)).symm, BB.out _ hb3⟩
  | true =>
  have C3 := Lib.hid (show Ck3 ⟨ss, ms, rs⟩ from ⟨HC.out, HMC.out, HSC.out⟩)
  clear N2 HC HSC
  go_wp2_with fail
  clear q0 q1 q2
  go_loopw [5] (fun u wr => ∃ i : Nat, i ≤ ms.length ∧ u = .int .i64 ((i : Int) + 1) ∧ (∀ t, (ht : t + 1 < ms.length) → t < i → ¬ ms[t + 1].frm = ms[t].frm) ∧ Below W0.heap.size W0 wr) (fun u _ => ms.length + 1 - (intOf u).toNat)
  case atStart => exact ⟨0, Nat.zero_le _, rfl, fun t _ h => absurd h (Nat.not_lt_zero _), hb3⟩
  case round =>
    obtain ⟨i, hi, rfl, h1, hb⟩ := hrel
    have H1 := Lib.hid h1
    clear h1
    obtain ⟨q0, q1, q2⟩ := Q.out wr hb
    by_cases hlt : i + 1 < ms.length
    · obtain ⟨b, o, rfl, _, hcell⟩ := (HM.out.below (BB.out _ hb)).at hlt
      obtain ⟨E, d, c1, c2, c3, _, _⟩ := hcell i (by omega)
      obtain ⟨E', d', c1', c2', c3', _, _⟩ := hcell (i + 1) hlt
      clear hcell
      have hi0 : i < ms.length := by omega
      have HS := Lib.hid (fun (h : ms[i + 1].frm = ms[i].frm) => stB_no hi0 hlt (Nat.lt_succ_self i) h)
      have HN := Lib.hid (fun (h : ¬ ms[i + 1].frm = ms[i].frm) => show ∀ t, (ht : t + 1 < ms.length) → t < i + 1 → ¬ ms[t + 1].frm = ms[t].frm from fun t ht g => by
        by_cases e : t = i
        · subst e; exact h
        · exact H1.out t ht (by omega))
      generalize ms[i].frm = f at *
      generalize ms[i].to.length = tl at *
      generalize ms[i].tag = tg at *
      generalize ms[i + 1].frm = f' at *
      generalize ms[i + 1].to.length = tl' at *
      generalize ms[i + 1].tag = tg' at *
      clear HM
      by_cases heq : f' = f
      · have HR := Lib.hid (N3.out C3.out (HS.out heq))
        go_wp2_with fail
        go_region
        all_goals
          go_wp2_with fail
          go_ret
          exact ⟨ret_int HR.out.symm, BB.out _ hb.drew⟩
      · have HR := Lib.hid (HN.out heq)
        go_wp2_with fail
        go_region
        all_goals
          go_wp2_with fail
          go_roundw
          case rel => exact ⟨i + 1, by omega, by go_num, HR.out, hb.drew⟩
          case measure => simp [intOf]; omega
    · have hst := Lib.hid (show stB ms = true from stB_of HMC.out (fun k hk => H1.out k hk (by omega)))
      have C4 := Lib.hid (show Ck4 ⟨ss, ms, rs⟩ from ⟨C3.out, hst.out⟩)
      clear N3 C3 H1 hst
      go_wp2_with fail
      clear q0 q1 q2
      go_loopw [53] (fun u wr => ∃ i : Nat, i ≤ ms.length ∧ u = .int .i64 i ∧ (∀ t, (ht : t < ms.length) → t < i → kindB ms[t] = false) ∧ Below W0.heap.size W0 wr) (fun u _ => ms.length - (intOf u).toNat)
      case atStart => exact ⟨0, Nat.zero_le _, rfl, fun t _ h => absurd h (Nat.not_lt_zero _), hb⟩
      case round =>
        clear hb
        obtain ⟨i, hi, rfl, hno, hb⟩ := hrel
        have HNO := Lib.hid hno
        clear hno
        obtain ⟨q0, q1, q2⟩ := Q.out wr hb
        by_cases hlt : i < ms.length
        · obtain ⟨b1, o1, rfl, hbl, hcell⟩ := (HM.out.below (BB.out _ hb)).at hlt
          obtain ⟨C, cc, c0, c1, c2, hcc, hC⟩ := hcell i hlt
          have HB := Lib.hid (fun h => N4.out C4.out (anyT hlt h))
          have HN := Lib.hid (fun h => all_up (P := fun m => kindB m = false) hlt HNO.out h)
          clear hcell hC
          generalize ms[i] = mi at *
          have K1 := Lib.hid (fun (h : ¬ mi.tag.size = 0) => show kindB mi = false from by simp [kindB, h])
          have K2 := Lib.hid (fun (h : mi.to.length = 1) => show kindB mi = false from by simp [kindB, h])
          have K3 := Lib.hid (fun (h : mi.to.length = 2) => show kindB mi = false from by simp [kindB, h])
          have K4 := Lib.hid (fun (h : mi.tag.size = 0) (h1 : ¬ mi.to.length = 1) (h2 : ¬ mi.to.length = 2) => show kindB mi = true from by simp [kindB, h, h1, h2])
          generalize kindB mi = kb at *
          obtain ⟨mf, mt, mg⟩ := mi
          dsimp only at *
          clear HM
          have hb2 := hb.trans (((Below.refl wr.heap.size wr).alloc (Nat.le_refl _) (.cells #[.int .i64 mf, .slice C mt.length cc, .string mg] 52)).mono hb.size)
          by_cases hg : mg.size = 0
          · have g0 : mg.toList = [] := str_nil hg
            by_cases h1 : mt.length = 1
            · have HQ := Lib.hid (HN.out (K2.out h1))
              have d1 : (mt.length : Int) = 1 := by omega
              clear h1
              go_wp2_with fail
              go_roundw
              case rel => exact ⟨i + 1, by omega, by go_num, HQ.out, hb2⟩
              case measure => simp [intOf]; omega
            · have d1 : ((mt.length : Int) != 1) = true := by simp; omega
              by_cases h2 : mt.length = 2
              · have HQ := Lib.hid (HN.out (K3.out h2))
                have d2 : ((mt.length : Int) != 2) = false := by simp; omega
                have hb2' := Lib.hid hb2
                clear h2
                go_wp2_with fail
                go_roundw
                case rel => exact ⟨i + 1, by omega, by go_num, HQ.out, hb2⟩
                case measure => simp [intOf]; omega
              · have HR := Lib.hid (HB.out (K4.out hg h1 h2))
                have d2 : ((mt.length : Int) != 2) = true := by simp; omega
                go_wp2_with fail
                go_ret
                exact ⟨ret_int HR.out.symm, BB.out _ hb2⟩
          · have g0 : ¬ mg.toList = [] := str_cons hg
            have g1 : mg.toList.isEmpty = false := by simpa using g0
            have HQ := Lib.hid (HN.out (K1.out hg))
            go_wp2_with fail
            go_roundw
            case rel => exact ⟨i + 1, by omega, by go_num, HQ.out, hb2⟩
            case measure => simp [intOf]; omega
        · have C5 := Lib.hid (show Ck5 ⟨ss, ms, rs⟩ from ⟨C4.out, show ms.any kindB = false from anyF (fun t ht => HNO.out t ht (by omega))⟩)
          have C4' := Lib.hid (show Ck4 ⟨ss, ms, rs⟩ from C4.out)
          clear C4 N4 HNO
          have N5' := Lib.hid (fun h => N5.out C5.out h)
          clear N5
          go_wp2_with fail
          clear q0 q1 q2
          have B1 : W0.heap.size ≤ W0.heap.size := Nat.le_refl _
          go_loopw [8, 76] (fun v u wr => ∃ (i c : Nat) (B : Option Addr), i ≤ ms.length ∧ u = .int .i64 i ∧ v = .slice B (taggedM (ms.take i)).length c ∧ wr.ownsRow W0.heap.size 3 1 (.slice B (taggedM (ms.take i)).length c) (taggedM (ms.take i)).length ((taggedM (ms.take i)).map (Value.int .i64)) ∧
            (∀ t, (ht : t < ms.length) → t < i → Hg.kind ms[t].frm = 0) ∧ Below W0.heap.size W0 wr) (fun _ u _ => ms.length - (intOf u).toNat)
          case atStart => exact ⟨0, 0, none, Nat.zero_le _, rfl, rfl, World.ownsRow_nil _ _ _ _, fun t _ h => absurd h (Nat.not_lt_zero _), hb⟩
          case round =>
            clear hb
            obtain ⟨i, c, B, hi, rfl, rfl, hown, hno, hb⟩ := hrel
            have HNO := Lib.hid hno
            have HOWN := Lib.hid hown
            clear hno hown
            obtain ⟨q0, q1, q2⟩ := Q.out wr hb
            by_cases hlt : i < ms.length
            · obtain ⟨b1, o1, rfl, hbl, hcell⟩ := (HM.out.below (BB.out _ hb)).at hlt
              obtain ⟨C, cc, c0, c1, c2, hcc, hC⟩ := hcell i hlt
              have HB := Lib.hid (fun h => N5'.out (datB_kind hlt h))
              have HN := Lib.hid (fun h => all_up (P := fun m => Hg.kind m.frm = 0) hlt HNO.out h)
              have HT := Lib.hid (taggedM_take hlt)
              have hTL := taggedM_len (ms.take i)
              rw [List.length_take] at hTL
              clear hcell hC
              generalize ms[i] = mi at *
              obtain ⟨mf, mt, mg⟩ := mi
              dsimp only at *
              clear HM
              have hb2 := hb.trans (((Below.refl wr.heap.size wr).alloc (Nat.le_refl _) (.cells #[.int .i64 mf, .slice C mt.length cc, .string mg] 52)).mono hb.size)
              have HOWNa := Lib.hid (own_keep HOWN.out ((Below.refl wr.heap.size wr).alloc (Nat.le_refl _) (.cells #[.int .i64 mf, .slice C mt.length cc, .string mg] 52)))
              generalize hka : Hg.kind mf = ka at *
              have HK := Lib.hid hka
              clear hka
              have KF := Lib.hid (KC.out mf)
              rw [HK.out] at KF
              by_cases hk0 : ka = 0
              · have HQ := Lib.hid (HN.out hk0)
                subst hk0
                by_cases hg : mg.size = 0
                · have g0 : mg.toList = [] := str_nil hg
                  have hT := HT.out
                  rw [if_pos hg, List.append_nil] at hT
                  have HT2 := Lib.hid hT
                  clear hT
                  go_wp2_with (go_at_call 33; refine (KF.out _).mono ?_; rintro e w' ⟨rfl, rfl⟩)
                  go_roundw
                  case rel => exact ⟨i + 1, c, B, by omega, by go_num, by rw [HT2.out], by rw [HT2.out]; exact HOWNa.out, HQ.out, hb2⟩
                  case measure => simp [intOf]; omega
                · have g0 : ¬ mg.toList = [] := str_cons hg
                  have g1 : mg.toList.isEmpty = false := by simpa using g0
                  have hT := HT.out
                  rw [if_neg hg] at hT
                  have HT2 := Lib.hid hT
                  clear hT
                  go_wp2_with (first | (go_at_call 33; refine (KF.out _).mono ?_; rintro e w' ⟨rfl, rfl⟩) | (at_builtin; (refine wpList_app _ _ 38 3 (.int .i64 0) 1 8 rfl rfl Tryz.underlying38 info_int rfl (by decide) (by decide) rfl (HOWNa.out.alloc _) rfl (Sl_new (wr.alloc (.cells #[.int .i64 mf, .slice C mt.length cc, .string mg] 52)) [.int .i64 mf] 3 (by simp)) (by simp) (oneCell_ints [mf]) (by omega) (by have := hb2.size; simp at this ⊢; omega) ?_); intro B1 c1' w1 hown1 hc1' hb1 hg1 hB1))
                  have hb3 := hb2.trans ((((Below.refl _ _).alloc (Nat.le_refl _) _).mono hb2.size).trans hb1)
                  go_roundw
                  case rel =>
                    refine ⟨i + 1, c1', B1, by omega, by go_num, ?_, ?_, HQ.out, hb3⟩
                    · rw [HT2.out, List.length_append]; rfl
                    · rw [HT2.out, List.length_append, List.map_append]; exact hown1
                  case measure => simp [intOf]; omega
              · have HR := Lib.hid (HB.out hk0)
                go_wp2_with (go_at_call 33; refine (KF.out _).mono ?_; rintro e w' ⟨rfl, rfl⟩)
                go_ret
                exact ⟨ret_int HR.out.symm, BB.out _ hb2⟩
            · obtain rfl : i = ms.length := by omega
              have hT : taggedM (ms.take ms.length) = taggedM ms := by rw [List.take_length]
              have hTL := taggedM_len ms
              have HI : Ints wr B (taggedM ms) := by rw [hT] at HOWN; exact Sl.of_own HOWN.out
              rw [hT]
              have HA := Lib.hid (fun (h : rns (clz ss) (taggedM ms) 0 none = []) => show Ck6 ⟨ss, ms, rs⟩ from ⟨C5.out, show ms.any (datB ss) = false from datB_of (fun t ht => HNO.out t ht ht) h⟩)
              have HD := Lib.hid (fun (h : ¬ rns (clz ss) (taggedM ms) 0 none = []) => N5'.out (datB_yes h))
              have RR := Lib.hid (RC.out B (taggedM ms).length c (taggedM ms) wr (BB.out _ hb) HI rfl (by omega))
              clear HI HOWN hT
              generalize taggedM ms = tg at *
              generalize rns (clz ss) tg 0 none = rr at *
              go_wp2_with fail
              with_reducible refine RR.out.mono ?_
              rintro e W4 ⟨A4, c4, rfl, hc4, hA4, hb4⟩
              replace hb4 := hb.trans (hb4.mono hb.size)
              clear q0 q1 q2
              obtain ⟨q0, q1, q2⟩ := Q.out W4 hb4
              by_cases hr0 : rr = []
              · have C6 := Lib.hid (HA.out hr0)
                have hl : rr.length = 0 := by rw [hr0]; rfl
                have MM := Lib.hid (ME.out W4 (BB.out _ hb4) (StF_of C4'.out.t) (mapErr_codes C4'.out.m) (NoHg_of C6.out.d))
                have FIN := Lib.hid (fun cyc lng (h : MeasOk ms cyc lng) => show r = if cyc = true then 12 else if lng = true then 13 else 0 from by
                  have h1 := h.cyc (StF_of C4'.out.t) (NoHg_of C6.out.d)
                  rw [N6.out C6.out]
                  cases he : endB ms with
                  | false => rw [he] at h1; subst h1; rfl
                  | true => rw [he] at h1; subst h1; rw [h.lng (StF_of C4'.out.t) (NoHg_of C6.out.d) he]; simp)
                clear hr0
                rw [hl]
                go_wp2_with fail
                with_reducible refine MM.out.mono ?_
                rintro e W5 ⟨cyc, lng, rfl, hok, hb5⟩
                replace hb5 := hb4.trans (hb5.mono hb4.size)
                have HF := Lib.hid (FIN.out cyc lng hok)
                clear q0 q1 q2 hok FIN MM
                cases cyc with
                | true =>
                  go_wp2_with fail
                  go_ret
                  exact ⟨ret_int HF.out.symm, BB.out _ hb5⟩
                | false =>
                  cases lng with
                  | true =>
                    go_wp2_with fail
                    go_ret
                    exact ⟨ret_int HF.out.symm, BB.out _ hb5⟩
                  | false =>
                    go_wp2_with fail
                    go_ret
                    exact ⟨ret_int HF.out.symm, BB.out _ hb5⟩
              · have HR := Lib.hid (HD.out hr0)
                have hl : 0 < rr.length := List.length_pos_iff.2 hr0
                have hl2 : decide ((0 : Int) < (rr.length : Int)) = true := by simp; omega
                go_wp2_with fail
                go_ret
                exact ⟨ret_int HR.out.symm, BB.out _ hb4⟩
end Go.Proofs.YtjglanjfgbipmaaGreatDoor
/- Contracts of the reference's find and ends over mappings. -/
namespace Go.Proofs.YtjglanjfgbipmaaGreatDoor
open Go.RowKit Go.Maps Go.WideMaps

/-- the index of a number's mapping, or -1 -/
def fndV (ms : List Mp) (compat : Bool) (c : Int) : Int := match fndM ms compat c with | some i => (i : Int) | none => -1
def hitM (compat : Bool) (c : Int) (m : Mp) : Bool := decide (m.frm = c) && (compat || decide (m.tag.size = 0))
theorem fnd_hit {ms : List Mp} {compat : Bool} {c : Int} {i : Nat} (hi : i < ms.length) (h : hitM compat c ms[i] = true) (hno : ∀ t, (ht : t < ms.length) → t < i → hitM compat c ms[t] = false) : fndV ms compat c = i := by
  have : fndM ms compat c = some i := by
    unfold fndM
    rw [List.findIdx?_eq_some_iff_getElem]
    exact ⟨hi, h, fun j hj => by have := hno j (by omega) hj; unfold hitM at this; rw [Bool.not_eq_true]; exact this⟩
  unfold fndV
  rw [this]
theorem fnd_miss {ms : List Mp} {compat : Bool} {c : Int} (hno : ∀ t, (ht : t < ms.length) → hitM compat c ms[t] = false) : fndV ms compat c = -1 := by
  have : fndM ms compat c = none := by
    unfold fndM
    rw [List.findIdx?_eq_none_iff]
    intro m hm
    obtain ⟨i, hi, rfl⟩ := List.getElem_of_mem hm
    exact hno i hi
  unfold fndV
  rw [this]
theorem fndV_bd {ms : List Mp} (compat : Bool) (c : Int) : -1 ≤ fndV ms compat c ∧ fndV ms compat c < ms.length := by
  unfold fndV
  cases h : fndM ms compat c with
  | none => dsimp only; omega
  | some i => obtain ⟨hi, _⟩ := fndM_at h; dsimp only; omega

set_option maxRecDepth 100000 in
set_option maxHeartbeats 1600000 in
theorem find_any (A : Option Addr) (n k : Nat) (ms : List Mp) (c : Int) (compat : Bool) (w : World) (hA : Mps w A ms) (hn : ms.length = n) (hbig : n ≤ 1048576) :
    Calls Tryz.prog 62 #[.slice A n k, .int .i64 c, .bool compat] w fun e w' => e = .returned (.int .i64 (fndV ms compat c)) ∧ w = w' := by
  subst hn
  have H1 := Lib.hid (fun i (hi : i < ms.length) h hno => fnd_hit (ms := ms) (compat := compat) (c := c) hi h hno)
  have H0 := Lib.hid (fnd_miss (ms := ms) (compat := compat) (c := c))
  generalize fndV ms compat c = R at *
  have HA := Lib.hid hA
  clear hA
  go_enter Tryz.func62, Tryz.ntmps62
  go_wp2_with fail
  go_loop [7] (fun u => ∃ i : Nat, i ≤ ms.length ∧ u = .int .i64 i ∧ (∀ t, (ht : t < ms.length) → t < i → hitM compat c ms[t] = false)) (fun u => ms.length - (intOf u).toNat)
  case atStart => exact ⟨0, Nat.zero_le _, rfl, fun t _ h => absurd h (Nat.not_lt_zero _)⟩
  case round =>
    obtain ⟨i, hi, rfl, hno⟩ := hrel
    have HNO := Lib.hid hno
    clear hno
    by_cases hlt : i < ms.length
    · obtain ⟨b1, o1, rfl, hbl, hcell⟩ := HA.out.at hlt
      obtain ⟨C, cc, c0, c1, c2, _, _⟩ := hcell i hlt
      have HB := Lib.hid (fun h => H1.out i hlt h HNO.out)
      have HN := Lib.hid (fun h => all_up (P := fun m => hitM compat c m = false) hlt HNO.out h)
      clear hcell HA
      generalize ms[i] = mi at *
      have K0 := Lib.hid (fun (h : ¬ mi.frm = c) => show hitM compat c mi = false from by simp [hitM, h])
      have K1 := Lib.hid (fun (h : mi.frm = c) (h2 : compat = true) => show hitM compat c mi = true from by simp [hitM, h, h2])
      have K2 := Lib.hid (fun (h : mi.frm = c) (h2 : mi.tag.size = 0) => show hitM compat c mi = true from by simp [hitM, h, h2])
      have K3 := Lib.hid (fun (h : compat = false) (h2 : ¬ mi.tag.size = 0) => show hitM compat c mi = false from by simp [hitM, h, h2])
      generalize hitM compat c mi = hb at *
      obtain ⟨mf, mt, mg⟩ := mi
      dsimp only at *
      by_cases hf : mf = c
      · cases compat with
        | true =>
          have HR := Lib.hid (HB.out (K1.out hf rfl))
          subst hf
          go_wp2_with fail
          go_ret
          exact ⟨ret_int HR.out.symm, rfl⟩
        | false =>
          by_cases hg : mg.size = 0
          · have g0 : mg.toList = [] := str_nil hg
            have HR := Lib.hid (HB.out (K2.out hf hg))
            subst hf
            go_wp2_with fail
            go_ret
            exact ⟨ret_int HR.out.symm, rfl⟩
          · have g0 : ¬ mg.toList = [] := str_cons hg
            have g1 : mg.toList.isEmpty = false := by simpa using g0
            have HQ := Lib.hid (HN.out (K3.out rfl hg))
            subst hf
            go_wp2_with fail
            go_round
            case rel => exact ⟨i + 1, by omega, by go_num, HQ.out⟩
            case measure => simp [intOf]; omega
      · have HQ := Lib.hid (HN.out (K0.out hf))
        go_wp2_with fail
        go_round
        case rel => exact ⟨i + 1, by omega, by go_num, HQ.out⟩
        case measure => simp [intOf]; omega
    · have HR := Lib.hid (H0.out (fun t ht => HNO.out t ht (by omega)))
      go_wp2_with fail
      go_ret
      exact ⟨ret_int HR.out.symm, rfl⟩

/-! ends -/
theorem info_bool : (Tryz.prog.info? 4).map (fun i => (i.zero, i.size, i.bytes)) = some (some (.bool false), 1, 1) := by kernel_rfl
/-- n times v -/
def repV (n : Nat) (v : Value) : List Value := List.replicate n v
theorem made_rep (v : Value) (hv : v.cells = #[v]) (n : Nat) : madeCells v.cells n = (repV n v).toArray := by
  rw [hv]
  unfold repV
  apply Array.ext
  · simp [madeCells]
  · intro i h1 h2
    simp [madeCells, Nat.mod_one]
theorem mk_bools (n : Nat) (hn : n ≤ 1048576) (W : World) : (Instr.makeSlice 81 (.int .i64 n) (.int .i64 n)).run Tryz.prog W = .ok (.slice (some ⟨W.heap.size, 0, none⟩) n n) (W.alloc (.cells (repV n (Value.bool false)).toArray 4)) := by
  obtain ⟨i, hi, hz, hsize, hbytes⟩ := info_parts info_bool
  have := run_make (P := Tryz.prog) W 81 4 i (.bool false) Tryz.underlying81 hi hz .i64 .i64 n n (by omega) (by omega) (by rw [hbytes]; omega) (by omega)
  rw [this, hsize]
  simp only [Int.toNat_natCast, Nat.mul_one, made_rep (.bool false) rfl]
theorem mk_ints (n : Nat) (hn : n ≤ 1048576) (W : World) : (Instr.makeSlice 38 (.int .i64 n) (.int .i64 n)).run Tryz.prog W = .ok (.slice (some ⟨W.heap.size, 0, none⟩) n n) (W.alloc (.cells (repV n (Value.int .i64 0)).toArray 3)) := by
  obtain ⟨i, hi, hz, hsize, hbytes⟩ := info_parts info_int
  have := run_make (P := Tryz.prog) W 38 3 i (.int .i64 0) Tryz.underlying38 hi hz .i64 .i64 n n (by omega) (by omega) (by rw [hbytes]; omega) (by omega)
  rw [this, hsize]
  simp only [Int.toNat_natCast, Nat.mul_one, made_rep (.int .i64 0) rfl]
/-- a slice of these booleans is returned -/
def RetBools (T : List Bool) (w : World) (e : Ending) (w' : World) : Prop := ∃ A c, e = .returned (.slice A T.length c) ∧ T.length ≤ c ∧ Sl w' A (T.map Value.bool) ∧ Below w.heap.size w w'
theorem Box.sl {w : World} {b : Nat} {t : TypeId} {cs : List Value} (h : Box w b t cs) : Sl w (some ⟨b, 0, none⟩) cs := fun _ => ⟨b, 0, rfl, fun j u hu => by rw [Nat.zero_add]; exact h.cell hu⟩
theorem endFold_len (to : Nat → List Int) (fnd : Int → Option Nat) (s : List Nat) : ∀ T : List Bool, (s.foldl (endStep to fnd) T).length = T.length := by
  induction s with
  | nil => intro T; rfl
  | cons x s ih => intro T; exact (ih _).trans (by simp [endStep])
theorem endE_k {to : List Int} {fnd : Int → Option Nat} {T : List Bool} {k : Nat} (hk : k < to.length) : (to.take (k + 1)).all (fun e => match fnd e with | none => true | some m => T.getD m false) = ((to.take k).all (fun e => match fnd e with | none => true | some m => T.getD m false) && (match fnd to[k] with | none => true | some m => T.getD m false)) := by
  rw [List.take_succ_eq_append_getElem hk, List.all_append]
  simp
end Go.Proofs.YtjglanjfgbipmaaGreatDoor
/- Contracts of the reference's ends and lengths of mappings. -/
namespace Go.Proofs.YtjglanjfgbipmaaGreatDoor
open Go.RowKit Go.Maps Go.WideMaps

theorem fndV_cases (ms : List Mp) (compat : Bool) (c : Int) : (fndM ms compat c = none ∧ fndV ms compat c = -1) ∨ ∃ m : Nat, m < ms.length ∧ fndM ms compat c = some m ∧ fndV ms compat c = (m : Int) := by
  unfold fndV
  cases h : fndM ms compat c with
  | none => exact .inl ⟨rfl, rfl⟩
  | some i => obtain ⟨hi, _⟩ := fndM_at h; exact .inr ⟨i, hi, rfl, rfl⟩
def allE (fnd : Int → Option Nat) (T : List Bool) (l : List Int) : Bool := l.all (fun e => match fnd e with | none => true | some m => T.getD m false)

set_option maxRecDepth 100000 in
set_option maxHeartbeats 3200000 in
theorem ends_any (A : Option Addr) (n k : Nat) (ms : List Mp) (w : World) (hA : Mps w A ms) (hn : ms.length = n) (hbig : n ≤ 1048576) (hz : ∀ i, (hi : i < ms.length) → ms[i].to.length ≤ 1048576) :
    Calls Tryz.prog 63 #[.slice A n k] w (RetBools (rnds ms.length (toM ms) (fndM ms true) ms.length) w) := by
  subst hn
  have FD := Lib.hid (fun c W (hW : Mps W A ms) => find_any A ms.length k ms c true W hW rfl hbig)
  have HA := Lib.hid hA
  have HZ := Lib.hid hz
  have HF := Lib.hid (fun c => fndV_cases ms true c)
  have hmk := mk_bools ms.length hbig
  clear hA hz
  have HL := Lib.hid (fun r => (rnds_ok ms.length (toM ms) (fndM ms true) r).1)
  have HS := Lib.hid (fun r => show rnds ms.length (toM ms) (fndM ms true) (r + 1) = (List.range ms.length).foldl (endStep (toM ms) (fndM ms true)) (rnds ms.length (toM ms) (fndM ms true) r) from rfl)
  have H0 := Lib.hid (show (rnds ms.length (toM ms) (fndM ms true) 0).map Value.bool = repV ms.length (Value.bool false) from by simp [rnds, repV])
  generalize rnds ms.length (toM ms) (fndM ms true) = RN at *
  go_enter Tryz.func63, Tryz.ntmps63
  go_wp2_with fail
  have B0 : Below w.heap.size w (w.alloc (.cells (repV ms.length (Value.bool false)).toArray 4)) := (Below.refl _ _).alloc (Nat.le_refl _) _
  have X0 : Box (w.alloc (.cells (repV ms.length (Value.bool false)).toArray 4)) w.heap.size 4 (repV ms.length (Value.bool false)) := Box.new _ _ _ rfl
  obtain ⟨W0, hW0⟩ : ∃ W0, (w.alloc (.cells (repV ms.length (Value.bool false)).toArray 4)) = W0 := ⟨_, rfl⟩
  rw [hW0] at B0 X0 ⊢
  clear hW0
  rw [← H0.out] at X0
  have X0' := Lib.hid X0
  clear X0 H0
  go_loopw [4] (fun u wr => ∃ r : Nat, r ≤ ms.length ∧ u = .int .i64 r ∧ Box wr w.heap.size 4 ((RN r).map Value.bool) ∧ Below w.heap.size w wr) (fun u _ => ms.length - (intOf u).toNat)
  case atStart => exact ⟨0, Nat.zero_le _, rfl, X0'.out, B0⟩
  case round =>
    obtain ⟨r, hr, rfl, hX, hb⟩ := hrel
    have HX := Lib.hid hX
    clear hX X0' B0
    by_cases hlt : r < ms.length
    · go_wp2_with fail
      have hT0 := HL.out r
      have HNX := Lib.hid (HS.out r)
      generalize hR1 : RN (r + 1) = R1 at *
      generalize hR0 : RN r = T0 at *
      have HR1 := Lib.hid hR1; have HR0 := Lib.hid hR0
      clear hR1 hR0
      go_loopw [5] (fun u wr => ∃ i : Nat, i ≤ ms.length ∧ u = .int .i64 i ∧ Box wr w.heap.size 4 (((List.range i).foldl (endStep (toM ms) (fndM ms true)) T0).map Value.bool) ∧ Below w.heap.size w wr) (fun u _ => ms.length - (intOf u).toNat)
      case atStart => exact ⟨0, Nat.zero_le _, rfl, HX.out, hb⟩
      case round =>
        clear HX hb
        obtain ⟨i, hi, rfl, hX, hb⟩ := hrel
        have HX := Lib.hid hX
        clear hX
        by_cases hlti : i < ms.length
        · obtain ⟨b1, o1, rfl, hbl, hcell⟩ := (HA.out.below hb).at hlti
          obtain ⟨C, cc, c0, c1, c2, hcc, hC⟩ := hcell i hlti
          have hzi := HZ.out i hlti
          have hto := toM_at hlti
          have hTl : ((List.range i).foldl (endStep (toM ms) (fndM ms true)) T0).length = ms.length := by rw [endFold_len]; exact hT0
          have HST := Lib.hid (show (List.range (i + 1)).foldl (endStep (toM ms) (fndM ms true)) T0 = ((List.range i).foldl (endStep (toM ms) (fndM ms true)) T0).set i (allE (fndM ms true) ((List.range i).foldl (endStep (toM ms) (fndM ms true)) T0) ms[i].to) from by
            rw [List.range_succ, List.foldl_append]
            simp only [List.foldl_cons, List.foldl_nil]
            unfold endStep endE allE
            rw [hto]
            rfl)
          clear hto hcell
          generalize (List.range i).foldl (endStep (toM ms) (fndM ms true)) T0 = T at *
          generalize hT1 : (List.range (i + 1)).foldl (endStep (toM ms) (fndM ms true)) T0 = T1 at *
          have HT1 := Lib.hid hT1
          clear hT1
          generalize ms[i].frm = mf at *
          generalize ms[i].to = mt at *
          generalize ms[i].tag = mg at *
          have HC := Lib.hid hC
          have HM := Lib.hid (HA.out.below hb)
          clear hC HA
          go_wp2_with fail
          go_loop [6, 7] (fun v u => ∃ k' : Nat, k' ≤ mt.length ∧ v = .bool (allE (fndM ms true) T (mt.take k')) ∧ u = .int .i64 k') (fun _ u => mt.length - (intOf u).toNat)
          case atStart => exact ⟨0, Nat.zero_le _, rfl, rfl⟩
          case round =>
            obtain ⟨k', hk', rfl, rfl⟩ := hrel
            by_cases hltk : k' < mt.length
            · obtain ⟨b2, o2, rfl, hc2⟩ := HC.out.at hltk
              have d0 := hc2 k' hltk
              have hAL : allE (fndM ms true) T (mt.take (k' + 1)) = (allE (fndM ms true) T (mt.take k') && (match fndM ms true mt[k'] with | none => true | some m => T.getD m false)) := endE_k hltk
              clear hc2
              generalize mt[k'] = z at *
              generalize allE (fndM ms true) T (mt.take k') = a at *
              have FZ := Lib.hid (FD.out z wr HM.out)
              rcases HF.out z with ⟨h1, h2⟩ | ⟨m, hm, h1, h2⟩
              · rw [h1, Bool.and_true] at hAL
                rw [h2] at FZ
                have HAL := Lib.hid hAL
                clear hAL h1 h2
                cases a with
                | true =>
                  go_wp2_with fail
                  with_reducible refine FZ.out.mono ?_
                  rintro e W' ⟨rfl, rfl⟩
                  go_wp2_with fail
                  go_round
                  case rel => exact ⟨k' + 1, by omega, by rw [HAL.out], by go_num⟩
                  case measure => simp [intOf]; omega
                | false =>
                  go_wp2_with fail
                  with_reducible refine FZ.out.mono ?_
                  rintro e W' ⟨rfl, rfl⟩
                  go_wp2_with fail
                  go_round
                  case rel => exact ⟨k' + 1, by omega, by rw [HAL.out], by go_num⟩
                  case measure => simp [intOf]; omega
              · have hg : T.getD m false = T[m]'(by omega) := by simp [List.getD, hTl, hm]
                have e0 : wr.cell? ⟨w.heap.size, m, none⟩ = some (.bool (T[m]'(by omega))) := HX.out.cell (by simp [hTl, hm])
                rw [h1] at hAL
                simp only [hg] at hAL
                rw [h2] at FZ
                generalize T[m]'(by omega) = tm at *
                have HAL := Lib.hid hAL
                clear hAL h1 h2 hg
                cases a with
                | true =>
                  cases tm with
                  | true =>
                    go_wp2_with fail
                    with_reducible refine FZ.out.mono ?_
                    rintro e W' ⟨rfl, rfl⟩
                    go_wp2_with fail
                    go_round
                    case rel => exact ⟨k' + 1, by omega, by rw [HAL.out]; rfl, by go_num⟩
                    case measure => simp [intOf]; omega
                  | false =>
                    go_wp2_with fail
                    with_reducible refine FZ.out.mono ?_
                    rintro e W' ⟨rfl, rfl⟩
                    go_wp2_with fail
                    go_round
                    case rel => exact ⟨k' + 1, by omega, by rw [HAL.out]; rfl, by go_num⟩
                    case measure => simp [intOf]; omega
                | false =>
                  go_wp2_with fail
                  with_reducible refine FZ.out.mono ?_
                  rintro e W' ⟨rfl, rfl⟩
                  go_wp2_with fail
                  go_round
                  case rel => exact ⟨k' + 1, by omega, by rw [HAL.out]; rfl, by go_num⟩
                  case measure => simp [intOf]; omega
            · obtain rfl : k' = mt.length := by omega
              have e1 : wr.frozen? ⟨w.heap.size, i, none⟩ = false := HX.out.free i
              have e0 : wr.cell? ⟨w.heap.size, i, none⟩ = some (.bool (T[i]'(by omega))) := HX.out.cell (by simp [hTl, hlti])
              have HK := Lib.hid (show Box (wr.setCell ⟨w.heap.size, i, none⟩ (.bool (allE (fndM ms true) T mt))) w.heap.size 4 (T1.map Value.bool) from by
                have := HX.out.set i (.bool (allE (fndM ms true) T mt))
                rw [HST.out, List.map_set]
                exact this)
              have hb9 : Below w.heap.size w (wr.setCell ⟨w.heap.size, i, none⟩ (.bool (allE (fndM ms true) T mt))) := hb.setCell (Nat.le_refl _) _
              rw [List.take_length]
              generalize allE (fndM ms true) T mt = x at *
              go_wp2_with fail
              go_roundw
              case rel => exact ⟨i + 1, by omega, by go_num, by rw [HT1.out]; exact HK.out, hb9⟩
              case measure => simp [intOf]; omega
        · obtain rfl : i = ms.length := by omega
          go_wp2_with fail
          go_roundw
          case rel => exact ⟨r + 1, by omega, by go_num, by rw [HR1.out, HNX.out]; exact HX.out, hb⟩
          case measure => simp [intOf]; omega
    · obtain rfl : r = ms.length := by omega
      have hl := HL.out ms.length
      have HXB := Lib.hid (HX.out.sl)
      generalize RN ms.length = RR at *
      go_wp2_with fail
      go_ret
      exact ⟨some ⟨w.heap.size, 0, none⟩, ms.length, by rw [hl]; rfl, by omega, HXB.out, hb⟩
end Go.Proofs.YtjglanjfgbipmaaGreatDoor
