/- Contracts of cpset.Valid and mapping.Get. Written by gen_setf.py. -/
import Derived.Test.YtpamkbbmbeeheaaSetE
import Derived.Test.YtpamkbbmbeeheaaRefMap
namespace Go.Proofs.Ytpamkbbmbeeheaa
open Go.RowKit Go.Maps Go.WideMaps

set_option maxRecDepth 100000 in
set_option maxHeartbeats 3200000 in
theorem cpValidS_any (A : Option Addr) (n a : Nat) (ys : List Rg) (w : World) (hA : Rgs w A ys) (hn : ys.length = n) (hz : n ≤ 12) :
    Calls Try.prog 33 #[.agg #[.slice A n a]] w (RetBool (setOk ys) w) := by
  subst hn
  have B0 : Below w.heap.size w (w.alloc (.cells #[.slice A ys.length a] 25)) := (Below.refl _ _).alloc (Nat.le_refl _) _
  have k0 : (w.alloc (.cells #[.slice A ys.length a] 25)).cell? ⟨w.heap.size, 0, none⟩ = some (.slice A ys.length a) := by simp
  have s0 : (w.alloc (.cells #[.slice A ys.length a] 25)).heap.size = w.heap.size + 1 := by simp
  have W0E : ∃ W0, (w.alloc (.cells #[.slice A ys.length a] 25)) = W0 := ⟨_, rfl⟩
  have MC := Lib.hid (fun W (hb : Below w.heap.size w W) => cpMake_any A ys.length a ys W (hA.below hb) rfl hz)
  have hcl := canR_len ys
  have S0 := Lib.hid (show setOk ys = decide (canR ys = ys) from rfl)
  generalize canR ys = xs at *
  have S1 := Lib.hid (sameR_len (xs := xs) (ys := ys))
  have S2 := Lib.hid (fun k h1 h2 h => sameR_ne (xs := xs) (ys := ys) (k := k) h1 h2 h)
  have S3 := Lib.hid (sameR_eq (xs := xs) (ys := ys))
  generalize decide (xs = ys) = R at *
  generalize setOk ys = R' at *
  obtain rfl := S0.out
  have HA := Lib.hid (fun W (hb : Below w.heap.size w W) => hA.below hb)
  clear hA
  go_enter Try.func33, Try.ntmps33
  go_wp2_with fail
  obtain ⟨W0, hW0⟩ := W0E
  rw [hW0] at B0 k0 s0 ⊢
  clear hW0
  have hx0 : w.heap.size < W0.heap.size := by omega
  with_reducible refine (MC.out W0 B0).mono ?_
  rintro e W1 ⟨E, d, rfl, hd, hE, hb1⟩
  have HE := Lib.hid hE
  have f0 := (hb1.cell (p := ⟨w.heap.size, 0, none⟩) hx0).trans k0
  have hx1 : w.heap.size < W1.heap.size := by have := hb1.size; omega
  have hxn : ¬ w.heap.size = W1.heap.size := by omega
  have Bm : Below W1.heap.size W1 (W1.alloc (.cells #[.slice E xs.length d] 25)) := (Below.refl _ _).alloc (Nat.le_refl _) _
  have m0 : (W1.alloc (.cells #[.slice E xs.length d] 25)).cell? ⟨W1.heap.size, 0, none⟩ = some (.slice E xs.length d) := by simp
  have g0 := (Bm.cell (p := ⟨w.heap.size, 0, none⟩) hx1).trans f0
  have sm : (W1.alloc (.cells #[.slice E xs.length d] 25)).heap.size = W1.heap.size + 1 := by simp
  have hb2 := B0.trans (hb1.mono B0.size)
  have hb3 := hb2.trans (Bm.mono hb2.size)
  have HE2 := Lib.hid (HE.out.below Bm)
  have W2E : ∃ W2, W1.alloc (.cells #[.slice E xs.length d] 25) = W2 := ⟨_, rfl⟩
  clear MC hE HE k0
  by_cases hl : xs.length = ys.length
  rotate_left
  · obtain rfl := S1.out hl
    have q1 : ((xs.length : Int) != (ys.length : Int)) = true := by simp; omega
    go_wp2_with fail
    go_ret
    exact ⟨rfl, hb3⟩
  have q1 : ((xs.length : Int) != (ys.length : Int)) = false := by simp; omega
  have hle : xs.length ≤ ys.length := by omega
  have S3' := Lib.hid (S3.out hl)
  clear hl S1 S3
  go_wp2_with fail
  obtain ⟨W2, hW2⟩ := W2E
  rw [hW2] at Bm m0 g0 sm hb3 HE2 ⊢
  clear hW2 q1 f0
  have hy0 : w.heap.size < W2.heap.size := by omega
  have G0 := Lib.hid g0
  clear g0 m0
  go_loopw [19] (fun u wr => ∃ i : Nat, i ≤ xs.length ∧ u = .int .i64 i ∧ (∀ t, (h1 : t < xs.length) → (h2 : t < ys.length) → t < i → xs[t] = ys[t]) ∧ Below W2.heap.size W2 wr) (fun u _ => xs.length - (intOf u).toNat)
  case atStart => exact ⟨0, Nat.zero_le _, rfl, fun t _ _ h => by omega, Below.refl _ _⟩
  case round =>
    obtain ⟨i, hi, rfl, hno, hbr⟩ := hrel
    have HNO := Lib.hid hno
    clear hno
    have f0 := (hbr.cell (p := ⟨w.heap.size, 0, none⟩) hy0).trans G0.out
    have hyr : w.heap.size < wr.heap.size := by have := hbr.size; omega
    have hyn : ¬ w.heap.size = wr.heap.size := by omega
    have hbw := hb3.trans (hbr.mono hb3.size)
    by_cases hlt : i < xs.length
    · have hlt2 : i < ys.length := by omega
      obtain ⟨b1, o1, rfl, hbl, hcell⟩ := (HE2.out.below hbr).at hlt
      obtain ⟨c1, c2⟩ := hcell i hlt
      obtain ⟨b2, o2, rfl, hbl2, hcell2⟩ := (HA.out wr hbw).at hlt2
      obtain ⟨d1, d2⟩ := hcell2 i hlt2
      have HY := Lib.hid (fun h => S2.out i hlt hlt2 h)
      have HN := Lib.hid (fun (h : xs[i] = ys[i]) => show ∀ t, (h1 : t < xs.length) → (h2 : t < ys.length) → t < i + 1 → xs[t] = ys[t] from fun t h1 h2 ht => by
        by_cases e : t < i
        · exact HNO.out t h1 h2 e
        · obtain rfl : t = i := by omega
          exact h)
      clear hcell hcell2
      generalize xs[i] = x at *
      generalize ys[i] = y at *
      obtain ⟨xl, xh⟩ := x
      obtain ⟨yl, yh⟩ := y
      dsimp only at *
      have n1 : ¬ b1 = wr.heap.size := by omega
      have n2 : ¬ b2 = wr.heap.size := by omega
      have i1 : (0 : Int) ≤ (i : Int) := by omega
      have i2 : (i : Int) < (xs.length : Int) := by omega
      have i3 : ((i : Int)).toNat = i := by omega
      have i4 : (i : Int) < (ys.length : Int) := by omega
      have Bx : Below wr.heap.size wr (wr.alloc (.cells #[.int .i64 xl, .int .i64 xh] 48)) := (Below.refl _ _).alloc (Nat.le_refl _) _
      have x0 : (wr.alloc (.cells #[.int .i64 xl, .int .i64 xh] 48)).cell? ⟨wr.heap.size, 0, none⟩ = some (.int .i64 xl) := by simp
      have x1 : (wr.alloc (.cells #[.int .i64 xl, .int .i64 xh] 48)).cell? ⟨wr.heap.size, 1, none⟩ = some (.int .i64 xh) := by simp
      have e0 := (Bx.cell (p := ⟨w.heap.size, 0, none⟩) hyr).trans f0
      have e1 := (Bx.cell (p := ⟨b2, o2 + i * 2, none⟩) hbl2).trans d1
      have e2 := (Bx.cell (p := ⟨b2, o2 + i * 2 + 1, none⟩) hbl2).trans d2
      have hb5 := hbr.trans (Bx.mono hbr.size)
      have WxE : ∃ Wx, wr.alloc (.cells #[.int .i64 xl, .int .i64 xh] 48) = Wx := ⟨_, rfl⟩
      clear f0 d1 d2
      go_wp2_with fail
      obtain ⟨Wx, hWx⟩ := WxE
      rw [hWx] at Bx x0 x1 e0 e1 e2 hb5 ⊢
      clear hWx c1 c2
      by_cases he : (⟨xl, xh⟩ : Rg) = ⟨yl, yh⟩
      · have HQ := Lib.hid (HN.out he)
        have NR1 : ∀ W, (binOp .neq 48 (.agg #[.int .i64 xl, .int .i64 xh]) (.agg #[.int .i64 yl, .int .i64 yh])).run Try.prog W = .ok (.bool false) W := fun W => by rw [neq_rg, he]; simp
        clear HY HN he
        go_quiet (fail)
        go_wp2_with fail
        go_roundw
        case rel => exact ⟨i + 1, by omega, by go_num, HQ.out, below_drewN hb5 _⟩
        case measure => simp [intOf]; omega
      · obtain rfl := HY.out he
        have NR1 : ∀ W, (binOp .neq 48 (.agg #[.int .i64 xl, .int .i64 xh]) (.agg #[.int .i64 yl, .int .i64 yh])).run Try.prog W = .ok (.bool true) W := fun W => by rw [neq_rg, decide_eq_false he]; rfl
        clear HY HN he
        go_quiet (fail)
        go_wp2_with fail
        go_ret
        exact ⟨rfl, hb3.trans ((below_drewN hb5 _).mono hb3.size)⟩
    · obtain rfl := S3'.out (fun t h1 h2 => HNO.out t h1 h2 (by omega))
      go_wp2_with fail
      go_ret
      exact ⟨rfl, hbw⟩

theorem eql_mkey (a c : Int) (s t : ByteArray) (w : World) : (binOp .eql 80 (.agg #[.int .i64 a, .string s]) (.agg #[.int .i64 c, .string t])).run Try.prog w = .ok (.bool (decide ((a, s) = (c, t)))) w := by
  have u3 := Try.underlying3
  have a3 := Try.isAgg3
  have z3 := Try.sizeOf3
  have u9 := Try.underlying9
  have a9 := Try.isAgg9
  have z9 := Try.sizeOf9
  have hS : Try.prog.underlying 80 = some (.struct (Try.prog.fieldsOf 80)) := by kernel_rfl
  have hp : Try.prog.stoodInHeld 80 = false := by kernel_rfl
  rw [run_eql_struct, show (10000 : Nat) = 9999 + 1 from rfl, run_equalIn_agg w 9999 80 _ _ hS hp]
  simp only [Program.fieldsOf, Try.underlying80]
  go_simp
  by_cases h1 : s = t
  · subst h1
    by_cases h2 : a = c <;> simp [h2]
  · have h0 : ¬ s.toList = t.toList := by simpa using str_eqF h1
    simp [h0, h1]

end Go.Proofs.Ytpamkbbmbeeheaa
