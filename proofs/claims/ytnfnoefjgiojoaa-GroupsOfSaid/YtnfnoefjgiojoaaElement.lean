/- Contracts of isWeight, Valid, element.Check and of their references. -/
import Derived.Test.YtnfnoefjgiojoaaColl
import Derived.Deep.QuietTactic
import Derived.BigQuiet
namespace Go.Proofs.Ytnfnoefjgiojoaa
open Go.RowKit

/-- a number is returned; nothing that was there has changed -/
def RetInt (n : Int) (w : World) (e : Ending) (w' : World) : Prop := e = .returned (.int .i64 n) ∧ Below w.heap.size w w'
def RetBool (x : Bool) (w : World) (e : Ending) (w' : World) : Prop := e = .returned (.bool x) ∧ Below w.heap.size w w'
def RetTrue (w : World) (e : Ending) (w' : World) : Prop := e = .returned (.bool true) ∧ Below w.heap.size w w'

theorem isWeight_any (n : Int) (w : World) : Calls Try.prog 40 #[.int .i64 n] w fun e w' => e = .returned (.bool (inR 1 65535 n)) ∧ w = w' := by
  by_cases h1 : 1 ≤ n
  · by_cases h2 : n ≤ 65535
    · rw [inR_true h1 h2]
      go_enter Try.func40, Try.ntmps40
      go_wp2
      go_ret
      exact ⟨rfl, rfl⟩
    · rw [inR_hi (show 65535 < n by omega)]
      go_enter Try.func40, Try.ntmps40
      go_wp2
      go_ret
      exact ⟨rfl, rfl⟩
  · rw [inR_lo (show n < 1 by omega)]
    go_enter Try.func40, Try.ntmps40
    go_wp2
    go_ret
    exact ⟨rfl, rfl⟩

theorem weight43_any (n : Int) (w : World) : Calls Try.prog 48 #[.int .i64 n] w fun e w' => e = .returned (.bool (inR 1 65535 n)) ∧ w = w' := by
  by_cases h1 : 1 ≤ n
  · by_cases h2 : n ≤ 65535
    · rw [inR_true h1 h2]
      go_enter Try.func48, Try.ntmps48
      go_wp2
      go_ret
      exact ⟨rfl, rfl⟩
    · rw [inR_hi (show 65535 < n by omega)]
      go_enter Try.func48, Try.ntmps48
      go_wp2
      go_ret
      exact ⟨rfl, rfl⟩
  · rw [inR_lo (show n < 1 by omega)]
    go_enter Try.func48, Try.ntmps48
    go_wp2
    go_ret
    exact ⟨rfl, rfl⟩

theorem weight42_any (n : Int) (w : World) : Calls Try.prog 70 #[.int .i64 n] w fun e w' => e = .returned (.bool (inR 0 65535 n)) ∧ w = w' := by
  by_cases h1 : 0 ≤ n
  · by_cases h2 : n ≤ 65535
    · rw [inR_true h1 h2]
      go_enter Try.func70, Try.ntmps70
      go_wp2
      go_ret
      exact ⟨rfl, rfl⟩
    · rw [inR_hi (show 65535 < n by omega)]
      go_enter Try.func70, Try.ntmps70
      go_wp2
      go_ret
      exact ⟨rfl, rfl⟩
  · rw [inR_lo (show n < 0 by omega)]
    go_enter Try.func70, Try.ntmps70
    go_wp2
    go_ret
    exact ⟨rfl, rfl⟩

theorem cpValid_any (n : Int) (w : World) : Calls Try.prog 53 #[.int .i64 n] w fun e w' => e = .returned (.bool (inR 0 1114111 n)) ∧ w = w' := by
  by_cases h1 : 0 ≤ n
  · by_cases h2 : n ≤ 1114111
    · rw [inR_true h1 h2]
      go_enter Try.func53, Try.ntmps53
      go_wp2
      go_ret
      exact ⟨rfl, rfl⟩
    · rw [inR_hi (show 1114111 < n by omega)]
      go_enter Try.func53, Try.ntmps53
      go_wp2
      go_ret
      exact ⟨rfl, rfl⟩
  · rw [inR_lo (show n < 0 by omega)]
    go_enter Try.func53, Try.ntmps53
    go_wp2
    go_ret
    exact ⟨rfl, rfl⟩

theorem refValid_any (n : Int) (w : World) : Calls Try.prog 62 #[.int .i64 n] w fun e w' => e = .returned (.bool (inR 0 1114111 n)) ∧ w = w' := by
  by_cases h1 : 0 ≤ n
  · by_cases h2 : n ≤ 1114111
    · rw [inR_true h1 h2]
      go_enter Try.func62, Try.ntmps62
      go_wp2
      go_ret
      exact ⟨rfl, rfl⟩
    · rw [inR_hi (show 1114111 < n by omega)]
      go_enter Try.func62, Try.ntmps62
      go_wp2
      go_ret
      exact ⟨rfl, rfl⟩
  · rw [inR_lo (show n < 0 by omega)]
    go_enter Try.func62, Try.ntmps62
    go_wp2
    go_ret
    exact ⟨rfl, rfl⟩

theorem z01 (p : Int) : ((p == 0) = true ∧ (p != 0) = false ∧ Hid (p = 0)) ∨ ((p == 0) = false ∧ (p != 0) = true ∧ Hid (p ≠ 0)) := by
  unfold Hid
  by_cases h : p = 0
  · left; simp [h]
  · right; simp [h]

theorem idx3 (x y z : Value) (W : World) : (Instr.index 90 (.agg #[x, y, z]) (.int .i64 0)).run Try.prog W = .ok x W ∧ (Instr.index 90 (.agg #[x, y, z]) (.int .i64 1)).run Try.prog W = .ok y W ∧ (Instr.index 90 (.agg #[x, y, z]) (.int .i64 2)).run Try.prog W = .ok z W := ⟨by kernel_rfl, by kernel_rfl, by kernel_rfl⟩

set_option maxHeartbeats 4000000 in
theorem eltCheck_any (e : Elt) (w : World) : Calls Try.prog 54 #[.agg #[.int .i64 e.p, .int .i64 e.s, .int .i64 e.t, .bool e.v]] w (RetInt (eltErr e) w) := by
  obtain ⟨p, s, t, v⟩ := e
  have H1 := Lib.hid (fun (h : p < 0 ∨ 65535 < p ∨ s < 0 ∨ 65535 < s ∨ t < 0 ∨ 65535 < t) => show eltErr ⟨p, s, t, v⟩ = 1 by unfold eltErr; rw [if_pos h])
  have H2 := Lib.hid (fun (h : ¬ (p < 0 ∨ 65535 < p ∨ s < 0 ∨ 65535 < s ∨ t < 0 ∨ 65535 < t)) => show eltErr ⟨p, s, t, v⟩ = if (p ≠ 0 ∧ (s = 0 ∨ t = 0)) ∨ (s ≠ 0 ∧ t = 0) ∨ (v = true ∧ p = 0) then 11 else 0 by unfold eltErr; rw [if_neg h])
  have x0 := fun W => (idx3 (.int .i64 p) (.int .i64 s) (.int .i64 t) W).1
  have x1 := fun W => (idx3 (.int .i64 p) (.int .i64 s) (.int .i64 t) W).2.1
  have x2 := fun W => (idx3 (.int .i64 p) (.int .i64 s) (.int .i64 t) W).2.2
  have BEL := Lib.hid ((Below.refl w.heap.size w).alloc (Nat.le_refl _) (.cells #[.int .i64 p, .int .i64 s, .int .i64 t, .bool v] 51))
  generalize eltErr ⟨p, s, t, v⟩ = R at *
  dsimp only
  go_enter Try.func54, Try.ntmps54
  go_wp2
  go_loop [4, 12] (fun _ u => ∃ j : Int, 0 ≤ j ∧ j ≤ 3 ∧ u = .int .i64 j ∧ (0 < j → 0 ≤ p ∧ p ≤ 65535) ∧ (1 < j → 0 ≤ s ∧ s ≤ 65535) ∧ (2 < j → 0 ≤ t ∧ t ≤ 65535)) (fun _ u => 3 - (intOf u).toNat)
  case atStart => exact ⟨0, by omega, by omega, rfl, by omega, by omega, by omega⟩
  case round =>
    obtain ⟨j, hj0, hj3, rfl, g0, g1, g2⟩ := hrel
    obtain rfl | rfl | rfl | rfl : j = 0 ∨ j = 1 ∨ j = 2 ∨ j = 3 := by omega
    · clear g0 g1 g2
      go_wp2
      all_goals first
        | (go_ret; exact ⟨ret_int (H1.out (by omega)).symm, BEL.out⟩)
        | (go_round
           case rel => exact ⟨1, by omega, by omega, rfl, by omega, by omega, by omega⟩
           case measure => simp [intOf])
    · have G0 := g0 (by omega)
      clear g0 g1 g2
      go_wp2
      all_goals first
        | (go_ret; exact ⟨ret_int (H1.out (by omega)).symm, BEL.out⟩)
        | (go_round
           case rel => exact ⟨2, by omega, by omega, rfl, by omega, by omega, by omega⟩
           case measure => simp [intOf])
    · have G0 := g0 (by omega)
      have G1 := g1 (by omega)
      clear g0 g1 g2
      go_wp2
      all_goals first
        | (go_ret; exact ⟨ret_int (H1.out (by omega)).symm, BEL.out⟩)
        | (go_round
           case rel => exact ⟨3, by omega, by omega, rfl, by omega, by omega, by omega⟩
           case measure => simp [intOf])
    · have G0 := g0 (by omega)
      have G1 := g1 (by omega)
      have G2 := g2 (by omega)
      have H3 := Lib.hid (H2.out (by omega))
      clear g0 g1 g2 H1 H2 G0 G1 G2 x0 x1 x2
      rcases z01 p with ⟨p1, p2, p3⟩ | ⟨p1, p2, p3⟩ <;> rcases z01 s with ⟨s1, s2, s3⟩ | ⟨s1, s2, s3⟩ <;> rcases z01 t with ⟨t1, t2, t3⟩ | ⟨t1, t2, t3⟩ <;> cases v
      all_goals
        go_wp2
        go_ret
        refine ⟨ret_int ?_, BEL.out⟩
        rw [H3.out]
        simp [p3.out, s3.out, t3.out]

set_option maxHeartbeats 4000000 in
theorem refEltCheck_any (e : Elt) (w : World) : Calls Try.prog 63 #[.agg #[.int .i64 e.p, .int .i64 e.s, .int .i64 e.t, .bool e.v]] w (RetInt (eltErr e) w) := by
  obtain ⟨p, s, t, v⟩ := e
  have H1 := Lib.hid (fun (h : p < 0 ∨ 65535 < p ∨ s < 0 ∨ 65535 < s ∨ t < 0 ∨ 65535 < t) => show eltErr ⟨p, s, t, v⟩ = 1 by unfold eltErr; rw [if_pos h])
  have H2 := Lib.hid (fun (h : ¬ (p < 0 ∨ 65535 < p ∨ s < 0 ∨ 65535 < s ∨ t < 0 ∨ 65535 < t)) => show eltErr ⟨p, s, t, v⟩ = if (p ≠ 0 ∧ (s = 0 ∨ t = 0)) ∨ (s ≠ 0 ∧ t = 0) ∨ (v = true ∧ p = 0) then 11 else 0 by unfold eltErr; rw [if_neg h])
  have BEL := Lib.hid ((Below.refl w.heap.size w).alloc (Nat.le_refl _) (.cells #[.int .i64 p, .int .i64 s, .int .i64 t, .bool v] 51))
  generalize eltErr ⟨p, s, t, v⟩ = R at *
  dsimp only
  have CW := Lib.hid weight42_any
  cases hp : inR 0 65535 p
  · have HP := Lib.hid (inR_false.1 hp)
    go_enter Try.func63, Try.ntmps63
    go_wp2_with fail
    refine (CW.out p _).mono ?_
    rw [hp]; rintro e w' ⟨rfl, rfl⟩
    go_wp2_with fail
    go_ret
    exact ⟨ret_int (H1.out (by have := HP.out; omega)).symm, BEL.out⟩
  · cases hs : inR 0 65535 s
    · have HP := Lib.hid (inR_false.1 hs)
      go_enter Try.func63, Try.ntmps63
      go_wp2_with fail
      refine (CW.out p _).mono ?_
      rw [hp]; rintro e w' ⟨rfl, rfl⟩
      go_wp2_with fail
      refine (CW.out s _).mono ?_
      rw [hs]; rintro e w' ⟨rfl, rfl⟩
      go_wp2_with fail
      go_ret
      exact ⟨ret_int (H1.out (by have := HP.out; omega)).symm, BEL.out⟩
    · cases ht : inR 0 65535 t
      · have HP := Lib.hid (inR_false.1 ht)
        go_enter Try.func63, Try.ntmps63
        go_wp2_with fail
        refine (CW.out p _).mono ?_
        rw [hp]; rintro e w' ⟨rfl, rfl⟩
        go_wp2_with fail
        refine (CW.out s _).mono ?_
        rw [hs]; rintro e w' ⟨rfl, rfl⟩
        go_wp2_with fail
        refine (CW.out t _).mono ?_
        rw [ht]; rintro e w' ⟨rfl, rfl⟩
        go_wp2_with fail
        go_ret
        exact ⟨ret_int (H1.out (by have := HP.out; omega)).symm, BEL.out⟩
      · have H3 := Lib.hid (H2.out (by have := inR_iff.1 hp; have := inR_iff.1 hs; have := inR_iff.1 ht; omega))
        rcases z01 p with ⟨p1, p2, p3⟩ | ⟨p1, p2, p3⟩ <;> rcases z01 s with ⟨s1, s2, s3⟩ | ⟨s1, s2, s3⟩ <;> rcases z01 t with ⟨t1, t2, t3⟩ | ⟨t1, t2, t3⟩ <;> cases v
        all_goals
          go_enter Try.func63, Try.ntmps63
          go_wp2_with fail
          refine (CW.out p _).mono ?_
          rw [hp]; rintro e w' ⟨rfl, rfl⟩
          go_wp2_with fail
          refine (CW.out s _).mono ?_
          rw [hs]; rintro e w' ⟨rfl, rfl⟩
          go_wp2_with fail
          refine (CW.out t _).mono ?_
          rw [ht]; rintro e w' ⟨rfl, rfl⟩
          go_wp2_with fail
          go_ret
          refine ⟨ret_int ?_, BEL.out⟩
          rw [H3.out]
          simp [p3.out, s3.out, t3.out]

end Go.Proofs.Ytnfnoefjgiojoaa
