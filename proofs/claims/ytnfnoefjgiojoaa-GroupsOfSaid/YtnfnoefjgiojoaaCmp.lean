/- Contracts of cmp.Compare at ints and of codepoint.Compare, Equal. -/
import Derived.Test.YtnfnoefjgiojoaaProg
import Derived.Test.YtnfnoefjgiojoaaQuiet
import Derived.Outline
namespace Go.Proofs.Ytnfnoefjgiojoaa
open Go.RowKit

/-- how two ints compare -/
def cmpI (x y : Int) : Int := if x < y then -1 else if y < x then 1 else 0

theorem isNaN_any (x : Int) (w : World) : Calls Try.prog 65 #[.int .i64 x] w fun e w' => e = .returned (.bool false) ∧ w = w' := by
  have h : (x != x) = false := by simp
  go_enter Try.func65, Try.ntmps65
  go_wp2
  go_ret
  exact ⟨rfl, rfl⟩

theorem cmpCompare_any (x y : Int) (w : World) : Calls Try.prog 55 #[.int .i64 x, .int .i64 y] w fun e w' => e = .returned (.int .i64 (cmpI x y)) ∧ w = w' := by
  unfold cmpI
  by_cases h1 : x < y
  · rw [if_pos h1]
    go_enter Try.func55, Try.ntmps55
    go_wp2_with (go_at_call 65; refine (isNaN_any _ _).mono ?_; rintro e w' ⟨rfl, rfl⟩)
    go_ret
    exact ⟨rfl, rfl⟩
  · rw [if_neg h1]
    by_cases h2 : y < x
    · rw [if_pos h2]
      go_enter Try.func55, Try.ntmps55
      go_wp2_with (go_at_call 65; refine (isNaN_any _ _).mono ?_; rintro e w' ⟨rfl, rfl⟩)
      go_ret
      exact ⟨rfl, rfl⟩
    · rw [if_neg h2]
      go_enter Try.func55, Try.ntmps55
      go_wp2_with (go_at_call 65; refine (isNaN_any _ _).mono ?_; rintro e w' ⟨rfl, rfl⟩)
      go_ret
      exact ⟨rfl, rfl⟩

theorem cmpI_len (xs ys : List Int) (k : Nat) (h : k = xs.length ∨ k = ys.length) (h1 : k ≤ xs.length) (h2 : k ≤ ys.length) : cmpL (xs.drop k) (ys.drop k) = cmpI (xs.length : Int) (ys.length : Int) := by
  rw [cmpL_end xs ys k h h1 h2]
  unfold cmpI
  simp only [Int.ofNat_lt]

theorem cmpL_ne (xs ys : List Int) (k : Nat) (h1 : k < xs.length) (h2 : k < ys.length) (h : xs[k] ≠ ys[k]) : cmpL (xs.drop k) (ys.drop k) = cmpI xs[k] ys[k] := by
  rw [cmpL_drop xs ys k h1 h2]
  unfold cmpI
  split
  · rfl
  · split
    · rfl
    · omega

set_option maxHeartbeats 800000 in
theorem cpCompare_any (A B : Option Addr) (n m c d : Nat) (xs ys : List Int) (w : World) (hA : Ints w A xs) (hB : Ints w B ys) (hn : xs.length = n) (hm : ys.length = m)
    (hn' : n ≤ 9223372036854775807) (hm' : m ≤ 9223372036854775807) :
    Calls Try.prog 43 #[.slice A n c, .slice B m d] w fun e w' => e = .returned (.int .i64 (cmpL xs ys)) ∧ Qt w w' := by
  subst hn hm
  go_enter Try.func43, Try.ntmps43
  go_wp2_with fail
  all_goals
    go_loopw [5, 11] (fun _ i wr => ∃ k : Nat, k ≤ xs.length ∧ k ≤ ys.length ∧ i = .int .i64 k ∧ Qt w wr ∧ cmpL xs ys = cmpL (xs.drop k) (ys.drop k)) (fun _ i _ => xs.length - (intOf i).toNat)
    case atStart => exact ⟨0, Nat.zero_le _, Nat.zero_le _, rfl, Qt.refl _, rfl⟩
    case round =>
      obtain ⟨k, hk1, hk2, rfl, ⟨q, rfl⟩, hcmp⟩ := hrel
      have HC := Lib.hid hcmp; clear hcmp
      by_cases hlt : k < xs.length ∧ k < ys.length
      · obtain ⟨h1, h2⟩ := hlt
        obtain ⟨b, o, rfl, hc⟩ := hA.at h1
        obtain ⟨b', o', rfl, hc'⟩ := hB.at h2
        have hx := hc k h1
        have hy := hc' k h2
        have HS := Lib.hid (cmpL_drop xs ys k h1 h2)
        have HN := Lib.hid (cmpL_ne xs ys k h1 h2)
        clear hc hc'
        generalize xs[k] = x at *
        generalize ys[k] = y at *
        by_cases hxy : x = y
        · have hne : (x != y) = false := by simpa using hxy
          have HXY := Lib.hid hxy; clear hxy
          go_wp2
          go_quiet (fail)
          go_wp2
          go_roundw
          case rel => exact ⟨k + 1, by omega, by omega, by go_num, by repeat (first | exact Qt.refl _ | refine Qt.drewN ?_ _), by rw [HC.out, HS.out, if_neg (by have := HXY.out; omega), if_neg (by have := HXY.out; omega)]⟩
          case measure => simp [intOf]; omega
        · have hne : (x != y) = true := by simpa using hxy
          have HXY := Lib.hid hxy; clear hxy
          go_wp2
          go_quiet (fail)
          go_wp2
          go_quiet ((go_at_call 55; exact quiet_add_left (cmpCompare_any _ _ _)))
          go_wp2
          go_ret
          exact ⟨ret_int (by rw [HC.out, HN.out HXY.out]), by repeat (first | exact Qt.refl _ | refine Qt.drewN ?_ _)⟩
      · have HL := Lib.hid (cmpI_len xs ys k (by omega) hk1 hk2)
        go_wp2_with fail
        refine (cmpCompare_any _ _ _).mono ?_
        rintro e w' ⟨rfl, rfl⟩
        go_wp2_with fail
        go_ret
        exact ⟨ret_int (by rw [HC.out, HL.out]), by repeat (first | exact Qt.refl _ | refine Qt.drewN ?_ _)⟩

end Go.Proofs.Ytnfnoefjgiojoaa
