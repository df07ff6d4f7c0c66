/- Contracts of cmp.Compare at ints and of codepoint.Compare, Equal. -/
import Derived.Test.YtpamkbbmbeeheaaProg
import Derived.Test.YtpamkbbmbeeheaaQuiet
import Derived.Outline
namespace Go.Proofs.Ytpamkbbmbeeheaa
open Go.RowKit

/-- how two ints compare -/
def cmpI (x y : Int) : Int := if x < y then -1 else if y < x then 1 else 0

theorem isNaN_any (x : Int) (w : World) : Calls Try.prog 82 #[.int .i64 x] w fun e w' => e = .returned (.bool false) ∧ w = w' := by
  have h : (x != x) = false := by simp
  go_enter Try.func82, Try.ntmps82
  go_wp2
  go_ret
  exact ⟨rfl, rfl⟩

theorem cmpCompare_any (x y : Int) (w : World) : Calls Try.prog 72 #[.int .i64 x, .int .i64 y] w fun e w' => e = .returned (.int .i64 (cmpI x y)) ∧ w = w' := by
  unfold cmpI
  by_cases h1 : x < y
  · rw [if_pos h1]
    go_enter Try.func72, Try.ntmps72
    go_wp2_with (go_at_call 82; refine (isNaN_any _ _).mono ?_; rintro e w' ⟨rfl, rfl⟩)
    go_ret
    exact ⟨rfl, rfl⟩
  · rw [if_neg h1]
    by_cases h2 : y < x
    · rw [if_pos h2]
      go_enter Try.func72, Try.ntmps72
      go_wp2_with (go_at_call 82; refine (isNaN_any _ _).mono ?_; rintro e w' ⟨rfl, rfl⟩)
      go_ret
      exact ⟨rfl, rfl⟩
    · rw [if_neg h2]
      go_enter Try.func72, Try.ntmps72
      go_wp2_with (go_at_call 82; refine (isNaN_any _ _).mono ?_; rintro e w' ⟨rfl, rfl⟩)
      go_ret
      exact ⟨rfl, rfl⟩

theorem cmpI_len (xs ys : List Int) (k : Nat) (h : k = xs.length ∨ k = ys.length) (h1 : k ≤ xs.length) (h2 : k ≤ ys.length) : cmpL (xs.drop k) (ys.drop k) = cmpI (xs.length : Int) (ys.length : Int) := by
  rw [cmpL_end xs ys k h h1 h2]
  unfold cmpI
  simp only [Int.ofNat_lt]

theorem cmpL_ne (xs ys : List Int) (k : Nat) (h1 : k < xs.length) (h2 : k < ys.length) (h : xs[k] ≠ ys[k]) : cmpL (xs.drop k) (ys.drop k) = cmpI xs[k] ys[k] := by
  rw [cmpL_drop xs ys k h1 h2]
  unfold cmpI
  split
  · rfl
  · split
    · rfl
    · omega

end Go.Proofs.Ytpamkbbmbeeheaa
