/- Contracts of isWeight, Valid, element.Check and of their references. -/
import Derived.Test.YtpamkbbmbeeheaaColl
import Derived.Deep.QuietTactic
import Derived.BigQuiet
namespace Go.Proofs.Ytpamkbbmbeeheaa
open Go.RowKit

/-- a number is returned; nothing that was there has changed -/
def RetInt (n : Int) (w : World) (e : Ending) (w' : World) : Prop := e = .returned (.int .i64 n) ∧ Below w.heap.size w w'
def RetBool (x : Bool) (w : World) (e : Ending) (w' : World) : Prop := e = .returned (.bool x) ∧ Below w.heap.size w w'
def RetTrue (w : World) (e : Ending) (w' : World) : Prop := e = .returned (.bool true) ∧ Below w.heap.size w w'

theorem cpValid_any (n : Int) (w : World) : Calls Try.prog 50 #[.int .i64 n] w fun e w' => e = .returned (.bool (inR 0 1114111 n)) ∧ w = w' := by
  by_cases h1 : 0 ≤ n
  · by_cases h2 : n ≤ 1114111
    · rw [inR_true h1 h2]
      go_enter Try.func50, Try.ntmps50
      go_wp2
      go_ret
      exact ⟨rfl, rfl⟩
    · rw [inR_hi (show 1114111 < n by omega)]
      go_enter Try.func50, Try.ntmps50
      go_wp2
      go_ret
      exact ⟨rfl, rfl⟩
  · rw [inR_lo (show n < 0 by omega)]
    go_enter Try.func50, Try.ntmps50
    go_wp2
    go_ret
    exact ⟨rfl, rfl⟩

theorem refValid_any (n : Int) (w : World) : Calls Try.prog 57 #[.int .i64 n] w fun e w' => e = .returned (.bool (inR 0 1114111 n)) ∧ w = w' := by
  by_cases h1 : 0 ≤ n
  · by_cases h2 : n ≤ 1114111
    · rw [inR_true h1 h2]
      go_enter Try.func57, Try.ntmps57
      go_wp2
      go_ret
      exact ⟨rfl, rfl⟩
    · rw [inR_hi (show 1114111 < n by omega)]
      go_enter Try.func57, Try.ntmps57
      go_wp2
      go_ret
      exact ⟨rfl, rfl⟩
  · rw [inR_lo (show n < 0 by omega)]
    go_enter Try.func57, Try.ntmps57
    go_wp2
    go_ret
    exact ⟨rfl, rfl⟩

theorem z01 (p : Int) : ((p == 0) = true ∧ (p != 0) = false ∧ Hid (p = 0)) ∨ ((p == 0) = false ∧ (p != 0) = true ∧ Hid (p ≠ 0)) := by
  unfold Hid
  by_cases h : p = 0
  · left; simp [h]
  · right; simp [h]

end Go.Proofs.Ytpamkbbmbeeheaa
