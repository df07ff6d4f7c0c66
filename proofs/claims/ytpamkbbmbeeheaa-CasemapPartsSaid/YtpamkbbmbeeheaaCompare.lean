/- Contracts of the reference's Compare and Equal of two slices of ints. -/
import Derived.Test.YtpamkbbmbeeheaaProg
import Derived.Test.YtpamkbbmbeeheaaWords
import Derived.Deep.QuietTactic
import Derived.BigQuiet
import Derived.Outline
namespace Go.Proofs.Ytpamkbbmbeeheaa
open Go.RowKit

set_option maxHeartbeats 400000 in
theorem Compare_any (A B : Option Addr) (n m c d : Nat) (xs ys : List Int) (w : World) (hA : Ints w A xs) (hB : Ints w B ys) (hn : xs.length = n) (hm : ys.length = m)
    (hn' : n ≤ 9223372036854775807) (hm' : m ≤ 9223372036854775807) :
    Calls Try.prog 41 #[.slice A n c, .slice B m d] w fun e w' => e = .returned (.int .i64 (cmpL xs ys)) ∧ Qt w w' := by
  subst hn hm
  go_enter Try.func41, Try.ntmps41
  go_wp2
  go_loopw [5] (fun i wr => ∃ k : Nat, k ≤ xs.length ∧ k ≤ ys.length ∧ i = .int .i64 k ∧ Qt w wr ∧ cmpL xs ys = cmpL (xs.drop k) (ys.drop k)) (fun i _ => xs.length - (intOf i).toNat)
  case atStart => exact ⟨0, Nat.zero_le _, Nat.zero_le _, rfl, Qt.refl _, rfl⟩
  case round =>
    obtain ⟨k, hk1, hk2, rfl, ⟨q, rfl⟩, hcmp⟩ := hrel
    have HC := Lib.hid hcmp; clear hcmp
    by_cases h1 : k < xs.length
    · by_cases h2 : k < ys.length
      · obtain ⟨b, o, rfl, hc⟩ := hA.at h1
        obtain ⟨b', o', rfl, hc'⟩ := hB.at h2
        have hx := hc k h1
        have hy := hc' k h2
        have HS := Lib.hid (cmpL_drop xs ys k h1 h2)
        clear hc hc'
        generalize xs[k] = x at *
        generalize ys[k] = y at *
        by_cases hxy : x < y
        · go_wp2
          go_quiet (fail)
          go_wp2
          go_ret
          exact ⟨ret_int (Eq.symm (by rw [HC.out, HS.out, if_pos hxy])), by repeat (first | exact Qt.refl _ | refine Qt.drewN ?_ _)⟩
        · by_cases hyx : y < x
          · go_wp2
            go_quiet (fail)
            go_wp2
            go_quiet (fail)
            go_wp2
            go_ret
            exact ⟨ret_int (Eq.symm (by rw [HC.out, HS.out, if_neg (show ¬ x < y by omega), if_pos hyx])), by repeat (first | exact Qt.refl _ | refine Qt.drewN ?_ _)⟩
          · go_wp2
            go_quiet (fail)
            go_wp2
            go_quiet (fail)
            go_wp2
            go_roundw
            case rel => exact ⟨k + 1, by omega, by omega, by go_num, by repeat (first | exact Qt.refl _ | refine Qt.drewN ?_ _), by rw [HC.out, HS.out, if_neg (show ¬ x < y by omega), if_neg (show ¬ y < x by omega)]⟩
            case measure => simp [intOf]; omega
      · have HE := Lib.hid (cmpL_end xs ys k (by omega) hk1 hk2)
        have hl : ys.length < xs.length := by omega
        go_wp2
        go_ret
        exact ⟨ret_int (Eq.symm (by rw [HC.out, HE.out, if_neg (by omega), if_pos hl])), by repeat (first | exact Qt.refl _ | refine Qt.drewN ?_ _)⟩
    · have HE := Lib.hid (cmpL_end xs ys k (by omega) hk1 hk2)
      by_cases h2 : k < ys.length
      · go_wp2
        go_ret
        exact ⟨ret_int (Eq.symm (by rw [HC.out, HE.out, if_pos (by omega)])), by repeat (first | exact Qt.refl _ | refine Qt.drewN ?_ _)⟩
      · go_wp2
        go_ret
        exact ⟨ret_int (Eq.symm (by rw [HC.out, HE.out, if_neg (by omega), if_neg (by omega)])), by repeat (first | exact Qt.refl _ | refine Qt.drewN ?_ _)⟩

theorem Equal_any (A B : Option Addr) (n m c d : Nat) (xs ys : List Int) (w : World) (hA : Ints w A xs) (hB : Ints w B ys) (hn : xs.length = n) (hm : ys.length = m)
    (hn' : n ≤ 9223372036854775807) (hm' : m ≤ 9223372036854775807) :
    Calls Try.prog 19 #[.slice A n c, .slice B m d] w fun e w' => e = .returned (.bool (decide (xs = ys))) ∧ Qt w w' := by
  have hd : decide (xs = ys) = (cmpL xs ys == 0) := by
    rw [Bool.eq_iff_iff]; simp [cmpL_eq_zero]
  rw [hd]; clear hd
  have HC := Lib.hid (Compare_any A B n m c d xs ys w hA hB hn hm hn' hm')
  clear hA hB hn hm
  go_enter Try.func19, Try.ntmps19
  go_wp2_with (go_at_call 41; refine HC.out.mono ?_; rintro e w' ⟨rfl, q, rfl⟩)
  go_ret
  exact ⟨rfl, by repeat (first | exact Qt.refl _ | refine Qt.drewN ?_ _)⟩

end Go.Proofs.Ytpamkbbmbeeheaa
