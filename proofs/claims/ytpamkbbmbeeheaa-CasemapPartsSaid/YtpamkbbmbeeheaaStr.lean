/- What a name is; contracts of colltable.isName and of the reference's Name. -/
import Derived.Test.YtpamkbbmbeeheaaProg
import Derived.Test.YtpamkbbmbeeheaaWords
import Derived.WalkSpells
namespace Go.Proofs.Ytpamkbbmbeeheaa
open Go.RowKit

/-- a letter, a digit or _ -/
def nmc (n : Int) : Prop := (65 ≤ n ∧ n ≤ 90) ∨ (97 ≤ n ∧ n ≤ 122) ∨ (48 ≤ n ∧ n ≤ 57) ∨ n = 95
instance (n : Int) : Decidable (nmc n) := by unfold nmc; exact inferInstance
/-- a name -/
def nameOk (s : ByteArray) : Bool := s.data.toList.all (fun b => decide (nmc (b.toNat : Int))) && (decide (1 ≤ s.size) && decide (s.size ≤ 32))

theorem str_len (s : ByteArray) : s.toList.length = s.size := by
  rw [ByteArray.toList_eq, Array.length_toList]; rfl
theorem str_nil {s : ByteArray} (h : s.size = 0) : s.toList = [] := by rw [← List.length_eq_zero_iff, str_len]; exact h
theorem str_cons {s : ByteArray} (h : ¬ s.size = 0) : ¬ s.toList = [] := by rw [← List.length_eq_zero_iff, str_len]; exact h

theorem below_drewN {n : Nat} {a w : World} (h : Below n a w) (k : Nat) : Below n a (w.drewN k) := ⟨h.os, h.tape, h.output, h.size, h.block⟩

theorem str_inj {a b : ByteArray} (h : a.toList = b.toList) : a = b := by
  rw [ByteArray.toList_eq, ByteArray.toList_eq] at h
  cases a; cases b
  simp only [ByteArray.mk.injEq]
  exact Array.toList_inj.1 h
theorem str_eqT {a b : ByteArray} (h : a = b) : (a.toList == b.toList) = true := by rw [h]; simp
theorem str_eqF {a b : ByteArray} (h : ¬ a = b) : (a.toList == b.toList) = false := by
  rw [beq_eq_false_iff_ne]
  exact fun e => h (str_inj e)

theorem nameOk_bad {s : ByteArray} {k : Nat} (hk : k < s.size) (h : ¬ nmc (s[k].toNat : Int)) : nameOk s = false := by
  unfold nameOk
  rw [Bool.and_eq_false_iff]
  left
  rw [List.all_eq_false]
  exact ⟨s[k], by rw [Array.mem_toList_iff]; exact Array.getElem_mem _, by simpa using h⟩

theorem nameOk_all {s : ByteArray} (h : ∀ j, (hj : j < s.size) → nmc (s[j].toNat : Int)) : nameOk s = (decide (1 ≤ s.size) && decide (s.size ≤ 32)) := by
  unfold nameOk
  have : s.data.toList.all (fun b => decide (nmc (b.toNat : Int))) = true := by
    rw [List.all_eq_true]
    intro b hb
    obtain ⟨i, hi, rfl⟩ := List.getElem_of_mem hb
    have h1 := h i (by simpa using hi)
    have e : s.data.toList[i] = s[i]'(by simpa using hi) := by simp; rfl
    rw [e]
    simpa using h1
  rw [this, Bool.true_and]

set_option maxHeartbeats 1600000 in
theorem Name_any (s : ByteArray) (w : World) (hs : s.size ≤ 9223372036854775807) :
    Calls Try.prog 77 #[.string s] w fun e w' => e = .returned (.bool (nameOk s)) ∧ w = w' := by
  go_enter Try.func77, Try.ntmps77
  go_wp2
  go_loop [4, 3] (fun _ i => ∃ k : Nat, k ≤ s.size ∧ i = .int .i64 k ∧ ∀ j, (hj : j < s.size) → j < k → nmc (s[j].toNat : Int)) (fun _ i => s.size - (intOf i).toNat)
  case atStart => exact ⟨0, Nat.zero_le _, rfl, fun j _ h => by omega⟩
  case round =>
    obtain ⟨k, hk, rfl, hall⟩ := hrel
    have HA := Lib.hid hall; clear hall
    by_cases hlt : k < s.size
    · have HB := Lib.hid (fun h => nameOk_bad hlt h)
      have HN := Lib.hid (fun (h : nmc (s[k].toNat : Int)) => show ∀ j, (hj : j < s.size) → j < k + 1 → nmc (s[j].toNat : Int) from fun j hj hj2 => by
        by_cases e : j < k
        · exact HA.out j hj e
        · obtain rfl : j = k := by omega
          exact h)
      have HD := Lib.hid (show nmc (s[k].toNat : Int) ↔ ((65 ≤ (s[k].toNat : Int) ∧ (s[k].toNat : Int) ≤ 90) ∨ (97 ≤ (s[k].toNat : Int) ∧ (s[k].toNat : Int) ≤ 122) ∨ (48 ≤ (s[k].toNat : Int) ∧ (s[k].toNat : Int) ≤ 57) ∨ (s[k].toNat : Int) = 95) from Iff.rfl)
      have hlt8 := s[k].toNat_lt
      obtain ⟨hc1, hc2⟩ | ⟨hc1, hc2⟩ | ⟨hc1, hc2⟩ | ⟨hc1, hc2⟩ | ⟨hc1, hc2⟩ | ⟨hc1, hc2⟩ | ⟨hc1, hc2⟩ | ⟨hc1, hc2⟩ | ⟨hc1, hc2⟩ : (0 ≤ (s[k].toNat : Int) ∧ (s[k].toNat : Int) ≤ 47) ∨ (48 ≤ (s[k].toNat : Int) ∧ (s[k].toNat : Int) ≤ 57) ∨ (58 ≤ (s[k].toNat : Int) ∧ (s[k].toNat : Int) ≤ 64) ∨ (65 ≤ (s[k].toNat : Int) ∧ (s[k].toNat : Int) ≤ 90) ∨ (91 ≤ (s[k].toNat : Int) ∧ (s[k].toNat : Int) ≤ 94) ∨ (95 ≤ (s[k].toNat : Int) ∧ (s[k].toNat : Int) ≤ 95) ∨ (96 ≤ (s[k].toNat : Int) ∧ (s[k].toNat : Int) ≤ 96) ∨ (97 ≤ (s[k].toNat : Int) ∧ (s[k].toNat : Int) ≤ 122) ∨ (123 ≤ (s[k].toNat : Int) ∧ (s[k].toNat : Int) ≤ 255) := by omega
      · have hd1 : decide (65 ≤ (s[k].toNat : Int)) = false := decide_eq_false (by omega)
        have hd2 : decide (97 ≤ (s[k].toNat : Int)) = false := decide_eq_false (by omega)
        have hd3 : decide (48 ≤ (s[k].toNat : Int)) = false := decide_eq_false (by omega)
        have hd4 : decide ((s[k].toNat : Int) ≤ 90) = true := decide_eq_true (by omega)
        have hd5 : decide ((s[k].toNat : Int) ≤ 122) = true := decide_eq_true (by omega)
        have hd6 : decide ((s[k].toNat : Int) ≤ 57) = true := decide_eq_true (by omega)
        have hc3 : ((s[k].toNat : Int) == 95) = false := beq_eq_false_iff_ne.2 (by omega)
        have HY := Lib.hid (HB.out (fun h => by have h9 := HD.out.1 h; omega))
        go_wp2
        go_ret
        exact ⟨ret_bool HY.out.symm, rfl⟩
      · have hd1 : decide (65 ≤ (s[k].toNat : Int)) = false := decide_eq_false (by omega)
        have hd2 : decide (97 ≤ (s[k].toNat : Int)) = false := decide_eq_false (by omega)
        have hd3 : decide (48 ≤ (s[k].toNat : Int)) = true := decide_eq_true (by omega)
        have hd4 : decide ((s[k].toNat : Int) ≤ 90) = true := decide_eq_true (by omega)
        have hd5 : decide ((s[k].toNat : Int) ≤ 122) = true := decide_eq_true (by omega)
        have hd6 : decide ((s[k].toNat : Int) ≤ 57) = true := decide_eq_true (by omega)
        have hc3 : ((s[k].toNat : Int) == 95) = false := beq_eq_false_iff_ne.2 (by omega)
        have HY := Lib.hid (HN.out (HD.out.2 (by omega)))
        go_wp2
        go_round
        case rel => exact ⟨k + 1, by omega, by go_num, HY.out⟩
        case measure => simp [intOf]; omega
      · have hd1 : decide (65 ≤ (s[k].toNat : Int)) = false := decide_eq_false (by omega)
        have hd2 : decide (97 ≤ (s[k].toNat : Int)) = false := decide_eq_false (by omega)
        have hd3 : decide (48 ≤ (s[k].toNat : Int)) = true := decide_eq_true (by omega)
        have hd4 : decide ((s[k].toNat : Int) ≤ 90) = true := decide_eq_true (by omega)
        have hd5 : decide ((s[k].toNat : Int) ≤ 122) = true := decide_eq_true (by omega)
        have hd6 : decide ((s[k].toNat : Int) ≤ 57) = false := decide_eq_false (by omega)
        have hc3 : ((s[k].toNat : Int) == 95) = false := beq_eq_false_iff_ne.2 (by omega)
        have HY := Lib.hid (HB.out (fun h => by have h9 := HD.out.1 h; omega))
        go_wp2
        go_ret
        exact ⟨ret_bool HY.out.symm, rfl⟩
      · have hd1 : decide (65 ≤ (s[k].toNat : Int)) = true := decide_eq_true (by omega)
        have hd2 : decide (97 ≤ (s[k].toNat : Int)) = false := decide_eq_false (by omega)
        have hd3 : decide (48 ≤ (s[k].toNat : Int)) = true := decide_eq_true (by omega)
        have hd4 : decide ((s[k].toNat : Int) ≤ 90) = true := decide_eq_true (by omega)
        have hd5 : decide ((s[k].toNat : Int) ≤ 122) = true := decide_eq_true (by omega)
        have hd6 : decide ((s[k].toNat : Int) ≤ 57) = false := decide_eq_false (by omega)
        have hc3 : ((s[k].toNat : Int) == 95) = false := beq_eq_false_iff_ne.2 (by omega)
        have HY := Lib.hid (HN.out (HD.out.2 (by omega)))
        go_wp2
        go_round
        case rel => exact ⟨k + 1, by omega, by go_num, HY.out⟩
        case measure => simp [intOf]; omega
      · have hd1 : decide (65 ≤ (s[k].toNat : Int)) = true := decide_eq_true (by omega)
        have hd2 : decide (97 ≤ (s[k].toNat : Int)) = false := decide_eq_false (by omega)
        have hd3 : decide (48 ≤ (s[k].toNat : Int)) = true := decide_eq_true (by omega)
        have hd4 : decide ((s[k].toNat : Int) ≤ 90) = false := decide_eq_false (by omega)
        have hd5 : decide ((s[k].toNat : Int) ≤ 122) = true := decide_eq_true (by omega)
        have hd6 : decide ((s[k].toNat : Int) ≤ 57) = false := decide_eq_false (by omega)
        have hc3 : ((s[k].toNat : Int) == 95) = false := beq_eq_false_iff_ne.2 (by omega)
        have HY := Lib.hid (HB.out (fun h => by have h9 := HD.out.1 h; omega))
        go_wp2
        go_ret
        exact ⟨ret_bool HY.out.symm, rfl⟩
      · have hd1 : decide (65 ≤ (s[k].toNat : Int)) = true := decide_eq_true (by omega)
        have hd2 : decide (97 ≤ (s[k].toNat : Int)) = false := decide_eq_false (by omega)
        have hd3 : decide (48 ≤ (s[k].toNat : Int)) = true := decide_eq_true (by omega)
        have hd4 : decide ((s[k].toNat : Int) ≤ 90) = false := decide_eq_false (by omega)
        have hd5 : decide ((s[k].toNat : Int) ≤ 122) = true := decide_eq_true (by omega)
        have hd6 : decide ((s[k].toNat : Int) ≤ 57) = false := decide_eq_false (by omega)
        have hc3 : ((s[k].toNat : Int) == 95) = true := beq_iff_eq.2 (by omega)
        have HY := Lib.hid (HN.out (HD.out.2 (by omega)))
        go_wp2
        go_round
        case rel => exact ⟨k + 1, by omega, by go_num, HY.out⟩
        case measure => simp [intOf]; omega
      · have hd1 : decide (65 ≤ (s[k].toNat : Int)) = true := decide_eq_true (by omega)
        have hd2 : decide (97 ≤ (s[k].toNat : Int)) = false := decide_eq_false (by omega)
        have hd3 : decide (48 ≤ (s[k].toNat : Int)) = true := decide_eq_true (by omega)
        have hd4 : decide ((s[k].toNat : Int) ≤ 90) = false := decide_eq_false (by omega)
        have hd5 : decide ((s[k].toNat : Int) ≤ 122) = true := decide_eq_true (by omega)
        have hd6 : decide ((s[k].toNat : Int) ≤ 57) = false := decide_eq_false (by omega)
        have hc3 : ((s[k].toNat : Int) == 95) = false := beq_eq_false_iff_ne.2 (by omega)
        have HY := Lib.hid (HB.out (fun h => by have h9 := HD.out.1 h; omega))
        go_wp2
        go_ret
        exact ⟨ret_bool HY.out.symm, rfl⟩
      · have hd1 : decide (65 ≤ (s[k].toNat : Int)) = true := decide_eq_true (by omega)
        have hd2 : decide (97 ≤ (s[k].toNat : Int)) = true := decide_eq_true (by omega)
        have hd3 : decide (48 ≤ (s[k].toNat : Int)) = true := decide_eq_true (by omega)
        have hd4 : decide ((s[k].toNat : Int) ≤ 90) = false := decide_eq_false (by omega)
        have hd5 : decide ((s[k].toNat : Int) ≤ 122) = true := decide_eq_true (by omega)
        have hd6 : decide ((s[k].toNat : Int) ≤ 57) = false := decide_eq_false (by omega)
        have hc3 : ((s[k].toNat : Int) == 95) = false := beq_eq_false_iff_ne.2 (by omega)
        have HY := Lib.hid (HN.out (HD.out.2 (by omega)))
        go_wp2
        go_round
        case rel => exact ⟨k + 1, by omega, by go_num, HY.out⟩
        case measure => simp [intOf]; omega
      · have hd1 : decide (65 ≤ (s[k].toNat : Int)) = true := decide_eq_true (by omega)
        have hd2 : decide (97 ≤ (s[k].toNat : Int)) = true := decide_eq_true (by omega)
        have hd3 : decide (48 ≤ (s[k].toNat : Int)) = true := decide_eq_true (by omega)
        have hd4 : decide ((s[k].toNat : Int) ≤ 90) = false := decide_eq_false (by omega)
        have hd5 : decide ((s[k].toNat : Int) ≤ 122) = false := decide_eq_false (by omega)
        have hd6 : decide ((s[k].toNat : Int) ≤ 57) = false := decide_eq_false (by omega)
        have hc3 : ((s[k].toNat : Int) == 95) = false := beq_eq_false_iff_ne.2 (by omega)
        have HY := Lib.hid (HB.out (fun h => by have h9 := HD.out.1 h; omega))
        go_wp2
        go_ret
        exact ⟨ret_bool HY.out.symm, rfl⟩
    · have HF := Lib.hid (nameOk_all (fun j hj => HA.out j hj (by omega)))
      by_cases h1 : s.size = 0
      · have h0 : s.toList = [] := str_nil h1
        have e1 := Lib.hid h1
        have hz : s.size < 1 := by omega
        clear h1
        go_wp2
        go_ret
        exact ⟨ret_bool (by rw [HF.out, e1.out]; rfl), rfl⟩
      · have h0 : ¬ s.toList = [] := str_cons h1
        have h0' : s.toList.isEmpty = false := by simpa using h0
        by_cases h2 : s.size ≤ 32
        · go_wp2
          go_ret
          exact ⟨ret_bool (by rw [HF.out, decide_eq_true (show 1 ≤ s.size by omega)]; first | (rw [decide_eq_true (show s.size ≤ 32 by omega)]; simp; done) | (rw [decide_eq_false (show ¬ s.size ≤ 32 by omega)]; simp; done) | (simp; omega)), rfl⟩
        · go_wp2
          go_ret
          exact ⟨ret_bool (by rw [HF.out, decide_eq_true (show 1 ≤ s.size by omega)]; first | (rw [decide_eq_true (show s.size ≤ 32 by omega)]; simp; done) | (rw [decide_eq_false (show ¬ s.size ≤ 32 by omega)]; simp; done) | (simp; omega)), rfl⟩

end Go.Proofs.Ytpamkbbmbeeheaa
