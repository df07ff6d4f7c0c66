/- Contracts of mapping.isName, compare and keyOf, of cmp.Compare at strings and of cmp.Or at two ints. Written by gen_mapa.py. -/
import Derived.Test.YtpamkbbmbeeheaaMap
import Derived.Test.YtpamkbbmbeeheaaCmp
import Derived.Test.YtpamkbbmbeeheaaBox
import Derived.WalkLawsBesides
import Derived.DeepKeys4
namespace Go.Proofs.Ytpamkbbmbeeheaa
open Go.RowKit Go.Maps Go.WideMaps

set_option maxHeartbeats 3200000 in
theorem mapName_any (s : ByteArray) (w : World) (hs : s.size ≤ 9223372036854775807) :
    Calls Try.prog 70 #[.string s] w fun e w' => e = .returned (.bool (nameOk s)) ∧ w = w' := by
  by_cases h1 : s.size = 0
  · have h0 : s.toList = [] := str_nil h1
    have hn : nameOk s = false := by unfold nameOk; simp [h1]
    rw [hn]
    go_enter Try.func70, Try.ntmps70
    go_wp2
    go_ret
    exact ⟨rfl, rfl⟩
  have h0 : ¬ s.toList = [] := str_cons h1
  have h0' : s.toList.isEmpty = false := by simpa using h0
  by_cases h2 : 32 < s.size
  · have hn : nameOk s = false := by
      unfold nameOk
      have : ¬ s.size ≤ 32 := by omega
      simp [this]
    rw [hn]
    have q1 : decide ((32 : Int) < (s.size : Int)) = true := by simp; omega
    go_enter Try.func70, Try.ntmps70
    go_wp2
    go_ret
    exact ⟨rfl, rfl⟩
  have q1 : decide ((32 : Int) < (s.size : Int)) = false := by simp; omega
  have HB0 := Lib.hid (fun k (hk : k < s.size) h => nameOk_bad hk h)
  have HF := Lib.hid (fun h => show nameOk s = true by rw [nameOk_all (s := s) h, decide_eq_true (show 1 ≤ s.size by omega), decide_eq_true (show s.size ≤ 32 by omega)]; rfl)
  generalize nameOk s = R at *
  go_enter Try.func70, Try.ntmps70
  go_wp2
  go_loop [15] (fun i => ∃ k : Nat, k ≤ s.size ∧ i = .int .i64 k ∧ ∀ j, (hj : j < s.size) → j < k → nmc (s[j].toNat : Int)) (fun i => s.size - (intOf i).toNat)
  case atStart => exact ⟨0, Nat.zero_le _, rfl, fun j _ h => by omega⟩
  case round =>
    obtain ⟨k, hk, rfl, hall⟩ := hrel
    have HA := Lib.hid hall; clear hall
    by_cases hlt : k < s.size
    · have HB := Lib.hid (fun h => HB0.out k hlt h)
      have HN := Lib.hid (fun (h : nmc (s[k].toNat : Int)) => show ∀ j, (hj : j < s.size) → j < k + 1 → nmc (s[j].toNat : Int) from fun j hj hj2 => by
        by_cases e : j < k
        · exact HA.out j hj e
        · obtain rfl : j = k := by omega
          exact h)
      have HD := Lib.hid (show nmc (s[k].toNat : Int) ↔ ((65 ≤ (s[k].toNat : Int) ∧ (s[k].toNat : Int) ≤ 90) ∨ (97 ≤ (s[k].toNat : Int) ∧ (s[k].toNat : Int) ≤ 122) ∨ (48 ≤ (s[k].toNat : Int) ∧ (s[k].toNat : Int) ≤ 57) ∨ (s[k].toNat : Int) = 95) from Iff.rfl)
      have hlt8 := s[k].toNat_lt
      obtain ⟨hc1, hc2⟩ | ⟨hc1, hc2⟩ | ⟨hc1, hc2⟩ | ⟨hc1, hc2⟩ | ⟨hc1, hc2⟩ | ⟨hc1, hc2⟩ | ⟨hc1, hc2⟩ | ⟨hc1, hc2⟩ | ⟨hc1, hc2⟩ : (0 ≤ (s[k].toNat : Int) ∧ (s[k].toNat : Int) ≤ 47) ∨ (48 ≤ (s[k].toNat : Int) ∧ (s[k].toNat : Int) ≤ 57) ∨ (58 ≤ (s[k].toNat : Int) ∧ (s[k].toNat : Int) ≤ 64) ∨ (65 ≤ (s[k].toNat : Int) ∧ (s[k].toNat : Int) ≤ 90) ∨ (91 ≤ (s[k].toNat : Int) ∧ (s[k].toNat : Int) ≤ 94) ∨ (95 ≤ (s[k].toNat : Int) ∧ (s[k].toNat : Int) ≤ 95) ∨ (96 ≤ (s[k].toNat : Int) ∧ (s[k].toNat : Int) ≤ 96) ∨ (97 ≤ (s[k].toNat : Int) ∧ (s[k].toNat : Int) ≤ 122) ∨ (123 ≤ (s[k].toNat : Int) ∧ (s[k].toNat : Int) ≤ 255) := by omega
      · have hd1 : decide (65 ≤ (s[k].toNat : Int)) = false := decide_eq_false (by omega)
        have hd2 : decide (97 ≤ (s[k].toNat : Int)) = false := decide_eq_false (by omega)
        have hd3 : decide (48 ≤ (s[k].toNat : Int)) = false := decide_eq_false (by omega)
        have hd4 : decide ((s[k].toNat : Int) ≤ 90) = true := decide_eq_true (by omega)
        have hd5 : decide ((s[k].toNat : Int) ≤ 122) = true := decide_eq_true (by omega)
        have hd6 : decide ((s[k].toNat : Int) ≤ 57) = true := decide_eq_true (by omega)
        have hc3 : ((s[k].toNat : Int) != 95) = true := bne_iff_ne.2 (by omega)
        have HY := Lib.hid (HB.out (fun h => by have h9 := HD.out.1 h; omega))
        go_wp2
        go_ret
        exact ⟨ret_bool HY.out.symm, rfl⟩
      · have hd1 : decide (65 ≤ (s[k].toNat : Int)) = false := decide_eq_false (by omega)
        have hd2 : decide (97 ≤ (s[k].toNat : Int)) = false := decide_eq_false (by omega)
        have hd3 : decide (48 ≤ (s[k].toNat : Int)) = true := decide_eq_true (by omega)
        have hd4 : decide ((s[k].toNat : Int) ≤ 90) = true := decide_eq_true (by omega)
        have hd5 : decide ((s[k].toNat : Int) ≤ 122) = true := decide_eq_true (by omega)
        have hd6 : decide ((s[k].toNat : Int) ≤ 57) = true := decide_eq_true (by omega)
        have hc3 : ((s[k].toNat : Int) != 95) = true := bne_iff_ne.2 (by omega)
        have HY := Lib.hid (HN.out (HD.out.2 (by omega)))
        go_wp2
        go_round
        case rel => exact ⟨k + 1, by omega, by go_num, HY.out⟩
        case measure => simp [intOf]; omega
      · have hd1 : decide (65 ≤ (s[k].toNat : Int)) = false := decide_eq_false (by omega)
        have hd2 : decide (97 ≤ (s[k].toNat : Int)) = false := decide_eq_false (by omega)
        have hd3 : decide (48 ≤ (s[k].toNat : Int)) = true := decide_eq_true (by omega)
        have hd4 : decide ((s[k].toNat : Int) ≤ 90) = true := decide_eq_true (by omega)
        have hd5 : decide ((s[k].toNat : Int) ≤ 122) = true := decide_eq_true (by omega)
        have hd6 : decide ((s[k].toNat : Int) ≤ 57) = false := decide_eq_false (by omega)
        have hc3 : ((s[k].toNat : Int) != 95) = true := bne_iff_ne.2 (by omega)
        have HY := Lib.hid (HB.out (fun h => by have h9 := HD.out.1 h; omega))
        go_wp2
        go_ret
        exact ⟨ret_bool HY.out.symm, rfl⟩
      · have hd1 : decide (65 ≤ (s[k].toNat : Int)) = true := decide_eq_true (by omega)
        have hd2 : decide (97 ≤ (s[k].toNat : Int)) = false := decide_eq_false (by omega)
        have hd3 : decide (48 ≤ (s[k].toNat : Int)) = true := decide_eq_true (by omega)
        have hd4 : decide ((s[k].toNat : Int) ≤ 90) = true := decide_eq_true (by omega)
        have hd5 : decide ((s[k].toNat : Int) ≤ 122) = true := decide_eq_true (by omega)
        have hd6 : decide ((s[k].toNat : Int) ≤ 57) = false := decide_eq_false (by omega)
        have hc3 : ((s[k].toNat : Int) != 95) = true := bne_iff_ne.2 (by omega)
        have HY := Lib.hid (HN.out (HD.out.2 (by omega)))
        go_wp2
        go_round
        case rel => exact ⟨k + 1, by omega, by go_num, HY.out⟩
        case measure => simp [intOf]; omega
      · have hd1 : decide (65 ≤ (s[k].toNat : Int)) = true := decide_eq_true (by omega)
        have hd2 : decide (97 ≤ (s[k].toNat : Int)) = false := decide_eq_false (by omega)
        have hd3 : decide (48 ≤ (s[k].toNat : Int)) = true := decide_eq_true (by omega)
        have hd4 : decide ((s[k].toNat : Int) ≤ 90) = false := decide_eq_false (by omega)
        have hd5 : decide ((s[k].toNat : Int) ≤ 122) = true := decide_eq_true (by omega)
        have hd6 : decide ((s[k].toNat : Int) ≤ 57) = false := decide_eq_false (by omega)
        have hc3 : ((s[k].toNat : Int) != 95) = true := bne_iff_ne.2 (by omega)
        have HY := Lib.hid (HB.out (fun h => by have h9 := HD.out.1 h; omega))
        go_wp2
        go_ret
        exact ⟨ret_bool HY.out.symm, rfl⟩
      · have hd1 : decide (65 ≤ (s[k].toNat : Int)) = true := decide_eq_true (by omega)
        have hd2 : decide (97 ≤ (s[k].toNat : Int)) = false := decide_eq_false (by omega)
        have hd3 : decide (48 ≤ (s[k].toNat : Int)) = true := decide_eq_true (by omega)
        have hd4 : decide ((s[k].toNat : Int) ≤ 90) = false := decide_eq_false (by omega)
        have hd5 : decide ((s[k].toNat : Int) ≤ 122) = true := decide_eq_true (by omega)
        have hd6 : decide ((s[k].toNat : Int) ≤ 57) = false := decide_eq_false (by omega)
        have hc3 : ((s[k].toNat : Int) != 95) = false := bne_eq_false_iff_eq.2 (by omega)
        have HY := Lib.hid (HN.out (HD.out.2 (by omega)))
        go_wp2
        go_round
        case rel => exact ⟨k + 1, by omega, by go_num, HY.out⟩
        case measure => simp [intOf]; omega
      · have hd1 : decide (65 ≤ (s[k].toNat : Int)) = true := decide_eq_true (by omega)
        have hd2 : decide (97 ≤ (s[k].toNat : Int)) = false := decide_eq_false (by omega)
        have hd3 : decide (48 ≤ (s[k].toNat : Int)) = true := decide_eq_true (by omega)
        have hd4 : decide ((s[k].toNat : Int) ≤ 90) = false := decide_eq_false (by omega)
        have hd5 : decide ((s[k].toNat : Int) ≤ 122) = true := decide_eq_true (by omega)
        have hd6 : decide ((s[k].toNat : Int) ≤ 57) = false := decide_eq_false (by omega)
        have hc3 : ((s[k].toNat : Int) != 95) = true := bne_iff_ne.2 (by omega)
        have HY := Lib.hid (HB.out (fun h => by have h9 := HD.out.1 h; omega))
        go_wp2
        go_ret
        exact ⟨ret_bool HY.out.symm, rfl⟩
      · have hd1 : decide (65 ≤ (s[k].toNat : Int)) = true := decide_eq_true (by omega)
        have hd2 : decide (97 ≤ (s[k].toNat : Int)) = true := decide_eq_true (by omega)
        have hd3 : decide (48 ≤ (s[k].toNat : Int)) = true := decide_eq_true (by omega)
        have hd4 : decide ((s[k].toNat : Int) ≤ 90) = false := decide_eq_false (by omega)
        have hd5 : decide ((s[k].toNat : Int) ≤ 122) = true := decide_eq_true (by omega)
        have hd6 : decide ((s[k].toNat : Int) ≤ 57) = false := decide_eq_false (by omega)
        have hc3 : ((s[k].toNat : Int) != 95) = true := bne_iff_ne.2 (by omega)
        have HY := Lib.hid (HN.out (HD.out.2 (by omega)))
        go_wp2
        go_round
        case rel => exact ⟨k + 1, by omega, by go_num, HY.out⟩
        case measure => simp [intOf]; omega
      · have hd1 : decide (65 ≤ (s[k].toNat : Int)) = true := decide_eq_true (by omega)
        have hd2 : decide (97 ≤ (s[k].toNat : Int)) = true := decide_eq_true (by omega)
        have hd3 : decide (48 ≤ (s[k].toNat : Int)) = true := decide_eq_true (by omega)
        have hd4 : decide ((s[k].toNat : Int) ≤ 90) = false := decide_eq_false (by omega)
        have hd5 : decide ((s[k].toNat : Int) ≤ 122) = false := decide_eq_false (by omega)
        have hd6 : decide ((s[k].toNat : Int) ≤ 57) = false := decide_eq_false (by omega)
        have hc3 : ((s[k].toNat : Int) != 95) = true := bne_iff_ne.2 (by omega)
        have HY := Lib.hid (HB.out (fun h => by have h9 := HD.out.1 h; omega))
        go_wp2
        go_ret
        exact ⟨ret_bool HY.out.symm, rfl⟩
    · obtain rfl := HF.out (fun j hj => HA.out j hj (by omega))
      go_wp2
      go_ret
      exact ⟨rfl, rfl⟩

theorem isNaNs_any (x : ByteArray) (w : World) : Calls Try.prog 83 #[.string x] w fun e w' => e = .returned (.bool false) ∧ w = w' := by
  go_enter Try.func83, Try.ntmps83
  go_wp2
  go_ret
  exact ⟨by simp, rfl⟩

theorem cmpCompareS_any (x y : ByteArray) (w : World) : Calls Try.prog 73 #[.string x, .string y] w fun e w' => e = .returned (.int .i64 (cmpS x y)) ∧ w = w' := by
  unfold cmpS
  have E0 := Lib.hid (fun h1 h2 => show (x.toList == y.toList) = true by rw [bl_total (a := x) (b := y) h1 h2]; simp)
  have E1 := Lib.hid (fun (h2 : bl y x = true) => show (x.toList == y.toList) = false from str_eqF (fun e => by rw [e, bl_self] at h2; cases h2))
  unfold bl at *
  cases h1 : Op.bytesLess x.toList y.toList
  · cases h2 : Op.bytesLess y.toList x.toList
    · have q := E0.out h1 h2
      simp only [Bool.false_eq_true, if_false]
      go_enter Try.func73, Try.ntmps73
      go_wp2_with (go_at_call 83; refine (isNaNs_any _ _).mono ?_; rintro e w' ⟨rfl, rfl⟩)
      go_ret
      exact ⟨rfl, rfl⟩
    · have q := E1.out h2
      simp only [Bool.false_eq_true, if_false, if_true]
      go_enter Try.func73, Try.ntmps73
      go_wp2_with (go_at_call 83; refine (isNaNs_any _ _).mono ?_; rintro e w' ⟨rfl, rfl⟩)
      go_ret
      exact ⟨rfl, rfl⟩
  · simp only [if_true]
    go_enter Try.func73, Try.ntmps73
    go_wp2_with (go_at_call 83; refine (isNaNs_any _ _).mono ?_; rintro e w' ⟨rfl, rfl⟩)
    go_ret
    exact ⟨rfl, rfl⟩

def orI (x y : Int) : Int := if x = 0 then y else x
theorem or2_any (b : Nat) (c : Nat) (x y : Int) (w : World) (hA : Ints w (some ⟨b, 0, none⟩) [x, y]) :
    Calls Try.prog 71 #[.slice (some ⟨b, 0, none⟩) 2 c] w fun e w' => e = .returned (.int .i64 (orI x y)) ∧ w = w' := by
  obtain ⟨b', o', h0, hc⟩ := hA.at (k := 0) (by simp)
  injection h0 with h0
  injection h0 with h0 h1
  subst h0; subst h1
  have c0 := hc 0 (by simp)
  have c1 := hc 1 (by simp)
  simp only [List.getElem_cons_zero, List.getElem_cons_succ] at c0 c1
  clear hc hA
  have O1 := Lib.hid (fun (h : x ≠ 0) => show orI x y = x by unfold orI; rw [if_neg h])
  have O2 := Lib.hid (fun (h : x = 0) => show orI x y = y by unfold orI; rw [if_pos h])
  generalize orI x y = R at *
  go_enter Try.func71, Try.ntmps71
  go_wp2
  go_loop [8] (fun u => ∃ k : Nat, k ≤ 2 ∧ u = .int .i64 k ∧ (1 ≤ k → x = 0) ∧ (2 ≤ k → y = 0)) (fun u => 2 - (intOf u).toNat)
  case atStart => exact ⟨0, by omega, rfl, fun h => by omega, fun h => by omega⟩
  case round =>
    obtain ⟨k, hk, rfl, h1, h2⟩ := hrel
    have H1 := Lib.hid h1; have H2 := Lib.hid h2
    clear h1 h2
    obtain rfl | rfl | rfl : k = 0 ∨ k = 1 ∨ k = 2 := by omega
    · by_cases hx : x = 0
      · have q1 : (x != 0) = false := by simpa using hx
        have HX := Lib.hid hx
        clear hx
        go_wp2
        go_round
        case rel => exact ⟨1, by omega, rfl, fun _ => HX.out, fun h => by omega⟩
        case measure => simp [intOf]
      · have q1 : (x != 0) = true := by simpa using hx
        obtain rfl := O1.out hx
        clear hx
        go_wp2
        go_ret
        exact ⟨rfl, rfl⟩
    · have HX := Lib.hid (H1.out (by omega))
      by_cases hy : y = 0
      · have q1 : (y != 0) = false := by simpa using hy
        have HY := Lib.hid hy
        clear hy
        go_wp2
        go_round
        case rel => exact ⟨2, by omega, rfl, fun _ => HX.out, fun _ => HY.out⟩
        case measure => simp [intOf]
      · have q1 : (y != 0) = true := by simpa using hy
        obtain rfl := O2.out HX.out
        clear hy
        go_wp2
        go_ret
        exact ⟨rfl, rfl⟩
    · have e := O2.out (H1.out (by omega))
      have HR := Lib.hid (e.trans (H2.out (by omega)))
      clear e
      go_wp2
      go_ret
      exact ⟨ret_int HR.out.symm, rfl⟩

theorem cmpM_or (a b : Mp) : orI (cmpI a.frm b.frm) (cmpS a.tag b.tag) = cmpM a b := by
  unfold orI cmpI cmpM
  by_cases h1 : a.frm < b.frm
  · simp [h1]
  · by_cases h2 : b.frm < a.frm <;> simp [h1, h2]

set_option maxRecDepth 100000 in
set_option maxHeartbeats 3200000 in
theorem mapCompare_any (a b : Mp) (va vb : Value) (w : World) :
    Calls Try.prog 59 #[.agg #[.int .i64 a.frm, va, .string a.tag], .agg #[.int .i64 b.frm, vb, .string b.tag]] w (RetInt (cmpM a b) w) := by
  have B0 : Below w.heap.size w ((w.alloc (.cells #[.int .i64 a.frm, va, .string a.tag] 38)).alloc (.cells #[.int .i64 b.frm, vb, .string b.tag] 38)) := ((Below.refl _ _).alloc (Nat.le_refl _) _).alloc (by simp) _
  have s0 : ((w.alloc (.cells #[.int .i64 a.frm, va, .string a.tag] 38)).alloc (.cells #[.int .i64 b.frm, vb, .string b.tag] 38)).heap.size = w.heap.size + 2 := by simp
  have hS0 : (fun W' : World => W'.cell? ⟨w.heap.size, 0, none⟩ = some (.int .i64 a.frm) ∧ W'.cell? ⟨w.heap.size, 2, none⟩ = some (.string a.tag) ∧ W'.cell? ⟨w.heap.size + 1, 0, none⟩ = some (.int .i64 b.frm) ∧ W'.cell? ⟨w.heap.size + 1, 2, none⟩ = some (.string b.tag)) ((w.alloc (.cells #[.int .i64 a.frm, va, .string a.tag] 38)).alloc (.cells #[.int .i64 b.frm, vb, .string b.tag] 38)) := by refine ⟨?_, ?_, ?_, ?_⟩ <;> simp
  have W0E : ∃ W0, ((w.alloc (.cells #[.int .i64 a.frm, va, .string a.tag] 38)).alloc (.cells #[.int .i64 b.frm, vb, .string b.tag] 38)) = W0 := ⟨_, rfl⟩
  have CM := Lib.hid (cmpM_or a b)
  generalize cmpM a b = R at *
  obtain ⟨fa, ta, tga⟩ := a
  obtain ⟨fb, tb, tgb⟩ := b
  dsimp only at *
  go_enter Try.func59, Try.ntmps59
  go_wp2_with fail
  obtain ⟨W0, hW0⟩ := W0E
  rw [hW0] at B0 s0 hS0 ⊢
  clear hW0
  have hx0 : w.heap.size < W0.heap.size := by omega
  have hx1 : w.heap.size + 1 < W0.heap.size := by omega
  refine wp_region_held_drew (S := fun W' => W'.cell? ⟨w.heap.size, 0, none⟩ = some (.int .i64 fa) ∧ W'.cell? ⟨w.heap.size, 2, none⟩ = some (.string tga) ∧ W'.cell? ⟨w.heap.size + 1, 0, none⟩ = some (.int .i64 fb) ∧ W'.cell? ⟨w.heap.size + 1, 2, none⟩ = some (.string tgb)) (by kernel_rfl) hS0 (fun hHeld => ?_)
  refine anyH_take (i := 0) (v := ?_) (some 5) rfl rfl (by kernel_rfl) (by kernel_rfl) (by kernel_rfl) (fun _ _ _ h => h) (by rfl) (by assumption) ?_ ?_
  rotate_left
  · intro w hSw; (try dsimp only at hSw); go_split_ands; go_simp; try (with_reducible rfl)
  try simp only [Act.put, List.setIfInBounds_toArray, List.set_cons_zero, List.set_cons_succ]
  refine anyH_take (i := 1) (v := ?_) (some 6) rfl rfl (by kernel_rfl) (by kernel_rfl) (by kernel_rfl) (fun _ _ _ h => h) (by rfl) (by assumption) ?_ ?_
  rotate_left
  · intro w hSw; (try dsimp only at hSw); go_split_ands; go_simp; try (with_reducible rfl)
  try simp only [Act.put, List.setIfInBounds_toArray, List.set_cons_zero, List.set_cons_succ]
  refine anyH_take (i := 2) (v := ?_) (some 7) rfl rfl (by kernel_rfl) (by kernel_rfl) (by kernel_rfl) (fun _ _ _ h => h) (by rfl) (by assumption) ?_ ?_
  rotate_left
  · intro w hSw; (try dsimp only at hSw); go_split_ands; go_simp; try (with_reducible rfl)
  try simp only [Act.put, List.setIfInBounds_toArray, List.set_cons_zero, List.set_cons_succ]
  refine anyH_take (i := 3) (v := ?_) (some 8) rfl rfl (by kernel_rfl) (by kernel_rfl) (by kernel_rfl) (fun _ _ _ h => h) (by rfl) (by assumption) ?_ ?_
  rotate_left
  · intro w hSw; (try dsimp only at hSw); go_split_ands; go_simp; try (with_reducible rfl)
  try simp only [Act.put, List.setIfInBounds_toArray, List.set_cons_zero, List.set_cons_succ]
  refine anyH_take (i := 5) (v := ?_) (some 10) rfl rfl (by kernel_rfl) (by kernel_rfl) (by kernel_rfl) (fun _ _ _ h => h) (by rfl) (by assumption) ?_ ?_
  rotate_left
  · intro w hSw; (try dsimp only at hSw); go_split_ands; go_simp; try (with_reducible rfl)
  try simp only [Act.put, List.setIfInBounds_toArray, List.set_cons_zero, List.set_cons_succ]
  refine anyH_take (i := 6) (v := ?_) (some 11) rfl rfl (by kernel_rfl) (by kernel_rfl) (by kernel_rfl) (fun _ _ _ h => h) (by rfl) (by assumption) ?_ ?_
  rotate_left
  · intro w hSw; (try dsimp only at hSw); go_split_ands; go_simp; try (with_reducible rfl)
  try simp only [Act.put, List.setIfInBounds_toArray, List.set_cons_zero, List.set_cons_succ]
  refine anyH_take (i := 7) (v := ?_) (some 12) rfl rfl (by kernel_rfl) (by kernel_rfl) (by kernel_rfl) (fun _ _ _ h => h) (by rfl) (by assumption) ?_ ?_
  rotate_left
  · intro w hSw; (try dsimp only at hSw); go_split_ands; go_simp; try (with_reducible rfl)
  try simp only [Act.put, List.setIfInBounds_toArray, List.set_cons_zero, List.set_cons_succ]
  refine anyH_take (i := 8) (v := ?_) (some 13) rfl rfl (by kernel_rfl) (by kernel_rfl) (by kernel_rfl) (fun _ _ _ h => h) (by rfl) (by assumption) ?_ ?_
  rotate_left
  · intro w hSw; (try dsimp only at hSw); go_split_ands; go_simp; try (with_reducible rfl)
  try simp only [Act.put, List.setIfInBounds_toArray, List.set_cons_zero, List.set_cons_succ]
  refine anyH_callR (R := fun W' => W0.drew = W') (i := 4) (some 9) rfl rfl (by kernel_rfl) (by rfl) (by go_simp) ((cmpCompare_any fa fb W0.drew).mono (R' := fun e w' => e = .returned (.int .i64 (cmpI fa fb)) ∧ _ ∧ W0.drew = w') (fun e w' ⟨he, hw⟩ => ⟨he, by subst hw; exact hHeld, hw⟩)) (fun w6 hS6 hR6 => ?_)
  subst hR6
  clear hS6
  try simp only [Act.put, List.setIfInBounds_toArray, List.set_cons_zero, List.set_cons_succ]
  refine anyH_callR (R := fun W' => W0.drew = W') (i := 9) (some 14) rfl rfl (by kernel_rfl) (by rfl) (by go_simp) ((cmpCompareS_any tga tgb W0.drew).mono (R' := fun e w' => e = .returned (.int .i64 (cmpS tga tgb)) ∧ _ ∧ W0.drew = w') (fun e w' ⟨he, hw⟩ => ⟨he, by subst hw; exact hHeld, hw⟩)) (fun w6 hS6 hR6 => ?_)
  subst hR6
  clear hS6
  try simp only [Act.put, List.setIfInBounds_toArray, List.set_cons_zero, List.set_cons_succ]
  generalize cmpI fa fb = x at *
  generalize cmpS tga tgb = y at *
  have B1 : Below W0.heap.size W0 (W0.drew.alloc (.cells #[.int .i64 x, .int .i64 y] 3)) := ((Below.refl _ _).drew).alloc (Nat.le_refl _) _
  have hS1 : (fun W' : World => W'.cell? ⟨w.heap.size, 0, none⟩ = some (.int .i64 fa) ∧ W'.cell? ⟨w.heap.size, 2, none⟩ = some (.string tga) ∧ W'.cell? ⟨w.heap.size + 1, 0, none⟩ = some (.int .i64 fb) ∧ W'.cell? ⟨w.heap.size + 1, 2, none⟩ = some (.string tgb)) (W0.drew.alloc (.cells #[.int .i64 x, .int .i64 y] 3)) := ⟨(B1.cell (p := ⟨w.heap.size, 0, none⟩) hx0).trans hHeld.1, (B1.cell (p := ⟨w.heap.size, 2, none⟩) hx0).trans hHeld.2.1, (B1.cell (p := ⟨w.heap.size + 1, 0, none⟩) hx1).trans hHeld.2.2.1, (B1.cell (p := ⟨w.heap.size + 1, 2, none⟩) hx1).trans hHeld.2.2.2⟩
  have I1 := Ints_new W0.drew [x, y] 3 rfl
  refine anyH_val (w' := W0.drew.alloc (.cells #[.int .i64 x, .int .i64 y] 3)) (v := .slice (some ⟨W0.drew.heap.size, 0, none⟩) 2 2) (i := 10) (some 15) rfl rfl (by kernel_rfl) (by rfl) (by go_simp) hS1 ?_
  try simp only [Act.put, List.setIfInBounds_toArray, List.set_cons_zero, List.set_cons_succ]
  refine anyH_callR (R := fun W' => W0.drew.alloc (.cells #[.int .i64 x, .int .i64 y] 3) = W') (i := 11) (some 16) rfl rfl (by kernel_rfl) (by rfl) (by go_simp) ((or2_any _ 2 x y _ I1).mono (R' := fun e w' => e = .returned (.int .i64 (orI x y)) ∧ _ ∧ W0.drew.alloc (.cells #[.int .i64 x, .int .i64 y] 3) = w') (fun e w' ⟨he, hw⟩ => ⟨he, by subst hw; exact hS1, hw⟩)) (fun w6 hS6 hR6 => ?_)
  subst hR6
  try simp only [Act.put, List.setIfInBounds_toArray, List.set_cons_zero, List.set_cons_succ]
  refine anyH_take (i := 12) (v := ?_) (some 4) rfl rfl (by kernel_rfl) (by kernel_rfl) (by kernel_rfl) (fun _ _ _ h => h) (by rfl) (by assumption) ?_ ?_
  rotate_left
  · intro w hSw; (try dsimp only at hSw); go_split_ands; go_simp; try (with_reducible rfl)
  try simp only [Act.put, List.setIfInBounds_toArray, List.set_cons_zero, List.set_cons_succ]
  refine wpAnyH_done (by kernel_rfl) ?_ _
  go_wp2_with fail
  go_ret
  exact ⟨ret_int CM.out, B0.trans (B1.mono B0.size)⟩

/-- a mapping's key -/
def keyV2 (x : Int × ByteArray) : Value := .agg #[.int .i64 x.1, .string x.2]
theorem results_mkey (tmps : Array Value) (w : World) {b : Nat} {z0 : Int} {s1 : ByteArray} (ha : tmps.getD 2 undef = .pointer (some ⟨b, 0, none⟩))
    (c0 : w.cell? ⟨b, 0, none⟩ = some (.int .i64 z0)) (c1 : w.cell? ⟨b, 1, none⟩ = some (.string s1)) :
    (results Try.f60 tmps).run Try.prog w = .ok (.agg #[.int .i64 z0, .string s1]) w := by
  have hr : Try.f60.results = #[.cell 2 80] := rfl
  unfold results
  rw [hr]
  simp only [ha, List.mapM_toArray, List.mapM_cons, List.mapM_nil, asAddr]
  go_simp

set_option maxRecDepth 100000 in
theorem mapKeyOf_any (a : Mp) (va : Value) (w : World) :
    Calls Try.prog 60 #[.agg #[.int .i64 a.frm, va, .string a.tag]] w (fun e w' => e = .returned (keyV2 (keyM a)) ∧ Below w.heap.size w w') := by
  go_enter Try.func60, Try.ntmps60
  go_wp2_with fail
  (try simp only [Exit.inBlock, Exit.then]); refine bodyPost_ret (results_mkey _ _ (b := w.heap.size + 1) (z0 := a.frm) (s1 := a.tag) rfl (by go_simp) (by go_simp)) rfl ?_
  exact ⟨rfl, ((Below.refl _ _).alloc (Nat.le_refl _) _).alloc (by simp) _⟩

/-! keys in a map -/
theorem law_mkey : Keyed Try.prog 80 := Keyed.of_law (deep_law_laid (by kernel_rfl) (m := 2) (by omega) (of_decide_eq_true (by kernel_rfl)) (by kernel_rfl) (by kernel_rfl))
noncomputable def mlit (x : Int × ByteArray) : Lit := (keyOf Try.prog 80 (keyV2 x)).getD (.bool false)
def mok (x : Int × ByteArray) : Prop := (Lit.int .i64 x.1).wf = true ∧ x.2.size ≤ maxLen
theorem mkey_some {x : Int × ByteArray} (h : mok x) : keyOf Try.prog 80 (keyV2 x) = some (mlit x) := by
  have h9 : (keyOf Try.prog 80 (keyV2 x)).isSome = true := by
    obtain ⟨f, t⟩ := x
    obtain ⟨h1, h2⟩ := h
    dsimp only at h1 h2
    have hk : Try.prog.keyType 80 = true := by kernel_rfl
    have hu := Try.underlying80
    have hi := Try.underlying3
    have hs := Try.underlying9
    have hc2 : Try.prog.cellsOf 80 = 2 := by kernel_rfl
    have hc1 : Try.prog.cellsOf 3 = 1 := by kernel_rfl
    have hc3 : Try.prog.cellsOf 9 = 1 := by kernel_rfl
    obtain ⟨m, hm⟩ : ∃ m, Try.prog.types.size = m + 1 := ⟨Try.prog.types.size - 1, by kernel_rfl⟩
    unfold keyOf keyV2
    rw [hu]
    simp only [hk, hm, Value.formed, hu, hc2]
    unfold Program.keyLits
    rw [hu]
    simp only [hc2]
    simp [Program.keyLits, hi, hs, hc1, hc3, h1, h2, Value.cells]
  unfold mlit
  cases hk : keyOf Try.prog 80 (keyV2 x) with
  | none => rw [hk] at h9; cases h9
  | some y => rfl
theorem mlit_inj {x y : Int × ByteArray} (hx : mok x) (hy : mok y) (h : mlit x = mlit y) : x = y := by
  have a := mkey_some hx
  have b := mkey_some hy
  rw [h] at a
  have := law_mkey.inj a b
  obtain ⟨x1, x2⟩ := x
  obtain ⟨y1, y2⟩ := y
  unfold keyV2 at this
  simp at this
  rw [this.1, this.2]
noncomputable instance (x : Int × ByteArray) (l : List (Int × ByteArray)) : Decidable (x ∈ l) := Classical.propDecidable _
/-- the set of keys -/
noncomputable def setM (l : List (Int × ByteArray)) (x : Int × ByteArray) : Option Value := if x ∈ l then some (.bool true) else none
theorem setM_yes {l : List (Int × ByteArray)} {s : Int × ByteArray} (h : s ∈ l) : (setM l s).getD (.bool false) = .bool true := by unfold setM; rw [if_pos h]; rfl
theorem setM_no {l : List (Int × ByteArray)} {s : Int × ByteArray} (h : s ∉ l) : (setM l s).getD (.bool false) = .bool false := by unfold setM; rw [if_neg h]; rfl
theorem setM_put (l : List (Int × ByteArray)) (s x : Int × ByteArray) : setM (l ++ [s]) x = if x = s then some (.bool true) else setM l x := by
  unfold setM
  by_cases e : x = s
  · simp [e]
  · simp [e]
theorem zero_boolM (w : World) : (zeroValue 4).run Try.prog w = .ok (.bool false) w := by kernel_rfl

end Go.Proofs.Ytpamkbbmbeeheaa
