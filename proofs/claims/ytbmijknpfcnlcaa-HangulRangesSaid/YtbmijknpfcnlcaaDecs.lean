/- Contracts of hangul.Decompose (over hangul.parts) and of the reference's Decompose: both return the parts of a number. -/
import Derived.Test.YtbmijknpfcnlcaaComps
import Derived.Outline
namespace Go.Proofs.Ytbmijknpfcnlcaa
open Go.RowKit

/-- a slice of the ints zs is returned; nothing that was there has changed -/
def RetInts (zs : List Int) (w : World) (e : Ending) (w' : World) : Prop := ∃ A c, e = .returned (.slice A zs.length c) ∧ zs.length ≤ c ∧ Ints w' A zs ∧ Below w.heap.size w w'

theorem decomp_no {c : Int} (h : Hg.kind c < 4) : Hg.decomp c = [c] := by unfold Hg.decomp; rw [if_pos h]
theorem decomp_2 {c : Int} (h : Hg.kind c = 4) : Hg.decomp c = [0x1100 + (c - 0xAC00) / 28 / 21, 0x1161 + (c - 0xAC00) / 28 % 21] := by
  unfold Hg.decomp; rw [if_neg (by omega), if_pos (kind_is4 h).2.2]
theorem decomp_3 {c : Int} (h : Hg.kind c = 5) : Hg.decomp c = [0x1100 + (c - 0xAC00) / 28 / 21, 0x1161 + (c - 0xAC00) / 28 % 21, 0x11A8 + (c - 0xAC00) % 28 - 1] := by
  unfold Hg.decomp; rw [if_neg (by omega), if_neg (kind_is5 h).2.2]

/-- three ints are returned as an array -/
def RetArr3 (x y z : Int) (w : World) (e : Ending) (w' : World) : Prop := e = .returned (.agg #[.int .i64 x, .int .i64 y, .int .i64 z]) ∧ Below w.heap.size w w'

theorem parts_no (c : Int) (w : World) (h : Hg.kind c < 4) : Calls Try.prog 21 #[.int .i64 c] w (RetArr3 0 0 0 w) := by
  go_enter Try.func21, Try.ntmps21
  go_wp2_with (go_at_call 10; refine (Kind_any _ _).mono ?_; rintro e w' ⟨rfl, rfl⟩)
  refine bodyPost_ret (v := .agg #[.int .i64 0, .int .i64 0, .int .i64 0]) (by simp [results, Try.results21, go_sem]) rfl ⟨rfl, ?_⟩
  exact (Below.refl _ _).alloc (Nat.le_refl _) _

theorem parts_2 (c : Int) (w : World) (h : Hg.kind c = 4) : Calls Try.prog 21 #[.int .i64 c] w (RetArr3 (0x1100 + (c - 0xAC00) / 28 / 21) (0x1161 + (c - 0xAC00) / 28 % 21) 0 w) := by
  obtain ⟨b1, b2, b3⟩ := kind_is4 h
  go_enter Try.func21, Try.ntmps21
  go_wp2_with (go_at_call 10; refine (Kind_any _ _).mono ?_; rintro e w' ⟨rfl, rfl⟩)
  refine bodyPost_ret (v := .agg #[.int .i64 (0x1100 + (c - 0xAC00) / 28 / 21), .int .i64 (0x1161 + (c - 0xAC00) / 28 % 21), .int .i64 0]) (by simp [results, Try.results21, go_sem]) rfl ⟨rfl, ?_⟩
  exact ((Below.refl _ _).alloc (Nat.le_refl _) _).alloc (by simp) _

theorem parts_3 (c : Int) (w : World) (h : Hg.kind c = 5) : Calls Try.prog 21 #[.int .i64 c] w (RetArr3 (0x1100 + (c - 0xAC00) / 28 / 21) (0x1161 + (c - 0xAC00) / 28 % 21) (0x11A8 + (c - 0xAC00) % 28 - 1) w) := by
  obtain ⟨b1, b2, b3⟩ := kind_is5 h
  have b4 : 0 < (c - 0xAC00) % 28 := by omega
  clear b3
  go_enter Try.func21, Try.ntmps21
  go_wp2_with (go_at_call 10; refine (Kind_any _ _).mono ?_; rintro e w' ⟨rfl, rfl⟩)
  refine bodyPost_ret (v := .agg #[.int .i64 (0x1100 + (c - 0xAC00) / 28 / 21), .int .i64 (0x1161 + (c - 0xAC00) / 28 % 21), .int .i64 (0x11A8 + (c - 0xAC00) % 28 - 1)]) (by simp [results, Try.results21, go_sem]) rfl ⟨rfl, ?_⟩
  exact ((Below.refl _ _).alloc (Nat.le_refl _) _).alloc (by simp) _

theorem Decompose_any (c : Int) (w : World) : Calls Try.prog 13 #[.int .i64 c] w (RetInts (Hg.decomp c) w) := by
  obtain ⟨i0, hi, hz0, hz1, hz2⟩ := info_parts info_int
  have q3 := fun W x y z x' y' z' => run_equalIn_array3 (P := Try.prog) W 9998 38 3 .i64 i0 Try.underlying38 Try.underlying3 hi hz1 x y z x' y' z'
  clear hi hz0 hz1 hz2
  by_cases h : Hg.kind c < 4
  · rw [decomp_no h]
    have H := Lib.hid (fun W => parts_no c W h); clear h
    go_enter Try.func13, Try.ntmps13
    go_wp2_with (go_at_call 21; refine (H.out _).mono ?_; rintro e w1 ⟨rfl, hb⟩)
    go_ret
    exact ⟨_, _, rfl, Nat.le_refl _, Ints_new _ [_] _ (by simp), (hb.alloc hb.size _).alloc (by have := hb.size; simp; omega) _⟩
  · by_cases h4 : Hg.kind c = 4
    · rw [decomp_2 h4]
      have hc := kind_is4 h4
      have h1 : (0x1100 + (c - 0xAC00) / 28 / 21 == 0) = false := by simp; omega
      have H := Lib.hid (fun W => parts_2 c W h4); clear h h4 hc
      generalize 0x1100 + (c - 0xAC00) / 28 / 21 = x at *
      generalize 0x1161 + (c - 0xAC00) / 28 % 21 = y at *
      go_enter Try.func13, Try.ntmps13
      go_wp2_with (go_at_call 21; refine (H.out _).mono ?_; rintro e w1 ⟨rfl, hb⟩)
      go_ret
      exact ⟨_, _, rfl, Nat.le_refl _, Ints_new _ [_, _] _ (by simp), (hb.alloc hb.size _).alloc (by have := hb.size; simp; omega) _⟩
    · have h5 : Hg.kind c = 5 := by have := Hg.kind_range c; omega
      rw [decomp_3 h5]
      have hc := kind_is5 h5
      have h1 : (0x1100 + (c - 0xAC00) / 28 / 21 == 0) = false := by simp; omega
      have h2 : (0x11A8 + (c - 0xAC00) % 28 - 1 == 0) = false := by simp; omega
      have H := Lib.hid (fun W => parts_3 c W h5); clear h h4 h5 hc
      generalize 0x1100 + (c - 0xAC00) / 28 / 21 = x at *
      generalize 0x1161 + (c - 0xAC00) / 28 % 21 = y at *
      generalize 0x11A8 + (c - 0xAC00) % 28 - 1 = z at *
      go_enter Try.func13, Try.ntmps13
      go_wp2_with (go_at_call 21; refine (H.out _).mono ?_; rintro e w1 ⟨rfl, hb⟩)
      go_ret
      exact ⟨_, _, rfl, Nat.le_refl _, Ints_new _ [_, _, _] _ (by simp), (hb.alloc hb.size _).alloc (by have := hb.size; simp; omega) _⟩

theorem refDecompose_any (c : Int) (w : World) : Calls Try.prog 14 #[.int .i64 c] w (RetInts (Hg.decomp c) w) := by
  obtain ⟨i0, hi, hz0, hz1, hz2⟩ := info_parts info_int
  by_cases h : Hg.kind c < 4
  · rw [decomp_no h]
    go_enter Try.func14, Try.ntmps14
    go_wp2_with (go_at_call 11; refine (refKind_any _ _).mono ?_; rintro e w' ⟨rfl, rfl⟩)
    go_ret
    exact ⟨_, _, rfl, Nat.le_refl _, Ints_new _ [_] _ (by simp), (Below.refl _ _).alloc (Nat.le_refl _) _⟩
  · by_cases h4 : Hg.kind c = 4
    · rw [decomp_2 h4]
      obtain ⟨b1, b2, b3⟩ := kind_is4 h4
      have HK := Lib.hid (fun W => refKind_any c W); rw [h4] at HK; clear h h4
      go_enter Try.func14, Try.ntmps14
      go_wp2_with (go_at_call 11; refine (HK.out _).mono ?_; rintro e w' ⟨rfl, rfl⟩)
      go_ret
      exact ⟨_, _, rfl, Nat.le_refl _, Ints_new _ [_, _] _ (by simp), (Below.refl _ _).alloc (Nat.le_refl _) _⟩
    · have h5 : Hg.kind c = 5 := by have := Hg.kind_range c; omega
      rw [decomp_3 h5]
      obtain ⟨b1, b2, b3⟩ := kind_is5 h5
      have b4 : 0 < (c - 0xAC00) % 28 := by omega
      have HK := Lib.hid (fun W => refKind_any c W); rw [h5] at HK; clear h h4 h5 b3
      go_enter Try.func14, Try.ntmps14
      go_wp2_with (first
        | (go_at_call 11; refine (HK.out _).mono ?_; rintro e w' ⟨rfl, rfl⟩)
        | (at_builtin; refine wpList_app _ _ 24 3 (.int .i64 0) 1 8 rfl rfl Try.underlying24 info_int rfl (by decide) (by decide) rfl ((own_new [_, _] 3 1 2 w.heap.size rfl rfl (Nat.le_refl _) (by omega)).alloc _) rfl (Sl_new _ [_] _ (by simp)) rfl (oneCell_ints [_]) (by omega) (by simp <;> omega) ?_; intro B k w1 hown hk hb _ _))
      go_ret
      exact ⟨_, _, rfl, hk, Sl.of_own hown, (((Below.refl _ _).alloc (Nat.le_refl _) _).alloc (by simp) _).trans hb⟩

end Go.Proofs.Ytbmijknpfcnlcaa
