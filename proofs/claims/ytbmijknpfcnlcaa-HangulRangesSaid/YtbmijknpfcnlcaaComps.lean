/- Contracts of hangul.Compose and of the reference's Compose: both return the syllable of a pair. -/
import Derived.Test.YtbmijknpfcnlcaaKinds
import Derived.Test.YtbmijknpfcnlcaaWords
import Derived.Outline
namespace Go.Proofs.Ytbmijknpfcnlcaa
open Go.RowKit

/-- the pair (c, ok) is returned; nothing that was there has changed -/
def RetPair (p : Int × Bool) (w : World) (e : Ending) (w' : World) : Prop := e = .returned (.tuple #[.int .i64 p.1, .bool p.2]) ∧ Below w.heap.size w w'

theorem comp_lv {a b : Int} (ha : Hg.kind a = 1) (hb : Hg.kind b = 2) : Hg.comp a b = (0xAC00 + (21 * (a - 0x1100) + b - 0x1161) * 28, true) := by unfold Hg.comp; rw [if_pos ⟨ha, hb⟩]
theorem comp_t {a b : Int} (ha : Hg.kind a = 4) (hb : Hg.kind b = 3) : Hg.comp a b = (a + b - 0x11A8 + 1, true) := by unfold Hg.comp; rw [if_neg (by omega), if_pos ⟨ha, hb⟩]
theorem comp_no {a b : Int} (h1 : ¬ (Hg.kind a = 1 ∧ Hg.kind b = 2)) (h2 : ¬ (Hg.kind a = 4 ∧ Hg.kind b = 3)) : Hg.comp a b = (0, false) := by unfold Hg.comp; rw [if_neg h1, if_neg h2]

theorem kind_is1 {c : Int} (h : Hg.kind c = 1) : 0x1100 ≤ c ∧ c ≤ 0x1112 := by rcases Hg.cases6 c with h' | h' | h' | h' | h' | h' <;> omega
theorem kind_is2 {c : Int} (h : Hg.kind c = 2) : 0x1161 ≤ c ∧ c ≤ 0x1175 := by rcases Hg.cases6 c with h' | h' | h' | h' | h' | h' <;> omega
theorem kind_is3 {c : Int} (h : Hg.kind c = 3) : 0x11A8 ≤ c ∧ c ≤ 0x11C2 := by rcases Hg.cases6 c with h' | h' | h' | h' | h' | h' <;> omega
theorem kind_is4 {c : Int} (h : Hg.kind c = 4) : 0xAC00 ≤ c ∧ c ≤ 0xD7A3 ∧ (c - 0xAC00) % 28 = 0 := by rcases Hg.cases6 c with h' | h' | h' | h' | h' | h' <;> omega
theorem kind_is5 {c : Int} (h : Hg.kind c = 5) : 0xAC00 ≤ c ∧ c ≤ 0xD7A3 ∧ ¬ (c - 0xAC00) % 28 = 0 := by rcases Hg.cases6 c with h' | h' | h' | h' | h' | h' <;> omega

theorem info_int : (Try.prog.info? 3).map (fun i => (i.zero, i.size, i.bytes)) = some (some (.int .i64 0), 1, 8) := by kernel_rfl

theorem Compose_any (a b : Int) (w : World) : Calls Try.prog 16 #[.int .i64 a, .int .i64 b] w (RetPair (Hg.comp a b) w) := by
  have K1 := Kind_any a
  have K2 := Kind_any b
  obtain ⟨i0, hi, hz0, hz1, hz2⟩ := info_parts info_int
  have q2 := fun W x y x' y' => run_equalIn_array2 (P := Try.prog) W 9998 40 3 .i64 i0 Try.underlying40 Try.underlying3 hi hz1 x y x' y'
  clear hi hz0 hz1 hz2
  by_cases h1 : Hg.kind a = 1 ∧ Hg.kind b = 2
  · rw [comp_lv h1.1 h1.2]
    rw [h1.1] at K1; rw [h1.2] at K2
    have ba := kind_is1 h1.1
    have bb := kind_is2 h1.2
    have H1 := Lib.hid K1; have H2 := Lib.hid K2; clear K1 K2 h1
    have HE := Lib.hid (show 44032 + ((a - 4352) * 21 + b - 4449) * 28 = 44032 + (21 * (a - 4352) + b - 4449) * 28 by omega)
    go_enter Try.func16, Try.ntmps16
    go_wp2_with fail
    refine (H1.out _).mono ?_
    rintro e w' ⟨rfl, rfl⟩
    go_wp2_with fail
    refine (H2.out _).mono ?_
    rintro e w' ⟨rfl, rfl⟩
    go_wp2_with fail
    go_ret2
    exact ⟨by rw [← HE.out]; rfl, (Below.refl _ _).alloc (Nat.le_refl _) _⟩
  · by_cases h2 : Hg.kind a = 4 ∧ Hg.kind b = 3
    · rw [comp_t h2.1 h2.2]
      rw [h2.1] at K1; rw [h2.2] at K2
      have ba := kind_is4 h2.1
      have bb := kind_is3 h2.2
      have H1 := Lib.hid K1; have H2 := Lib.hid K2; clear K1 K2 h1 h2
      have HE := Lib.hid (show a + 1 + b - 4520 = a + b - 4520 + 1 by omega)
      obtain ⟨ba1, ba2, _⟩ := ba
      go_enter Try.func16, Try.ntmps16
      go_wp2_with fail
      refine (H1.out _).mono ?_
      rintro e w' ⟨rfl, rfl⟩
      go_wp2_with fail
      refine (H2.out _).mono ?_
      rintro e w' ⟨rfl, rfl⟩
      go_wp2_with fail
      go_ret2
      exact ⟨by rw [← HE.out]; rfl, (Below.refl _ _).alloc (Nat.le_refl _) _⟩
    · rw [comp_no h1 h2]
      have e1 : (Hg.kind a == 1 && Hg.kind b == 2) = false := by
        rw [Bool.eq_false_iff]; simp; exact fun x y => h1 ⟨x, y⟩
      have e2 : (Hg.kind a == 4 && Hg.kind b == 3) = false := by
        rw [Bool.eq_false_iff]; simp; exact fun x y => h2 ⟨x, y⟩
      have H1 := Lib.hid K1; have H2 := Lib.hid K2; clear K1 K2 h1 h2
      generalize Hg.kind a = p at *
      generalize Hg.kind b = q at *
      go_enter Try.func16, Try.ntmps16
      go_wp2_with fail
      refine (H1.out _).mono ?_
      rintro e w' ⟨rfl, rfl⟩
      go_wp2_with fail
      refine (H2.out _).mono ?_
      rintro e w' ⟨rfl, rfl⟩
      go_wp2_with fail
      go_ret2
      exact ⟨rfl, (Below.refl _ _).alloc (Nat.le_refl _) _⟩

theorem refCompose_any (a b : Int) (w : World) : Calls Try.prog 17 #[.int .i64 a, .int .i64 b] w (RetPair (Hg.comp a b) w) := by
  by_cases h1 : Hg.kind a = 1
  · have ba := kind_is1 h1
    by_cases h2 : Hg.kind b = 2
    · rw [comp_lv h1 h2]
      have bb := kind_is2 h2
      go_enter Try.func17, Try.ntmps17
      go_wp2_with (go_at_call 11; refine (refKind_any _ _).mono ?_; rintro e w' ⟨rfl, rfl⟩)
      go_ret2
      exact ⟨rfl, Below.refl _ _⟩
    · rw [comp_no (by omega) (by omega)]
      have e2 : (Hg.kind b == 2) = false := by simpa using h2
      go_enter Try.func17, Try.ntmps17
      go_wp2_with (go_at_call 11; refine (refKind_any _ _).mono ?_; rintro e w' ⟨rfl, rfl⟩)
      go_ret2
      exact ⟨rfl, Below.refl _ _⟩
  · have e1 : (Hg.kind a == 1) = false := by simpa using h1
    by_cases h4 : Hg.kind a = 4
    · have ba := kind_is4 h4
      obtain ⟨ba1, ba2, _⟩ := ba
      by_cases h3 : Hg.kind b = 3
      · rw [comp_t h4 h3]
        have bb := kind_is3 h3
        clear h1 e1
        go_enter Try.func17, Try.ntmps17
        go_wp2_with (go_at_call 11; refine (refKind_any _ _).mono ?_; rintro e w' ⟨rfl, rfl⟩)
        go_ret2
        exact ⟨rfl, Below.refl _ _⟩
      · rw [comp_no (by omega) (by omega)]
        have e3 : (Hg.kind b == 3) = false := by simpa using h3
        clear h1 e1
        go_enter Try.func17, Try.ntmps17
        go_wp2_with (go_at_call 11; refine (refKind_any _ _).mono ?_; rintro e w' ⟨rfl, rfl⟩)
        go_ret2
        exact ⟨rfl, Below.refl _ _⟩
    · rw [comp_no (by omega) (by omega)]
      have e4 : (Hg.kind a == 4) = false := by simpa using h4
      go_enter Try.func17, Try.ntmps17
      go_wp2_with (go_at_call 11; refine (refKind_any _ _).mono ?_; rintro e w' ⟨rfl, rfl⟩)
      go_ret2
      exact ⟨rfl, Below.refl _ _⟩

end Go.Proofs.Ytbmijknpfcnlcaa
