/- Contracts of hangul.length and of the reference's Part: both return the length of the syllable that begins a text. -/
import Derived.Test.YtbmijknpfcnlcaaComps
import Derived.Outline
import Derived.Deep.Light
namespace Go.Proofs.Ytbmijknpfcnlcaa
open Go.RowKit

theorem cell_at0 {w : World} {A : Option Addr} {l : List Int} (h : Ints w A l) (hl : 0 < l.length) : ∃ b o, A = some ⟨b, o, none⟩ ∧ w.cell? ⟨b, o, none⟩ = some (.int .i64 l[0]) ∧ ∀ j, (hj : j < l.length) → w.cell? ⟨b, o + j, none⟩ = some (.int .i64 l[j]) := by
  obtain ⟨b, o, rfl, hc⟩ := h.at hl
  exact ⟨b, o, rfl, hc 0 hl, hc⟩

/-- an int is returned; nothing that was there has changed -/
def RetInt (x : Int) (w : World) (e : Ending) (w' : World) : Prop := e = .returned (.int .i64 x) ∧ Below w.heap.size w w'

set_option maxHeartbeats 800000 in
theorem Part_any (A : Option Addr) (n c : Nat) (l : List Int) (w : World) (hA : Ints w A l) (hn : l.length = n) (hb : n ≤ 9223372036854775807) :
    Calls Try.prog 23 #[.slice A n c] w (RetInt (Hg.plen l) w) := by
  subst hn
  rcases l with _ | ⟨x, _ | ⟨y, _ | ⟨z, t⟩⟩⟩
  · go_enter Try.func23, Try.ntmps23
    go_wp2_with (go_at_call 11; refine (refKind_any _ _).mono ?_; rintro e w' ⟨rfl, rfl⟩)
    go_ret
    exact ⟨rfl, Below.refl _ _⟩
  · obtain ⟨b, o, rfl, h0, hc⟩ := cell_at0 hA (by simp)
    have HP := Lib.hid (show Hg.plen [x] = Hg.pl (Hg.kind x) 0 0 from rfl)
    have hr := Hg.kind_range x
    simp at h0
    clear hc hA
    generalize Hg.plen [x] = m at *
    go_enter Try.func23, Try.ntmps23
    go_wp2_with (go_at_call 11; refine (refKind_any _ _).mono ?_; rintro e w' ⟨rfl, rfl⟩)
    all_goals
      go_ret
      refine ⟨ret_int ?_, Below.refl _ _⟩
      rw [HP.out]
      unfold Hg.pl
      simp only [Bool.and_eq_true, beq_iff_eq]
      (repeat' split) <;> first | omega | (go_light; simp_all; done) | (go_light; simp_all; omega)
  · obtain ⟨b, o, rfl, h0, hc⟩ := cell_at0 hA (by simp)
    have h1 := hc 1 (by simp)
    have HP := Lib.hid (show Hg.plen [x, y] = Hg.pl (Hg.kind x) (Hg.kind y) 0 from rfl)
    have hr := Hg.kind_range x
    have hr' := Hg.kind_range y
    simp at h0 h1
    clear hc hA
    generalize Hg.plen [x, y] = m at *
    go_enter Try.func23, Try.ntmps23
    go_wp2_with (go_at_call 11; refine (refKind_any _ _).mono ?_; rintro e w' ⟨rfl, rfl⟩)
    all_goals
      go_ret
      refine ⟨ret_int ?_, Below.refl _ _⟩
      rw [HP.out]
      unfold Hg.pl
      simp only [Bool.and_eq_true, beq_iff_eq]
      (repeat' split) <;> first | omega | (go_light; simp_all; done) | (go_light; simp_all; omega)
  · obtain ⟨b, o, rfl, h0, hc⟩ := cell_at0 hA (by simp)
    have h1 := hc 1 (by simp)
    have h2 := hc 2 (by simp)
    have HP := Lib.hid (show Hg.plen (x :: y :: z :: t) = Hg.pl (Hg.kind x) (Hg.kind y) (Hg.kind z) from rfl)
    have hr := Hg.kind_range x
    have hr' := Hg.kind_range y
    have hr'' := Hg.kind_range z
    simp at h0 h1 h2
    clear hc hA
    generalize Hg.plen (x :: y :: z :: t) = m at *
    have hlen : 3 ≤ (x :: y :: z :: t).length := by simp
    generalize (x :: y :: z :: t).length = n at *
    go_enter Try.func23, Try.ntmps23
    go_wp2_with (go_at_call 11; refine (refKind_any _ _).mono ?_; rintro e w' ⟨rfl, rfl⟩)
    all_goals
      go_ret
      refine ⟨ret_int ?_, Below.refl _ _⟩
      rw [HP.out]
      unfold Hg.pl
      simp only [Bool.and_eq_true, beq_iff_eq]
      (repeat' split) <;> first | omega | (go_light; simp_all; done) | (go_light; simp_all; omega)

theorem arrayAt2 (a : Addr) (W : World) : (Instr.arrayAt 40 (.slice (some a) 2 3)).run Try.prog W = .ok (.pointer (some a)) W := by kernel_rfl

set_option maxHeartbeats 1600000 in
theorem length_any (A : Option Addr) (n c : Nat) (l : List Int) (w : World) (hA : Ints w A l) (hn : l.length = n) (hb : n ≤ 9223372036854775807) :
    Calls Try.prog 22 #[.slice A n c] w (RetInt (Hg.plen l) w) := by
  subst hn
  obtain ⟨i0, hi, hz0, hz1, hz2⟩ := info_parts info_int
  have q3 := fun W x y z x' y' z' => run_equalIn_array3 (P := Try.prog) W 9998 38 3 .i64 i0 Try.underlying38 Try.underlying3 hi hz1 x y z x' y' z'
  have q2 := fun W x y x' y' => run_equalIn_array2 (P := Try.prog) W 9998 40 3 .i64 i0 Try.underlying40 Try.underlying3 hi hz1 x y x' y'
  have qa := arrayAt2
  clear hi hz0 hz1 hz2
  rcases l with _ | ⟨x, _ | ⟨y, _ | ⟨z, t⟩⟩⟩
  · have HP := Lib.hid (show Hg.plen [] = 0 from rfl)
    generalize Hg.plen [] = m at *
    go_enter Try.func22, Try.ntmps22
    go_wp2
    refine wp_loop_rounds 1 ?_
    rw [rounds_succ]
    go_wp2_with (go_at_call 10; refine (Kind_any _ _).mono ?_; rintro e w' ⟨rfl, rfl⟩)
    all_goals
      go_ret
      refine ⟨ret_int ?_, (Below.refl _ _).alloc (Nat.le_refl _) _⟩
      rw [HP.out]
      try rfl
  · obtain ⟨b, o, rfl, h0, hc⟩ := cell_at0 hA (by simp)
    have HP := Lib.hid (show Hg.plen [x] = Hg.pl (Hg.kind x) 0 0 from rfl)
    have hr0 := Hg.kind_range x
    simp at h0
    have hlt : b < w.heap.size := World.block_lt_of_cell? w _ h0
    clear hc hA
    generalize Hg.plen [x] = m at *
    go_enter Try.func22, Try.ntmps22
    go_wp2
    refine wp_loop_rounds 2 ?_
    rw [rounds_succ]
    go_wp2_with (go_at_call 10; refine (Kind_any _ _).mono ?_; rintro e w' ⟨rfl, rfl⟩)
    rw [rounds_succ]
    go_wp2_with (go_at_call 10; refine (Kind_any _ _).mono ?_; rintro e w' ⟨rfl, rfl⟩)
    all_goals
      go_ret
      refine ⟨ret_int ?_, (Below.refl _ _).alloc (Nat.le_refl _) _⟩
      rw [HP.out]
      unfold Hg.pl
      simp only [Bool.and_eq_true, beq_iff_eq]
      (repeat' split) <;> first | omega | (go_light; simp_all; done) | (go_light; simp_all; omega)
  · obtain ⟨b, o, rfl, h0, hc⟩ := cell_at0 hA (by simp)
    have h1 := hc 1 (by simp)
    have HP := Lib.hid (show Hg.plen [x, y] = Hg.pl (Hg.kind x) (Hg.kind y) 0 from rfl)
    have hr0 := Hg.kind_range x
    have hr1 := Hg.kind_range y
    simp at h0 h1
    have hlt : b < w.heap.size := World.block_lt_of_cell? w _ h0
    clear hc hA
    generalize Hg.plen [x, y] = m at *
    go_enter Try.func22, Try.ntmps22
    go_wp2
    refine wp_loop_rounds 3 ?_
    rw [rounds_succ]
    go_wp2_with (go_at_call 10; refine (Kind_any _ _).mono ?_; rintro e w' ⟨rfl, rfl⟩)
    rw [rounds_succ]
    go_wp2_with (go_at_call 10; refine (Kind_any _ _).mono ?_; rintro e w' ⟨rfl, rfl⟩)
    rw [rounds_succ]
    go_wp2_with (go_at_call 10; refine (Kind_any _ _).mono ?_; rintro e w' ⟨rfl, rfl⟩)
    all_goals
      go_ret
      refine ⟨ret_int ?_, (Below.refl _ _).alloc (Nat.le_refl _) _⟩
      rw [HP.out]
      unfold Hg.pl
      simp only [Bool.and_eq_true, beq_iff_eq]
      (repeat' split) <;> first | omega | (go_light; simp_all; done) | (go_light; simp_all; omega)
  · obtain ⟨b, o, rfl, h0, hc⟩ := cell_at0 hA (by simp)
    have h1 := hc 1 (by simp)
    have h2 := hc 2 (by simp)
    have HP := Lib.hid (show Hg.plen (x :: y :: z :: t) = Hg.pl (Hg.kind x) (Hg.kind y) (Hg.kind z) from rfl)
    have hr0 := Hg.kind_range x
    have hr1 := Hg.kind_range y
    have hr2 := Hg.kind_range z
    simp at h0 h1 h2
    have hlt : b < w.heap.size := World.block_lt_of_cell? w _ h0
    clear hc hA
    generalize Hg.plen (x :: y :: z :: t) = m at *
    have hlen : 3 ≤ (x :: y :: z :: t).length := by simp
    generalize (x :: y :: z :: t).length = n at *
    have hmin : min (n : Int) 3 = 3 := by omega
    go_enter Try.func22, Try.ntmps22
    go_wp2
    all_goals
      refine wp_loop_rounds 4 ?_
      rw [rounds_succ]
      go_wp2_with (go_at_call 10; refine (Kind_any _ _).mono ?_; rintro e w' ⟨rfl, rfl⟩)
      rw [rounds_succ]
      go_wp2_with (go_at_call 10; refine (Kind_any _ _).mono ?_; rintro e w' ⟨rfl, rfl⟩)
      rw [rounds_succ]
      go_wp2_with (go_at_call 10; refine (Kind_any _ _).mono ?_; rintro e w' ⟨rfl, rfl⟩)
      rw [rounds_succ]
      go_wp2_with (go_at_call 10; refine (Kind_any _ _).mono ?_; rintro e w' ⟨rfl, rfl⟩)
      all_goals
        go_ret
        refine ⟨ret_int ?_, (Below.refl _ _).alloc (Nat.le_refl _) _⟩
        rw [HP.out]
        unfold Hg.pl
        simp only [Bool.and_eq_true, beq_iff_eq]
        (repeat' split) <;> first | omega | (go_light; simp_all; done) | (go_light; simp_all; omega)

end Go.Proofs.Ytbmijknpfcnlcaa
