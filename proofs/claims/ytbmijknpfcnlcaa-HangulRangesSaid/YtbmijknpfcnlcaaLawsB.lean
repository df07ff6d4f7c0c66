/- The walks of the laws HangulReturns and HangulParts: each returns true for every input. -/
import Derived.Test.YtbmijknpfcnlcaaAwake
import Derived.Test.YtbmijknpfcnlcaaLawsA
import Derived.Deep.QuietTactic
import Derived.BigQuiet
import Derived.Deep.RegionWith
namespace Go.Proofs.Ytbmijknpfcnlcaa
open Go.RowKit

/-- the parts of a syllable without a trailing consonant compose to it -/
theorem back2 {c : Int} (h : Hg.kind c = 4) : Hg.comp (0x1100 + (c - 0xAC00) / 28 / 21) (0x1161 + (c - 0xAC00) / 28 % 21) = (c, true) := by
  have hc := kind_is4 h
  rw [comp_lv (Hg.kind1 (by omega)) (Hg.kind2 (by omega))]
  congr 1; omega

theorem back3a {c : Int} (h : Hg.kind c = 5) : Hg.comp (0x1100 + (c - 0xAC00) / 28 / 21) (0x1161 + (c - 0xAC00) / 28 % 21) = (c - (c - 0xAC00) % 28, true) := by
  have hc := kind_is5 h
  rw [comp_lv (Hg.kind1 (by omega)) (Hg.kind2 (by omega))]
  congr 1; omega

theorem back3b {c : Int} (h : Hg.kind c = 5) : Hg.comp (c - (c - 0xAC00) % 28) (0x11A8 + (c - 0xAC00) % 28 - 1) = (c, true) := by
  have hc := kind_is5 h
  rw [comp_t (Hg.kind4 (by omega) (by omega)) (Hg.kind3 (by omega))]
  congr 1; omega

set_option maxHeartbeats 400000 in
theorem HangulReturns_any (c : Int) (w : World) : Calls Try.prog 6 #[.int .i64 c] w (RetTrue w) := by
  have K := Lib.hid (refKind_any c)
  by_cases h : Hg.kind c < 4
  · generalize Hg.kind c = k at *
    go_enter Try.func6, Try.ntmps6
    go_wp2_with fail
    refine (K.out _).mono ?_
    rintro e w' ⟨rfl, rfl⟩
    go_wp2_with fail
    refine (awake_any _).mono ?_
    rintro e w4 ⟨rfl, hb4⟩
    go_wp2_with fail
    go_ret
    exact ⟨rfl, hb4⟩
  · by_cases h4 : Hg.kind c = 4
    · rw [h4] at K
      have D := Lib.hid (Decompose_any c)
      rw [decomp_2 h4] at D
      have C := Lib.hid (Compose_any (0x1100 + (c - 0xAC00) / 28 / 21) (0x1161 + (c - 0xAC00) / 28 % 21))
      rw [back2 h4] at C
      clear h h4
      generalize 0x1100 + (c - 0xAC00) / 28 / 21 = x at *
      generalize 0x1161 + (c - 0xAC00) / 28 % 21 = y at *
      go_enter Try.func6, Try.ntmps6
      go_wp2_with fail
      refine (K.out _).mono ?_
      rintro e w' ⟨rfl, rfl⟩
      go_wp2_with fail
      refine (D.out _).mono ?_
      rintro e w1 ⟨A1, c1, rfl, hc1, hA1, hb1⟩
      obtain ⟨b, o, rfl, x0, hcell⟩ := cell_at0 hA1 (by simp)
      have x1 := hcell 1 (by simp)
      simp at x0 x1
      clear hcell hA1
      go_wp2_with fail
      go_region_with (go_at_call 16; refine (C.out _).mono ?_; rintro e w2 ⟨rfl, hb2⟩)
      all_goals
        go_wp2_with fail
        refine (awake_any _).mono ?_
        rintro e w4 ⟨rfl, hb4⟩
        go_wp2_with fail
        go_ret
        exact ⟨rfl, (hb1.trans ((Below.drew (Below.refl _ w1)).trans hb2 |>.mono hb1.size)).trans (hb4.mono (by have := hb1.size; have := hb2.size; simp at this; omega))⟩
    · have h5 : Hg.kind c = 5 := by have := Hg.kind_range c; omega
      rw [h5] at K
      have D := Lib.hid (Decompose_any c)
      rw [decomp_3 h5] at D
      have C := Lib.hid (Compose_any (0x1100 + (c - 0xAC00) / 28 / 21) (0x1161 + (c - 0xAC00) / 28 % 21))
      rw [back3a h5] at C
      have C' := Lib.hid (Compose_any (c - (c - 0xAC00) % 28) (0x11A8 + (c - 0xAC00) % 28 - 1))
      rw [back3b h5] at C'
      clear h h4 h5
      generalize 0x1100 + (c - 0xAC00) / 28 / 21 = x at *
      generalize 0x1161 + (c - 0xAC00) / 28 % 21 = y at *
      generalize 0x11A8 + (c - 0xAC00) % 28 - 1 = z at *
      generalize c - (c - 0xAC00) % 28 = s at *
      go_enter Try.func6, Try.ntmps6
      go_wp2_with fail
      refine (K.out _).mono ?_
      rintro e w' ⟨rfl, rfl⟩
      go_wp2_with fail
      refine (D.out _).mono ?_
      rintro e w1 ⟨A1, c1, rfl, hc1, hA1, hb1⟩
      obtain ⟨b, o, rfl, x0, hcell⟩ := cell_at0 hA1 (by simp)
      have x1 := hcell 1 (by simp)
      have x2 := hcell 2 (by simp)
      simp at x0 x1 x2
      have hlt : b < w1.heap.size := World.block_lt_of_cell? w1 _ x0
      clear hcell hA1
      go_wp2_with fail
      go_region_with (go_at_call 16; refine (C.out _).mono ?_; rintro e w2 ⟨rfl, hb2⟩)
      all_goals
        have y2 := (hb2.cell (p := ⟨b, o + 2, none⟩) hlt).trans x2
        have B2 : Below w.heap.size w w2 := hb1.trans ((Below.drew (Below.refl _ w1)).trans hb2 |>.mono hb1.size)
        clear x0 x1 x2 hb1 hb2
        go_wp2_with fail
        refine (C'.out _).mono ?_
        rintro e w3 ⟨rfl, hb3⟩
        go_wp2_with fail
        refine (awake_any _).mono ?_
        rintro e w4 ⟨rfl, hb4⟩
        go_wp2_with fail
        go_ret
        have B3 := B2.trans (hb3.mono B2.size)
        exact ⟨rfl, B3.trans (hb4.mono B3.size)⟩

/-- the parts of a composed syllable are those of the two that were given -/
theorem parts_of (a b : Int) (h : (Hg.comp a b).2 = true) : Hg.decomp (Hg.comp a b).1 = Hg.decomp a ++ Hg.decomp b ∧ 4 ≤ Hg.kind (Hg.comp a b).1 := by
  by_cases h1 : Hg.kind a = 1 ∧ Hg.kind b = 2
  · have ba := kind_is1 h1.1
    have bb := kind_is2 h1.2
    rw [comp_lv h1.1 h1.2]
    have k4 : Hg.kind (0xAC00 + (21 * (a - 0x1100) + b - 0x1161) * 28) = 4 := Hg.kind4 (by omega) (by omega)
    refine ⟨?_, by simp only; omega⟩
    simp only
    rw [decomp_2 k4, decomp_no (c := a) (by omega), decomp_no (c := b) (by omega)]
    simp only [List.cons_append, List.nil_append, List.cons.injEq, and_true]
    constructor <;> omega
  · by_cases h2 : Hg.kind a = 4 ∧ Hg.kind b = 3
    · have ba := kind_is4 h2.1
      have bb := kind_is3 h2.2
      rw [comp_t h2.1 h2.2]
      have k5 : Hg.kind (a + b - 0x11A8 + 1) = 5 := Hg.kind5 (by omega) (by omega)
      refine ⟨?_, by simp only; omega⟩
      simp only
      rw [decomp_3 k5, decomp_2 h2.1, decomp_no (c := b) (by omega)]
      simp only [List.cons_append, List.nil_append, List.cons.injEq, and_true]
      refine ⟨?_, ?_, ?_⟩ <;> omega
    · rw [comp_no h1 h2] at h
      simp at h

theorem comp_false (a b : Int) (h : (Hg.comp a b).2 = false) : (Hg.comp a b).1 = 0 := by
  unfold Hg.comp at *
  split
  · next h1 => rw [if_pos h1] at h; simp at h
  · next h1 =>
    rw [if_neg h1] at h
    split
    · next h2 => rw [if_pos h2] at h; simp at h
    · rfl

set_option maxHeartbeats 800000 in
theorem HangulParts_any (a b : Int) (w : World) : Calls Try.prog 7 #[.int .i64 a, .int .i64 b] w (RetTrue w) := by
  have C := Lib.hid (Compose_any a b)
  by_cases h : (Hg.comp a b).2 = true
  · obtain ⟨h1, h2⟩ := parts_of a b h
    have hla := decomp_len a
    have hlb := decomp_len b
    have hlc := decomp_len (Hg.comp a b).1
    have D1 := Lib.hid (Decompose_any a)
    have D2 := Lib.hid (Decompose_any b)
    have D3 := Lib.hid (Decompose_any (Hg.comp a b).1)
    have K := Lib.hid (Kind_any (Hg.comp a b).1)
    have HC := Lib.hid h1
    unfold RetPair at C
    rw [h] at C
    clear h h1
    generalize (Hg.comp a b).1 = s at *
    generalize Hg.kind s = k at *
    generalize Hg.decomp a = xs at *
    generalize Hg.decomp b = ys at *
    generalize Hg.decomp s = zs at *
    go_enter Try.func7, Try.ntmps7
    go_wp2_with fail
    refine (C.out _).mono ?_
    rintro e w1 ⟨rfl, hb1⟩
    go_wp2_with fail
    refine (D1.out _).mono ?_
    rintro e w2 ⟨A2, c2, rfl, hc2, hA2, hb2⟩
    have B2 : Below w.heap.size w w2 := hb1.trans (hb2.mono hb1.size)
    clear hb1 hb2
    go_wp2_with (at_builtin; refine wpList_app _ _ 24 3 (.int .i64 0) 1 8 rfl rfl Try.underlying24 info_int rfl (by decide) (by decide) rfl (World.ownsRow_nil _ w.heap.size _ _) rfl hA2 (by simp) (oneCell_ints _) (by omega) B2.size ?_; intro A3 c3 w3 hown3 hc3 hb3 _ _; simp only [Nat.zero_add, List.nil_append] at hown3 hc3)
    refine (D2.out _).mono ?_
    rintro e w4 ⟨A4, c4, rfl, hc4, hA4, hb4⟩
    have B3 := B2.trans hb3
    have B4 : Below w.heap.size w w4 := B3.trans (hb4.mono B3.size)
    have hown4 := own_keep hown3 hb4
    clear hown3 hb4 hb3 B2 B3
    go_wp2_with (at_builtin; refine wpList_app _ _ 24 3 (.int .i64 0) 1 8 rfl rfl Try.underlying24 info_int rfl (by decide) (by decide) rfl hown4 rfl hA4 (by simp) (oneCell_ints _) (by omega) B4.size ?_; intro A5 c5 w5 hown5 hc5 hb5 _ _)
    refine (D3.out _).mono ?_
    rintro e w6 ⟨A6, c6, rfl, hc6, hA6, hb6⟩
    have B5 := B4.trans hb5
    have B6 : Below w.heap.size w w6 := B5.trans (hb6.mono B5.size)
    have hA5 : Ints w6 A5 (xs ++ ys) := by
      unfold Ints; rw [List.map_append]; exact (Sl.of_own hown5).below hb6
    clear hown4 hown5 hb5 hb6 B4 B5
    have E := Equal_any A6 A5 _ _ c6 c5 zs (xs ++ ys) w6 hA6 hA5 rfl rfl (by omega) (by simp; omega)
    rw [show decide (zs = xs ++ ys) = true by rw [HC.out]; simp, List.length_append] at E
    have HE := Lib.hid E
    clear E
    go_wp2_with fail
    refine HE.out.mono ?_
    rintro e w7 ⟨rfl, q, rfl⟩
    go_wp2_with fail
    refine (K.out _).mono ?_
    rintro e w' ⟨rfl, rfl⟩
    go_wp2_with fail
    refine (awake_any _).mono ?_
    rintro e w8 ⟨rfl, hb8⟩
    go_wp2_with fail
    go_ret
    exact ⟨rfl, (below_drewN B6 q).trans (hb8.mono B6.size)⟩
  · have h' : (Hg.comp a b).2 = false := by simpa using h
    have h0 := comp_false a b h'
    unfold RetPair at C
    rw [h', h0] at C
    clear h h' h0
    go_enter Try.func7, Try.ntmps7
    go_wp2_with fail
    refine (C.out _).mono ?_
    rintro e w1 ⟨rfl, hb1⟩
    go_wp2_with fail
    refine (awake_any _).mono ?_
    rintro e w4 ⟨rfl, hb4⟩
    go_wp2_with fail
    go_ret
    exact ⟨rfl, hb1.trans (hb4.mono hb1.size)⟩

end Go.Proofs.Ytbmijknpfcnlcaa
