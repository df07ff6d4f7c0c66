/- The chapter's example: alive is true. -/
import Derived.Test.YtnfnoefjgiojoaaSmall
namespace Go.Proofs.Ytnfnoefjgiojoaa
open Go.RowKit Go.Maps Go.WideMaps

def nA : ByteArray := ⟨#[97]⟩
def nB : ByteArray := ⟨#[98]⟩
def cA : Col := ⟨[], [⟨⟨#[97]⟩, 1, 9⟩, ⟨⟨#[98]⟩, 10, 29⟩], 100, 1, 1⟩
theorem aErr : ordErr cA [⟨#[98]⟩] = 0 := by kernel_rfl
theorem aOut : ordOut cA [⟨#[98]⟩] = [⟨⟨#[98]⟩, 1, 20⟩, ⟨⟨#[97]⟩, 21, 29⟩] := by kernel_rfl
theorem aM12 : mov cA [⟨#[98]⟩] 12 = 3 := by kernel_rfl
theorem aM9 : mov cA [⟨#[98]⟩] 9 = 29 := by kernel_rfl
theorem aM30 : mov cA [⟨#[98]⟩] 30 = 30 := by kernel_rfl

theorem cA_at (w : World) (B : Nat) (h : Grps w (some ⟨B, 0, none⟩) [⟨⟨#[97]⟩, 1, 9⟩, ⟨⟨#[98]⟩, 10, 29⟩]) : ColAt w none 0 (some ⟨B, 0, none⟩) 2 cA :=
  ⟨⟨[], rfl, Sl.nil _ _, fun i hi => absurd hi (Nat.not_lt_zero _)⟩, h, rfl, rfl, fun g hg => by
    have : g.name = nA ∨ g.name = nB := by
      simp only [cA, List.mem_cons, List.not_mem_nil, or_false] at hg
      rcases hg with rfl | rfl
      · exact .inl rfl
      · exact .inr rfl
    rcases this with h | h <;> rw [h] <;> decide⟩
theorem cA_sz : ColSz cA := ⟨fun i hi => absurd hi (Nat.not_lt_zero _), by decide, by decide⟩
theorem strs_new (w : World) (l : List ByteArray) (t : TypeId) {B : Nat} (h : B = w.heap.size) : Strs (w.alloc (.cells (l.map Value.string).toArray t)) (some ⟨B, 0, none⟩) l := Sl_new w _ t h
theorem grps_new (w : World) (l : List Grp) (t : TypeId) {B : Nat} (h : B = w.heap.size) : Grps (w.alloc (.cells (flatK Grp.cells l).toArray t)) (some ⟨B, 0, none⟩) l := Sl_new w _ t h
theorem nB_sz : ∀ s ∈ [(⟨#[98]⟩ : ByteArray)], s.size ≤ 9223372036854775807 := fun s hs => by
  rw [List.mem_singleton] at hs; rw [hs]; decide
theorem aOrder (w : World) (B N : Nat) (h : Grps w (some ⟨B, 0, none⟩) [⟨⟨#[97]⟩, 1, 9⟩, ⟨⟨#[98]⟩, 10, 29⟩]) (hN : Strs w (some ⟨N, 0, none⟩) [⟨#[98]⟩]) :
    Calls Try.prog 13 #[.agg #[.slice none 0 0, .slice (some ⟨B, 0, none⟩) 2 2, .int .i64 100, .int .i64 1, .int .i64 1], .slice (some ⟨N, 0, none⟩) 1 1] w (RetOrd [⟨⟨#[98]⟩, 1, 20⟩, ⟨⟨#[97]⟩, 21, 29⟩] 0 w) := by
  have := Order_any none 0 0 (some ⟨B, 0, none⟩) 2 2 cA (some ⟨N, 0, none⟩) 1 1 [⟨#[98]⟩] w (cA_at w B h) cA_sz (by decide) hN rfl (by decide) nB_sz
  rw [aErr, aOut] at this
  exact this
theorem aMove (x y : Int) (hxy : mov cA [⟨#[98]⟩] x = y) (w : World) (B N : Nat) (h : Grps w (some ⟨B, 0, none⟩) [⟨⟨#[97]⟩, 1, 9⟩, ⟨⟨#[98]⟩, 10, 29⟩]) (hN : Strs w (some ⟨N, 0, none⟩) [⟨#[98]⟩]) :
    Calls Try.prog 16 #[.agg #[.slice none 0 0, .slice (some ⟨B, 0, none⟩) 2 2, .int .i64 100, .int .i64 1, .int .i64 1], .slice (some ⟨N, 0, none⟩) 1 1, .int .i64 x] w (RetI y w) := by
  have := Move_any none 0 0 (some ⟨B, 0, none⟩) 2 2 cA (some ⟨N, 0, none⟩) 1 1 [⟨#[98]⟩] x w (cA_at w B h) cA_sz (by decide) hN rfl (by decide) nB_sz
  rw [hxy] at this
  exact this

set_option maxRecDepth 100000 in
set_option maxHeartbeats 3200000 in
theorem alive_any (w : World) : Calls Try.prog 12 #[] w fun e w' => e = .returned (.bool true) ∧ Below w.heap.size w w' := by
  have hG := grps_new w [⟨⟨#[97]⟩, 1, 9⟩, ⟨⟨#[98]⟩, 10, 29⟩] 36 (B := w.heap.size) rfl
  have B0 : Below w.heap.size w (w.alloc (.cells #[.string ⟨#[97]⟩, .int .i64 1, .int .i64 9, .string ⟨#[98]⟩, .int .i64 10, .int .i64 29] 36)) := (Below.refl _ _).alloc (Nat.le_refl _) _
  have s0 : (w.alloc (.cells #[.string ⟨#[97]⟩, .int .i64 1, .int .i64 9, .string ⟨#[98]⟩, .int .i64 10, .int .i64 29] 36)).heap.size = w.heap.size + 1 := by simp
  change Grps (w.alloc (.cells #[.string ⟨#[97]⟩, .int .i64 1, .int .i64 9, .string ⟨#[98]⟩, .int .i64 10, .int .i64 29] 36)) _ _ at hG
  go_enter Try.func12, Try.ntmps12
  go_wp2_with fail
  obtain ⟨W0, hW0⟩ : ∃ W0, w.alloc (.cells #[.string ⟨#[97]⟩, .int .i64 1, .int .i64 9, .string ⟨#[98]⟩, .int .i64 10, .int .i64 29] 36) = W0 := ⟨_, rfl⟩
  rw [hW0] at hG B0 s0 ⊢
  clear hW0
  have B1 : Below W0.heap.size W0 ((W0.alloc (.cells #[.slice none 0 0, .slice (some ⟨w.heap.size, 0, none⟩) 2 2, .int .i64 100, .int .i64 1, .int .i64 1] 25)).alloc (.cells #[.string ⟨#[98]⟩] 9)) := ((Below.refl _ _).alloc (Nat.le_refl _) _).alloc (by simp) _
  have hN := strs_new (W0.alloc (.cells #[.slice none 0 0, .slice (some ⟨w.heap.size, 0, none⟩) 2 2, .int .i64 100, .int .i64 1, .int .i64 1] 25)) [⟨#[98]⟩] 9 (B := w.heap.size + 1 + 1) (by simp [s0])
  have e0 : ((W0.alloc (.cells #[.slice none 0 0, .slice (some ⟨w.heap.size, 0, none⟩) 2 2, .int .i64 100, .int .i64 1, .int .i64 1] 25)).alloc (.cells #[.string ⟨#[98]⟩] 9)).cell? ⟨W0.heap.size, 0, none⟩ = some (.slice none 0 0) := by simp
  have e1 : ((W0.alloc (.cells #[.slice none 0 0, .slice (some ⟨w.heap.size, 0, none⟩) 2 2, .int .i64 100, .int .i64 1, .int .i64 1] 25)).alloc (.cells #[.string ⟨#[98]⟩] 9)).cell? ⟨W0.heap.size, 1, none⟩ = some (.slice (some ⟨w.heap.size, 0, none⟩) 2 2) := by simp
  have e2 : ((W0.alloc (.cells #[.slice none 0 0, .slice (some ⟨w.heap.size, 0, none⟩) 2 2, .int .i64 100, .int .i64 1, .int .i64 1] 25)).alloc (.cells #[.string ⟨#[98]⟩] 9)).cell? ⟨W0.heap.size, 2, none⟩ = some (.int .i64 100) := by simp
  have e3 : ((W0.alloc (.cells #[.slice none 0 0, .slice (some ⟨w.heap.size, 0, none⟩) 2 2, .int .i64 100, .int .i64 1, .int .i64 1] 25)).alloc (.cells #[.string ⟨#[98]⟩] 9)).cell? ⟨W0.heap.size, 3, none⟩ = some (.int .i64 1) := by simp
  have e4 : ((W0.alloc (.cells #[.slice none 0 0, .slice (some ⟨w.heap.size, 0, none⟩) 2 2, .int .i64 100, .int .i64 1, .int .i64 1] 25)).alloc (.cells #[.string ⟨#[98]⟩] 9)).cell? ⟨W0.heap.size, 4, none⟩ = some (.int .i64 1) := by simp
  change Strs ((W0.alloc (.cells #[.slice none 0 0, .slice (some ⟨w.heap.size, 0, none⟩) 2 2, .int .i64 100, .int .i64 1, .int .i64 1] 25)).alloc (.cells #[.string ⟨#[98]⟩] 9)) _ _ at hN
  have s1 : ((W0.alloc (.cells #[.slice none 0 0, .slice (some ⟨w.heap.size, 0, none⟩) 2 2, .int .i64 100, .int .i64 1, .int .i64 1] 25)).alloc (.cells #[.string ⟨#[98]⟩] 9)).heap.size = w.heap.size + 3 := by simp [s0]
  obtain ⟨W1, hW1⟩ : ∃ W1, (W0.alloc (.cells #[.slice none 0 0, .slice (some ⟨w.heap.size, 0, none⟩) 2 2, .int .i64 100, .int .i64 1, .int .i64 1] 25)).alloc (.cells #[.string ⟨#[98]⟩] 9) = W1 := ⟨_, rfl⟩
  rw [hW1] at B1 hN e0 e1 e2 e3 e4 s1 ⊢
  clear hW1
  rw [s0] at e0 e1 e2 e3 e4
  have hG1 := hG.below B1
  have B2 := B0.trans (B1.mono B0.size)
  clear hG B1 B0 s0 W0
  refine (aOrder W1 _ _ hG1 hN).mono ?_
  rintro e W2 ⟨A2, c2, rfl, hc2, hG2, hb2⟩
  have hl : w.heap.size + 1 < W1.heap.size := by omega
  have f0 := (hb2.cell (p := ⟨w.heap.size + 1, 0, none⟩) hl).trans e0
  have f1 := (hb2.cell (p := ⟨w.heap.size + 1, 1, none⟩) hl).trans e1
  have f2 := (hb2.cell (p := ⟨w.heap.size + 1, 2, none⟩) hl).trans e2
  have f3 := (hb2.cell (p := ⟨w.heap.size + 1, 3, none⟩) hl).trans e3
  have f4 := (hb2.cell (p := ⟨w.heap.size + 1, 4, none⟩) hl).trans e4
  have hl2 : w.heap.size + 1 < W2.heap.size := by have := hb2.size; omega
  have HG1 := Lib.hid (hG1.below hb2)
  have B3 := Lib.hid (B2.trans (hb2.mono B2.size))
  have HG2 := Lib.hid hG2
  clear e0 e1 e2 e3 e4 hG1 hN hb2 B2 hG2
  rw [show ([⟨⟨#[98]⟩, 1, 20⟩, ⟨⟨#[97]⟩, 21, 29⟩] : List Grp).length = 2 from rfl]
  go_wp2_with fail
  have hX := grps_new W2 [⟨⟨#[98]⟩, 1, 20⟩, ⟨⟨#[97]⟩, 21, 29⟩] 36 (B := W2.heap.size) rfl
  change Grps (W2.alloc (.cells #[.string ⟨#[98]⟩, .int .i64 1, .int .i64 20, .string ⟨#[97]⟩, .int .i64 21, .int .i64 29] 36)) _ _ at hX
  have hY := (Below.refl W2.heap.size W2).alloc (Nat.le_refl _) (.cells #[.string ⟨#[98]⟩, .int .i64 1, .int .i64 20, .string ⟨#[97]⟩, .int .i64 21, .int .i64 29] 36)
  refine (sameG_any _ _ _ _ _ _ [⟨⟨#[98]⟩, 1, 20⟩, ⟨⟨#[97]⟩, 21, 29⟩] [⟨⟨#[98]⟩, 1, 20⟩, ⟨⟨#[97]⟩, 21, 29⟩] _ (HG2.out.below hY) hX rfl rfl (by decide) (by decide)).mono ?_
  rintro e W3 ⟨rfl, hq⟩
  rw [decide_eq_true rfl]
  have hb3 := hY.trans (hq.below.mono hY.size)
  have g0 := (hb3.cell (p := ⟨w.heap.size + 1, 0, none⟩) hl2).trans f0
  have g1 := (hb3.cell (p := ⟨w.heap.size + 1, 1, none⟩) hl2).trans f1
  have g2 := (hb3.cell (p := ⟨w.heap.size + 1, 2, none⟩) hl2).trans f2
  have g3 := (hb3.cell (p := ⟨w.heap.size + 1, 3, none⟩) hl2).trans f3
  have g4 := (hb3.cell (p := ⟨w.heap.size + 1, 4, none⟩) hl2).trans f4
  have hl3 : w.heap.size + 1 < W3.heap.size := by have := hb3.size; omega
  have HG3 := Lib.hid (HG1.out.below hb3)
  have B4 := Lib.hid (B3.out.trans (hb3.mono B3.out.size))
  clear f0 f1 f2 f3 f4 hX hY hq hb3 HG1 B3 HG2 hl2 hc2
  go_wp2_with fail
  have hN3 : Strs (W3.alloc (.cells #[.string ⟨#[98]⟩] 9)) (some ⟨W3.heap.size, 0, none⟩) [⟨#[98]⟩] := strs_new W3 [⟨#[98]⟩] 9 (B := W3.heap.size) rfl
  have hY3 := (Below.refl W3.heap.size W3).alloc (Nat.le_refl _) (.cells #[.string ⟨#[98]⟩] 9)
  refine (aMove 12 3 aM12 _ _ _ (HG3.out.below hY3) hN3).mono ?_
  rintro e W4 ⟨rfl, hb4⟩
  have hz4 := hY3.trans (hb4.mono hY3.size)
  have g0 := (hz4.cell (p := ⟨w.heap.size + 1, 0, none⟩) hl3).trans g0
  have g1 := (hz4.cell (p := ⟨w.heap.size + 1, 1, none⟩) hl3).trans g1
  have g2 := (hz4.cell (p := ⟨w.heap.size + 1, 2, none⟩) hl3).trans g2
  have g3 := (hz4.cell (p := ⟨w.heap.size + 1, 3, none⟩) hl3).trans g3
  have g4 := (hz4.cell (p := ⟨w.heap.size + 1, 4, none⟩) hl3).trans g4
  have hl4 : w.heap.size + 1 < W4.heap.size := by have := hz4.size; omega
  have HG4 := Lib.hid (HG3.out.below hz4)
  have B5 := Lib.hid (B4.out.trans (hz4.mono B4.out.size))
  clear hN3 hY3 hb4 hz4 HG3 B4 hl3
  go_wp2_with fail
  have hN4 : Strs (W4.alloc (.cells #[.string ⟨#[98]⟩] 9)) (some ⟨W4.heap.size, 0, none⟩) [⟨#[98]⟩] := strs_new W4 [⟨#[98]⟩] 9 (B := W4.heap.size) rfl
  have hY4 := (Below.refl W4.heap.size W4).alloc (Nat.le_refl _) (.cells #[.string ⟨#[98]⟩] 9)
  refine (aMove 9 29 aM9 _ _ _ (HG4.out.below hY4) hN4).mono ?_
  rintro e W5 ⟨rfl, hb5⟩
  have hz5 := hY4.trans (hb5.mono hY4.size)
  have g0 := (hz5.cell (p := ⟨w.heap.size + 1, 0, none⟩) hl4).trans g0
  have g1 := (hz5.cell (p := ⟨w.heap.size + 1, 1, none⟩) hl4).trans g1
  have g2 := (hz5.cell (p := ⟨w.heap.size + 1, 2, none⟩) hl4).trans g2
  have g3 := (hz5.cell (p := ⟨w.heap.size + 1, 3, none⟩) hl4).trans g3
  have g4 := (hz5.cell (p := ⟨w.heap.size + 1, 4, none⟩) hl4).trans g4
  have hl5 : w.heap.size + 1 < W5.heap.size := by have := hz5.size; omega
  have HG5 := Lib.hid (HG4.out.below hz5)
  have B6 := Lib.hid (B5.out.trans (hz5.mono B5.out.size))
  clear hN4 hY4 hb5 hz5 HG4 B5 hl4
  go_wp2_with fail
  have hN5 : Strs (W5.alloc (.cells #[.string ⟨#[98]⟩] 9)) (some ⟨W5.heap.size, 0, none⟩) [⟨#[98]⟩] := strs_new W5 [⟨#[98]⟩] 9 (B := W5.heap.size) rfl
  have hY5 := (Below.refl W5.heap.size W5).alloc (Nat.le_refl _) (.cells #[.string ⟨#[98]⟩] 9)
  refine (aMove 30 30 aM30 _ _ _ (HG5.out.below hY5) hN5).mono ?_
  rintro e W6 ⟨rfl, hb6⟩
  have hz6 := hY5.trans (hb6.mono hY5.size)
  have g0 := (hz6.cell (p := ⟨w.heap.size + 1, 0, none⟩) hl5).trans g0
  have g1 := (hz6.cell (p := ⟨w.heap.size + 1, 1, none⟩) hl5).trans g1
  have g2 := (hz6.cell (p := ⟨w.heap.size + 1, 2, none⟩) hl5).trans g2
  have g3 := (hz6.cell (p := ⟨w.heap.size + 1, 3, none⟩) hl5).trans g3
  have g4 := (hz6.cell (p := ⟨w.heap.size + 1, 4, none⟩) hl5).trans g4
  have hl6 : w.heap.size + 1 < W6.heap.size := by have := hz6.size; omega
  have HG6 := Lib.hid (HG5.out.below hz6)
  have B7 := Lib.hid (B6.out.trans (hz6.mono B6.out.size))
  clear hN5 hY5 hb6 hz6 HG5 B6 hl5
  go_wp2_with fail
  go_ret
  exact ⟨rfl, B7.out⟩

end Go.Proofs.Ytnfnoefjgiojoaa
