/- The contract of the reference's Check: it returns the first error of spans. (Printed by gen_refcheck.py.) -/
import Derived.Test.YthagfcdleapooaaDoorCheck
import Derived.Deep.QuietTactic
import Derived.BigQuiet
namespace Go.Proofs.YthagfcdleapooaaDoor
open Go.RowKit

def vld (c : Int) : Bool := decide (0 ≤ c ∧ c ≤ 1114111)

theorem Valid_any (c : Int) (w : World) : Calls Tryd.prog 31 #[.int .i64 c] w fun e w' => e = .returned (.bool (vld c)) ∧ w' = w := by
  by_cases h1 : 0 ≤ c
  · by_cases h2 : c ≤ 1114111
    · rw [show vld c = true by unfold vld; simp [h1, h2]]
      go_enter Tryd.func31, Tryd.ntmps31
      go_wp2
      go_ret
      exact ⟨rfl, rfl⟩
    · rw [show vld c = false by unfold vld; simp [h1, h2]]
      go_enter Tryd.func31, Tryd.ntmps31
      go_wp2
      go_ret
      exact ⟨rfl, rfl⟩
  · rw [show vld c = false by unfold vld; simp [h1]]
    go_enter Tryd.func31, Tryd.ntmps31
    go_wp2
    go_ret
    exact ⟨rfl, rfl⟩

def hangulCells : List Value := [.int .i64 4352, .int .i64 4370, .int .i64 4449, .int .i64 4469, .int .i64 4520, .int .i64 4546, .int .i64 44032, .int .i64 55203]

theorem hangul_any (w : World) : Calls Tryd.prog 32 #[] w fun e w' => ∃ b, e = .returned (.slice (some ⟨b, 0, none⟩) 4 4) ∧ Sl w' (some ⟨b, 0, none⟩) hangulCells ∧ Below w.heap.size w w' := by
  go_enter Tryd.func32, Tryd.ntmps32
  go_wp2
  go_ret
  exact ⟨_, rfl, Sl_new _ hangulCells _ rfl, (Below.refl _ _).alloc (Nat.le_refl _) _⟩

set_option maxRecDepth 100000 in
set_option maxHeartbeats 16000000 in
theorem refCheck_any (A : Option Addr) (n k : Nat) (ss : List Spn) (w : World) (hA : Spans w A ss) (hn : ss.length = n) (hbig : n ≤ 1099511627776) :
    Calls Tryd.prog 14 #[.slice A n k] w (RetInt (chk ss) w) := by
  subst hn
  go_enter Tryd.func14, Tryd.ntmps14
  go_wp2
  go_loopw [3] (fun u wr => ∃ i : Nat, i ≤ ss.length ∧ u = .int .i64 i ∧ (∀ t, (ht : t < ss.length) → t < i → ¬ Bad1 ss[t]) ∧ Below w.heap.size w wr) (fun u _ => ss.length - (intOf u).toNat)
  case atStart => exact ⟨0, Nat.zero_le _, rfl, fun t _ h => by omega, Below.refl _ _⟩
  case round =>
    obtain ⟨i, hi, rfl, h1, hbel⟩ := hrel
    have H1 := Lib.hid h1; clear h1
    by_cases hlt : i < ss.length
    · obtain ⟨b, o, rfl, hbl, hcell⟩ := (hA.below hbel).at hlt
      obtain ⟨c1, c2, c3⟩ := hcell i hlt
      clear hcell
      have HB := Lib.hid (show Bad1 ss[i] ↔ (ss[i].lo < 0 ∨ 1114111 < ss[i].hi ∨ ss[i].hi < ss[i].lo ∨ ss[i].val < 1 ∨ 254 < ss[i].val) from Iff.rfl)
      have HC := Lib.hid (fun h => chk_1 (ss := ss) hlt h)
      have HN := Lib.hid (fun h => all_succ (P := Bad1) hlt H1.out h)
      generalize Bad1 ss[i] = Bd at *
      generalize ss[i].lo = lo at *
      generalize ss[i].hi = hi' at *
      generalize ss[i].val = v at *
      by_cases q0 : 0 ≤ lo ∧ lo ≤ 1114111
      · have t0 : vld lo = true := by unfold vld; simpa using q0
        by_cases q1 : 0 ≤ hi' ∧ hi' ≤ 1114111
        · have t1 : vld hi' = true := by unfold vld; simpa using q1
          by_cases q2 : ¬ hi' < lo
          · have t2 : decide (hi' < lo) = false := by simpa using q2
            by_cases q3 : ¬ v < 1
            · have t3 : decide (v < 1) = false := by simpa using q3
              by_cases q4 : ¬ 254 < v
              · have t4 : decide (254 < v) = false := by simpa using q4
                go_wp2
                go_quiet ((go_at_call 31; exact Calls.quiet_of_same (Valid_any _ _)))
                go_wp2
                go_roundw
                case rel => exact ⟨i + 1, by omega, by go_num, HN.out (fun h => by have := HB.out.1 h; omega), below_drewN hbel _⟩
                case measure => simp [intOf]; omega
              · have t4 : decide (254 < v) = true := by simpa using q4
                go_wp2
                go_quiet ((go_at_call 31; exact Calls.quiet_of_same (Valid_any _ _)))
                go_wp2
                go_ret
                exact ⟨ret_int (HC.out (HB.out.2 (by omega))).symm, below_drewN hbel _⟩
            · have t3 : decide (v < 1) = true := by simpa using q3
              go_wp2
              go_quiet ((go_at_call 31; exact Calls.quiet_of_same (Valid_any _ _)))
              go_wp2
              go_ret
              exact ⟨ret_int (HC.out (HB.out.2 (by omega))).symm, below_drewN hbel _⟩
          · have t2 : decide (hi' < lo) = true := by simpa using q2
            go_wp2
            go_quiet ((go_at_call 31; exact Calls.quiet_of_same (Valid_any _ _)))
            go_wp2
            go_ret
            exact ⟨ret_int (HC.out (HB.out.2 (by omega))).symm, below_drewN hbel _⟩
        · have t1 : vld hi' = false := by unfold vld; simpa using q1
          go_wp2
          go_quiet ((go_at_call 31; exact Calls.quiet_of_same (Valid_any _ _)))
          go_wp2
          go_ret
          exact ⟨ret_int (HC.out (HB.out.2 (by omega))).symm, below_drewN hbel _⟩
      · have t0 : vld lo = false := by unfold vld; simpa using q0
        go_wp2
        go_quiet ((go_at_call 31; exact Calls.quiet_of_same (Valid_any _ _)))
        go_wp2
        go_ret
        exact ⟨ret_int (HC.out (HB.out.2 (by omega))).symm, below_drewN hbel _⟩
    · have H1' := Lib.hid (fun t (ht : t < ss.length) => H1.out t ht (by omega))
      clear H1
      go_wp2
      go_loopw [4] (fun u wr => ∃ i : Nat, i ≤ ss.length ∧ u = .int .i64 ((i : Int) + 1) ∧ (∀ t, (ht : t + 1 < ss.length) → t < i → ¬ Bad2 ss[t] ss[t + 1]) ∧ Below w.heap.size w wr) (fun u _ => ss.length + 1 - (intOf u).toNat)
      case atStart => exact ⟨0, Nat.zero_le _, rfl, fun t _ h => by omega, hbel⟩
      case round =>
        obtain ⟨j, hj, rfl, h2, hbel2⟩ := hrel
        have H2 := Lib.hid h2; clear h2
        by_cases hlt2 : j + 1 < ss.length
        · obtain ⟨b, o, rfl, hbl, hcell⟩ := (hA.below hbel2).at hlt2
          obtain ⟨c1, c2, c3⟩ := hcell j (by omega)
          obtain ⟨c4, c5, c6⟩ := hcell (j + 1) hlt2
          clear hcell
          have hmax := H1'.out j (by omega)
          have hmax2 : ss[j].hi ≤ 1114111 ∧ 0 ≤ ss[j].hi := by unfold Bad1 at hmax; omega
          clear hmax
          have HB := Lib.hid (show Bad2 ss[j] ss[j + 1] ↔ (ss[j + 1].lo ≤ ss[j].hi ∨ (ss[j + 1].lo = ss[j].hi + 1 ∧ ss[j + 1].val = ss[j].val)) from Iff.rfl)
          have HC := Lib.hid (fun h => chk_4 (ss := ss) H1'.out hlt2 h)
          have HN := Lib.hid (fun h => pair_succ (P := Bad2) hlt2 H2.out h)
          generalize Bad2 ss[j] ss[j + 1] = Bd at *
          generalize ss[j].lo = lo at *
          generalize ss[j].hi = hi' at *
          generalize ss[j].val = v at *
          generalize ss[j + 1].lo = lo2 at *
          generalize ss[j + 1].hi = hi2 at *
          generalize ss[j + 1].val = v2 at *
          obtain ⟨hm1, hm2⟩ := hmax2
          have i1 : IntKind.i64.wrap ((j : Int) + 1 - 1) = (j : Int) := by rw [show (j : Int) + 1 - 1 = (j : Int) by omega]; exact IntWalk.i64_in _ (by omega)
          have i2 : (j : Int) + 1 - 1 = (j : Int) := by omega
          have i3 : ((j : Int) + 1).toNat = j + 1 := by omega
          have i4 : (j : Int) + 1 < (ss.length : Int) := by omega
          have i5 : (0 : Int) ≤ (j : Int) + 1 := by omega
          have i6 : (j : Int) < (ss.length : Int) := by omega
          have i7 : IntKind.i64.wrap (j : Int) = (j : Int) := IntWalk.i64_in _ (by omega)
          have i8 : IntKind.i64.wrap (hi' + 1) = hi' + 1 := IntWalk.i64_in _ (by omega)
          by_cases t1 : lo2 ≤ hi'
          · have d1 : decide (lo2 ≤ hi') = true := by simpa using t1
            go_wp2
            go_quiet (fail)
            go_wp2
            go_ret
            exact ⟨ret_int (HC.out (HB.out.2 (.inl t1))).symm, below_drewN hbel2 _⟩
          · have d1 : decide (lo2 ≤ hi') = false := by simpa using t1
            by_cases t2 : lo2 = hi' + 1
            · have d2 : (lo2 == hi' + 1) = true := by simpa using t2
              by_cases t3 : v2 = v
              · have d3 : (v2 == v) = true := by simpa using t3
                have HT2 := Lib.hid t2; have HT3 := Lib.hid t3; clear t2 t3
                go_wp2
                go_quiet (fail)
                go_wp2
                go_ret
                exact ⟨ret_int (HC.out (HB.out.2 (.inr ⟨HT2.out, HT3.out⟩))).symm, below_drewN hbel2 _⟩
              · have d3 : (v2 == v) = false := by simpa using t3
                have HT2 := Lib.hid t2; have HT3 := Lib.hid t3; clear t2 t3
                go_wp2
                go_quiet (fail)
                go_wp2
                go_roundw
                case rel => exact ⟨j + 1, by omega, by go_num, HN.out (fun h => by have := HB.out.1 h; have := HT3.out; omega), below_drewN hbel2 _⟩
                case measure => simp [intOf]; omega
            · have d2 : (lo2 == hi' + 1) = false := by simpa using t2
              have HT2 := Lib.hid t2; clear t2
              go_wp2
              go_quiet (fail)
              go_wp2
              go_roundw
              case rel => exact ⟨j + 1, by omega, by go_num, HN.out (fun h => by have := HB.out.1 h; have := HT2.out; omega), below_drewN hbel2 _⟩
              case measure => simp [intOf]; omega
        · have H2' := Lib.hid (fun t (ht : t + 1 < ss.length) => H2.out t ht (by omega))
          clear H2
          have CH := Lib.hid hangul_any
          go_wp2_with fail
          refine (CH.out _).mono ?_
          rintro e W1 ⟨bh, rfl, hSl, hbh⟩
          have hbelh := hbel2.trans (hbh.mono hbel2.size)
          clear hbel2 hbh
          obtain ⟨_, _, hAh, hch⟩ := hSl (by simp [hangulCells])
          injection hAh with hAh
          injection hAh with ha1 ha2
          subst ha1; subst ha2
          have k0 := hch 0 _ rfl; have k1 := hch 1 _ rfl; have k2 := hch 2 _ rfl; have k3 := hch 3 _ rfl
          have k4 := hch 4 _ rfl; have k5 := hch 5 _ rfl; have k6 := hch 6 _ rfl; have k7 := hch 7 _ rfl
          simp only [Nat.zero_add] at k0 k1 k2 k3 k4 k5 k6 k7
          have hltb : bh < W1.heap.size := World.block_lt_of_cell? W1 _ k0
          clear hch hSl
          go_wp2_with fail
          go_loopw [6] (fun u wr => ∃ i : Nat, i ≤ ss.length ∧ u = .int .i64 i ∧ (∀ t, (ht : t < ss.length) → t < i → ¬ Bad3 ss[t]) ∧ Below W1.heap.size W1 wr) (fun u _ => ss.length - (intOf u).toNat)
          case atStart => exact ⟨0, Nat.zero_le _, rfl, fun t _ h => by omega, Below.refl _ _⟩
          case round =>
            obtain ⟨i, hi, rfl, h3, hbel4⟩ := hrel
            have hbel3 : Below w.heap.size w wr := hbelh.trans (hbel4.mono hbelh.size)
            have H3 := Lib.hid h3; clear h3
            by_cases hlt3 : i < ss.length
            · obtain ⟨b, o, rfl, hbl, hcell⟩ := (hA.below hbel3).at hlt3
              obtain ⟨c1, c2, c3⟩ := hcell i hlt3
              clear hcell
              have HB := Lib.hid (show Bad3 ss[i] ↔ ((ss[i].lo ≤ 4370 ∧ 4352 ≤ ss[i].hi) ∨ (ss[i].lo ≤ 4469 ∧ 4449 ≤ ss[i].hi) ∨ (ss[i].lo ≤ 4546 ∧ 4520 ≤ ss[i].hi) ∨ (ss[i].lo ≤ 55203 ∧ 44032 ≤ ss[i].hi)) from Iff.rfl)
              have HC := Lib.hid (fun h => chk_11 (ss := ss) H1'.out H2'.out hlt3 h)
              have HN := Lib.hid (fun h => all_succ (P := Bad3) hlt3 H3.out h)
              generalize Bad3 ss[i] = Bd at *
              generalize ss[i].lo = lo at *
              generalize ss[i].hi = hi' at *
              generalize ss[i].val = v at *
              have m0 := (hbel4.cell (p := ⟨bh, 0, none⟩) hltb).trans k0; have m1 := (hbel4.cell (p := ⟨bh, 1, none⟩) hltb).trans k1
              have m2 := (hbel4.cell (p := ⟨bh, 2, none⟩) hltb).trans k2; have m3 := (hbel4.cell (p := ⟨bh, 3, none⟩) hltb).trans k3
              have m4 := (hbel4.cell (p := ⟨bh, 4, none⟩) hltb).trans k4; have m5 := (hbel4.cell (p := ⟨bh, 5, none⟩) hltb).trans k5
              have m6 := (hbel4.cell (p := ⟨bh, 6, none⟩) hltb).trans k6; have m7 := (hbel4.cell (p := ⟨bh, 7, none⟩) hltb).trans k7
              clear k0 k1 k2 k3 k4 k5 k6 k7
              obtain ⟨wo, rfl⟩ : ∃ wo : World, wo = wr := ⟨_, rfl⟩
              go_wp2
              go_loopw [7] (fun u wr => ∃ j : Int, 0 ≤ j ∧ j ≤ 4 ∧ u = .int .i64 j ∧ (0 < j → ¬ (lo ≤ 4370 ∧ 4352 ≤ hi')) ∧ (1 < j → ¬ (lo ≤ 4469 ∧ 4449 ≤ hi')) ∧ (2 < j → ¬ (lo ≤ 4546 ∧ 4520 ≤ hi')) ∧ (3 < j → ¬ (lo ≤ 55203 ∧ 44032 ≤ hi')) ∧
                  Qt wo wr) (fun u _ => 4 - (intOf u).toNat)
              case atStart => exact ⟨0, by omega, by omega, rfl, by omega, by omega, by omega, by omega, Qt.refl _⟩
              case round =>
                obtain ⟨j, hj0, hj4, rfl, g0, g1, g2, g3, q, rfl⟩ := hrel
                have HBW := Lib.hid (below_drewN hbel3 q)
                have HG := Lib.hid (And.intro g0 (And.intro g1 (And.intro g2 g3)))
                clear g0 g1 g2 g3
                obtain rfl | rfl | rfl | rfl | rfl : j = 0 ∨ j = 1 ∨ j = 2 ∨ j = 3 ∨ j = 4 := by omega
                · by_cases e1 : lo ≤ 4370
                  · have d1 : decide (lo ≤ 4370) = true := by simpa using e1
                    by_cases e2 : 4352 ≤ hi'
                    · have d2 : decide (4352 ≤ hi') = true := by simpa using e2
                      go_wp2
                      go_quiet (fail)
                      go_wp2
                      go_ret
                      exact ⟨ret_int (HC.out (HB.out.2 (by omega))).symm, below_drewN HBW.out _⟩
                    · have d2 : decide (4352 ≤ hi') = false := by simpa using e2
                      go_wp2
                      go_quiet (fail)
                      go_wp2
                      go_roundw
                      case rel => exact ⟨1, by omega, by omega, rfl, by have := HG.out; omega, by have := HG.out; omega, by have := HG.out; omega, by have := HG.out; omega, ⟨_, rfl⟩⟩
                      case measure => simp [intOf]
                  · have d1 : decide (lo ≤ 4370) = false := by simpa using e1
                    go_wp2
                    go_quiet (fail)
                    go_wp2
                    go_roundw
                    case rel => exact ⟨1, by omega, by omega, rfl, by have := HG.out; omega, by have := HG.out; omega, by have := HG.out; omega, by have := HG.out; omega, ⟨_, rfl⟩⟩
                    case measure => simp [intOf]
                · by_cases e1 : lo ≤ 4469
                  · have d1 : decide (lo ≤ 4469) = true := by simpa using e1
                    by_cases e2 : 4449 ≤ hi'
                    · have d2 : decide (4449 ≤ hi') = true := by simpa using e2
                      go_wp2
                      go_quiet (fail)
                      go_wp2
                      go_ret
                      exact ⟨ret_int (HC.out (HB.out.2 (by omega))).symm, below_drewN HBW.out _⟩
                    · have d2 : decide (4449 ≤ hi') = false := by simpa using e2
                      go_wp2
                      go_quiet (fail)
                      go_wp2
                      go_roundw
                      case rel => exact ⟨2, by omega, by omega, rfl, by have := HG.out; omega, by have := HG.out; omega, by have := HG.out; omega, by have := HG.out; omega, ⟨_, rfl⟩⟩
                      case measure => simp [intOf]
                  · have d1 : decide (lo ≤ 4469) = false := by simpa using e1
                    go_wp2
                    go_quiet (fail)
                    go_wp2
                    go_roundw
                    case rel => exact ⟨2, by omega, by omega, rfl, by have := HG.out; omega, by have := HG.out; omega, by have := HG.out; omega, by have := HG.out; omega, ⟨_, rfl⟩⟩
                    case measure => simp [intOf]
                · by_cases e1 : lo ≤ 4546
                  · have d1 : decide (lo ≤ 4546) = true := by simpa using e1
                    by_cases e2 : 4520 ≤ hi'
                    · have d2 : decide (4520 ≤ hi') = true := by simpa using e2
                      go_wp2
                      go_quiet (fail)
                      go_wp2
                      go_ret
                      exact ⟨ret_int (HC.out (HB.out.2 (by omega))).symm, below_drewN HBW.out _⟩
                    · have d2 : decide (4520 ≤ hi') = false := by simpa using e2
                      go_wp2
                      go_quiet (fail)
                      go_wp2
                      go_roundw
                      case rel => exact ⟨3, by omega, by omega, rfl, by have := HG.out; omega, by have := HG.out; omega, by have := HG.out; omega, by have := HG.out; omega, ⟨_, rfl⟩⟩
                      case measure => simp [intOf]
                  · have d1 : decide (lo ≤ 4546) = false := by simpa using e1
                    go_wp2
                    go_quiet (fail)
                    go_wp2
                    go_roundw
                    case rel => exact ⟨3, by omega, by omega, rfl, by have := HG.out; omega, by have := HG.out; omega, by have := HG.out; omega, by have := HG.out; omega, ⟨_, rfl⟩⟩
                    case measure => simp [intOf]
                · by_cases e1 : lo ≤ 55203
                  · have d1 : decide (lo ≤ 55203) = true := by simpa using e1
                    by_cases e2 : 44032 ≤ hi'
                    · have d2 : decide (44032 ≤ hi') = true := by simpa using e2
                      go_wp2
                      go_quiet (fail)
                      go_wp2
                      go_ret
                      exact ⟨ret_int (HC.out (HB.out.2 (by omega))).symm, below_drewN HBW.out _⟩
                    · have d2 : decide (44032 ≤ hi') = false := by simpa using e2
                      go_wp2
                      go_quiet (fail)
                      go_wp2
                      go_roundw
                      case rel => exact ⟨4, by omega, by omega, rfl, by have := HG.out; omega, by have := HG.out; omega, by have := HG.out; omega, by have := HG.out; omega, ⟨_, rfl⟩⟩
                      case measure => simp [intOf]
                  · have d1 : decide (lo ≤ 55203) = false := by simpa using e1
                    go_wp2
                    go_quiet (fail)
                    go_wp2
                    go_roundw
                    case rel => exact ⟨4, by omega, by omega, rfl, by have := HG.out; omega, by have := HG.out; omega, by have := HG.out; omega, by have := HG.out; omega, ⟨_, rfl⟩⟩
                    case measure => simp [intOf]
                · go_wp2
                  go_roundw
                  case rel => exact ⟨i + 1, by omega, by go_num, HN.out (fun h => by have h1 := HB.out.1 h; have h2 := HG.out; omega), below_drewN hbel4 _⟩
                  case measure => simp [intOf]; omega
            · have HC := Lib.hid (chk_0 (ss := ss) H1'.out H2'.out (fun t ht => H3.out t ht (by omega)))
              go_wp2
              go_ret
              exact ⟨ret_int HC.out.symm, hbel3⟩

end Go.Proofs.YthagfcdleapooaaDoor
