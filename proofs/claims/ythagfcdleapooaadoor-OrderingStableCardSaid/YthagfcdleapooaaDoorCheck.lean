/- The contract of ordering.Check: it returns the first error of spans. -/
import Derived.Test.YthagfcdleapooaaDoorClass
import Derived.Test.YthagfcdleapooaaDoorCheckPlain
import Derived.RegionTactic
import Derived.BigRegion
import Derived.Deep.Light
namespace Go.Proofs.YthagfcdleapooaaDoor
open Go.RowKit

/-- the table of Hangul ranges lies in its variable -/
def Laid (w : World) : Prop :=
  w.cell? ⟨0, 0, none⟩ = some (.int .i64 4352) ∧ w.cell? ⟨0, 1, none⟩ = some (.int .i64 4370) ∧
  w.cell? ⟨0, 2, none⟩ = some (.int .i64 4449) ∧ w.cell? ⟨0, 3, none⟩ = some (.int .i64 4469) ∧
  w.cell? ⟨0, 4, none⟩ = some (.int .i64 4520) ∧ w.cell? ⟨0, 5, none⟩ = some (.int .i64 4546) ∧
  w.cell? ⟨0, 6, none⟩ = some (.int .i64 44032) ∧ w.cell? ⟨0, 7, none⟩ = some (.int .i64 55203)

theorem Laid.below {w w' : World} (h : Laid w) (hb : Below w.heap.size w w') : Laid w' := by
  obtain ⟨h0, h1, h2, h3, h4, h5, h6, h7⟩ := h
  exact ⟨(hb.cell (World.block_lt_of_cell? w _ h0)).trans h0, (hb.cell (World.block_lt_of_cell? w _ h1)).trans h1, (hb.cell (World.block_lt_of_cell? w _ h2)).trans h2, (hb.cell (World.block_lt_of_cell? w _ h3)).trans h3,
    (hb.cell (World.block_lt_of_cell? w _ h4)).trans h4, (hb.cell (World.block_lt_of_cell? w _ h5)).trans h5, (hb.cell (World.block_lt_of_cell? w _ h6)).trans h6, (hb.cell (World.block_lt_of_cell? w _ h7)).trans h7⟩

theorem idx0 (W : World) : (Instr.index 45 (.agg #[.int .i64 4352, .int .i64 4370, .int .i64 4449, .int .i64 4469, .int .i64 4520, .int .i64 4546, .int .i64 44032, .int .i64 55203]) (.int .i64 0)).run Tryd.prog W = .ok (.agg #[.int .i64 4352, .int .i64 4370]) W := by kernel_rfl
theorem idx1 (W : World) : (Instr.index 45 (.agg #[.int .i64 4352, .int .i64 4370, .int .i64 4449, .int .i64 4469, .int .i64 4520, .int .i64 4546, .int .i64 44032, .int .i64 55203]) (.int .i64 1)).run Tryd.prog W = .ok (.agg #[.int .i64 4449, .int .i64 4469]) W := by kernel_rfl
theorem idx2 (W : World) : (Instr.index 45 (.agg #[.int .i64 4352, .int .i64 4370, .int .i64 4449, .int .i64 4469, .int .i64 4520, .int .i64 4546, .int .i64 44032, .int .i64 55203]) (.int .i64 2)).run Tryd.prog W = .ok (.agg #[.int .i64 4520, .int .i64 4546]) W := by kernel_rfl
theorem idx3 (W : World) : (Instr.index 45 (.agg #[.int .i64 4352, .int .i64 4370, .int .i64 4449, .int .i64 4469, .int .i64 4520, .int .i64 4546, .int .i64 44032, .int .i64 55203]) (.int .i64 3)).run Tryd.prog W = .ok (.agg #[.int .i64 44032, .int .i64 55203]) W := by kernel_rfl

set_option maxHeartbeats 4000000 in
theorem Check_any (A : Option Addr) (n k : Nat) (ss : List Spn) (w : World) (hA : Spans w A ss) (hn : ss.length = n) (hbig : n ≤ 1099511627776) (hL : Laid w) :
    Calls Tryd.prog 13 #[.slice A n k] w (RetInt (chk ss) w) := by
  subst hn
  go_enter Tryd.func13, Tryd.ntmps13
  go_wp2
  go_loopw [14] (fun u wr => ∃ i : Nat, i ≤ ss.length ∧ u = .int .i64 i ∧ (∀ t, (ht : t < ss.length) → t < i → ¬ Bad1 ss[t]) ∧ Below w.heap.size w wr) (fun u _ => ss.length - (intOf u).toNat)
  case atStart => exact ⟨0, Nat.zero_le _, rfl, fun t _ h => by omega, Below.refl _ _⟩
  case round =>
    obtain ⟨i, hi, rfl, h1, hbel⟩ := hrel
    have H1 := Lib.hid h1; clear h1
    by_cases hlt : i < ss.length
    · obtain ⟨b, o, rfl, hbl, hcell⟩ := (hA.below hbel).at hlt
      obtain ⟨c1, c2, c3⟩ := hcell i hlt
      clear hcell
      have HB := Lib.hid (show Bad1 ss[i] ↔ (ss[i].lo < 0 ∨ 1114111 < ss[i].hi ∨ ss[i].hi < ss[i].lo ∨ ss[i].val < 1 ∨ 254 < ss[i].val) from Iff.rfl)
      have HC := Lib.hid (fun h => chk_1 (ss := ss) hlt h)
      have HN := Lib.hid (fun h => all_succ (P := Bad1) hlt H1.out h)
      generalize Bad1 ss[i] = Bd at *
      generalize ss[i].lo = lo at *
      generalize ss[i].hi = hi' at *
      generalize ss[i].val = v at *
      go_wp2
      all_goals first
        | (go_ret
           exact ⟨ret_int (HC.out (HB.out.2 (by omega))).symm, hbel.alloc hbel.size _⟩)
        | (go_roundw
           case rel => exact ⟨i + 1, by omega, by go_num, HN.out (fun h => by have := HB.out.1 h; omega), hbel.alloc hbel.size _⟩
           case measure => simp [intOf]; omega)
    · have H1' := Lib.hid (fun t (ht : t < ss.length) => H1.out t ht (by omega))
      clear H1
      go_wp2
      go_loopw [5] (fun u wr => ∃ i : Nat, i ≤ ss.length ∧ u = .int .i64 ((i : Int) + 1) ∧ (∀ t, (ht : t + 1 < ss.length) → t < i → ¬ Bad2 ss[t] ss[t + 1]) ∧ Below w.heap.size w wr) (fun u _ => ss.length + 1 - (intOf u).toNat)
      case atStart => exact ⟨0, Nat.zero_le _, rfl, fun t _ h => by omega, hbel⟩
      case round =>
        obtain ⟨j, hj, rfl, h2, hbel2⟩ := hrel
        have H2 := Lib.hid h2; clear h2
        by_cases hlt2 : j + 1 < ss.length
        · obtain ⟨b, o, rfl, hbl, hcell⟩ := (hA.below hbel2).at hlt2
          obtain ⟨c1, c2, c3⟩ := hcell j (by omega)
          obtain ⟨c4, c5, c6⟩ := hcell (j + 1) hlt2
          clear hcell
          have hmax := H1'.out j (by omega)
          have hmax2 : ss[j].hi ≤ 1114111 ∧ 0 ≤ ss[j].hi := by unfold Bad1 at hmax; omega
          clear hmax
          have HB := Lib.hid (show Bad2 ss[j] ss[j + 1] ↔ (ss[j + 1].lo ≤ ss[j].hi ∨ (ss[j + 1].lo = ss[j].hi + 1 ∧ ss[j + 1].val = ss[j].val)) from Iff.rfl)
          have HC := Lib.hid (fun h => chk_4 (ss := ss) H1'.out hlt2 h)
          have HN := Lib.hid (fun h => pair_succ (P := Bad2) hlt2 H2.out h)
          generalize Bad2 ss[j] ss[j + 1] = Bd at *
          generalize ss[j].lo = lo at *
          generalize ss[j].hi = hi' at *
          generalize ss[j].val = v at *
          generalize ss[j + 1].lo = lo2 at *
          generalize ss[j + 1].hi = hi2 at *
          generalize ss[j + 1].val = v2 at *
          obtain ⟨hm1, hm2⟩ := hmax2
          by_cases t1 : lo2 ≤ hi'
          · have d1 : decide (lo2 ≤ hi') = true := by simpa using t1
            go_wp2
            go_region
            all_goals
              go_wp2
              go_ret
              exact ⟨ret_int (HC.out (HB.out.2 (by omega))).symm, by repeat (first | exact hbel2 | refine Below.drew ?_ | refine Below.alloc ?_ (by have := hbel2.size; simp; omega) _)⟩
          · have d1 : decide (lo2 ≤ hi') = false := by simpa using t1
            by_cases t2 : lo2 = hi' + 1
            · have d2 : (lo2 == hi' + 1) = true := by simpa using t2
              by_cases t3 : v2 = v
              · have d3 : (v2 == v) = true := by simpa using t3
                have HT2 := Lib.hid t2; have HT3 := Lib.hid t3; clear t2 t3
                go_wp2
                go_region
                all_goals
                  go_wp2
                  go_ret
                  exact ⟨ret_int (HC.out (HB.out.2 (.inr ⟨HT2.out, HT3.out⟩))).symm, by repeat (first | exact hbel2 | refine Below.drew ?_ | refine Below.alloc ?_ (by have := hbel2.size; simp; omega) _)⟩
              · have d3 : (v2 == v) = false := by simpa using t3
                have HT2 := Lib.hid t2; have HT3 := Lib.hid t3; clear t2 t3
                go_wp2
                go_region
                all_goals
                  go_wp2
                  go_roundw
                  case rel => exact ⟨j + 1, by omega, by go_num, HN.out (fun h => by have := HB.out.1 h; have := HT3.out; omega), by repeat (first | exact hbel2 | refine Below.drew ?_ | refine Below.alloc ?_ (by have := hbel2.size; simp; omega) _)⟩
                  case measure => simp [intOf]; omega
            · have d2 : (lo2 == hi' + 1) = false := by simpa using t2
              have HT2 := Lib.hid t2; clear t2
              go_wp2
              go_region
              all_goals
                go_wp2
                go_roundw
                case rel => exact ⟨j + 1, by omega, by go_num, HN.out (fun h => by have := HB.out.1 h; have := HT2.out; omega), by repeat (first | exact hbel2 | refine Below.drew ?_ | refine Below.alloc ?_ (by have := hbel2.size; simp; omega) _)⟩
                case measure => simp [intOf]; omega
        · have H2' := Lib.hid (fun t (ht : t + 1 < ss.length) => H2.out t ht (by omega))
          clear H2
          go_wp2
          go_loopw [81] (fun u wr => ∃ i : Nat, i ≤ ss.length ∧ u = .int .i64 i ∧ (∀ t, (ht : t < ss.length) → t < i → ¬ Bad3 ss[t]) ∧ Below w.heap.size w wr) (fun u _ => ss.length - (intOf u).toNat)
          case atStart => exact ⟨0, Nat.zero_le _, rfl, fun t _ h => by omega, hbel2⟩
          case round =>
            obtain ⟨i, hi, rfl, h3, hbel3⟩ := hrel
            have H3 := Lib.hid h3; clear h3
            by_cases hlt3 : i < ss.length
            · obtain ⟨b, o, rfl, hbl, hcell⟩ := (hA.below hbel3).at hlt3
              obtain ⟨c1, c2, c3⟩ := hcell i hlt3
              obtain ⟨l0, l1, l2, l3, l4, l5, l6, l7⟩ := hL.below hbel3
              clear hcell
              have hz : 0 < wr.heap.size := World.block_lt_of_cell? wr _ l0
              have HB := Lib.hid (show Bad3 ss[i] ↔ ((ss[i].lo ≤ 4370 ∧ 4352 ≤ ss[i].hi) ∨ (ss[i].lo ≤ 4469 ∧ 4449 ≤ ss[i].hi) ∨ (ss[i].lo ≤ 4546 ∧ 4520 ≤ ss[i].hi) ∨ (ss[i].lo ≤ 55203 ∧ 44032 ≤ ss[i].hi)) from Iff.rfl)
              have HC := Lib.hid (fun h => chk_11 (ss := ss) H1'.out H2'.out hlt3 h)
              have HN := Lib.hid (fun h => all_succ (P := Bad3) hlt3 H3.out h)
              generalize Bad3 ss[i] = Bd at *
              generalize ss[i].lo = lo at *
              generalize ss[i].hi = hi' at *
              generalize ss[i].val = v at *
              obtain ⟨wo, rfl⟩ : ∃ wo : World, wo = wr := ⟨_, rfl⟩
              go_wp2
              have hB9 : Below w.heap.size w (wo.alloc (.cells #[.int .i64 lo, .int .i64 hi', .int .i64 v] 44)) := hbel3.alloc hbel3.size _
              go_loopw [86] (fun u wr => ∃ j : Int, 0 ≤ j ∧ j ≤ 4 ∧ u = .int .i64 j ∧ (0 < j → ¬ (lo ≤ 4370 ∧ 4352 ≤ hi')) ∧ (1 < j → ¬ (lo ≤ 4469 ∧ 4449 ≤ hi')) ∧ (2 < j → ¬ (lo ≤ 4546 ∧ 4520 ≤ hi')) ∧ (3 < j → ¬ (lo ≤ 55203 ∧ 44032 ≤ hi')) ∧
                  Below (wo.heap.size + 1) (wo.alloc (.cells #[.int .i64 lo, .int .i64 hi', .int .i64 v] 44)) wr) (fun u _ => 4 - (intOf u).toNat)
              case atStart => exact ⟨0, by omega, by omega, rfl, by omega, by omega, by omega, by omega, Below.refl _ _⟩
              case round =>
                obtain ⟨j, hj0, hj4, rfl, g0, g1, g2, g3, hbw⟩ := hrel
                have a0 : wr.cell? ⟨wo.heap.size, 0, none⟩ = some (.int .i64 lo) := (hbw.cell (p := ⟨wo.heap.size, 0, none⟩) (by simp)).trans (by simp [World.cell?_alloc_at])
                have a1 : wr.cell? ⟨wo.heap.size, 1, none⟩ = some (.int .i64 hi') := (hbw.cell (p := ⟨wo.heap.size, 1, none⟩) (by simp)).trans (by simp [World.cell?_alloc_at])
                have hsz : wo.heap.size < wr.heap.size := by have := hbw.size; simp at this; omega
                have HBW := Lib.hid (hB9.trans (hbw.mono (by have := hbel3.size; omega)))
                have HG := Lib.hid (And.intro g0 (And.intro g1 (And.intro g2 g3)))
                clear g0 g1 g2 g3
                have x0 := idx0; have x1 := idx1; have x2 := idx2; have x3 := idx3
                obtain rfl | rfl | rfl | rfl | rfl : j = 0 ∨ j = 1 ∨ j = 2 ∨ j = 3 ∨ j = 4 := by omega
                all_goals go_wp2
                all_goals first
                  | (go_ret
                     exact ⟨ret_int (HC.out (HB.out.2 (by omega))).symm, HBW.out.alloc (by have := hbel3.size; omega) _⟩)
                  | (go_roundw
                     case rel => exact ⟨i + 1, by omega, by go_num, HN.out (fun h => by have h1 := HB.out.1 h; have h2 := HG.out; omega), HBW.out⟩
                     case measure => simp [intOf]; omega)
                  | (go_roundw
                     case rel => exact ⟨1, by omega, by omega, rfl, by have := HG.out; omega, by have := HG.out; omega, by have := HG.out; omega, by have := HG.out; omega, hbw.alloc (by omega) _⟩
                     case measure => simp [intOf])
                  | (go_roundw
                     case rel => exact ⟨2, by omega, by omega, rfl, by have := HG.out; omega, by have := HG.out; omega, by have := HG.out; omega, by have := HG.out; omega, hbw.alloc (by omega) _⟩
                     case measure => simp [intOf])
                  | (go_roundw
                     case rel => exact ⟨3, by omega, by omega, rfl, by have := HG.out; omega, by have := HG.out; omega, by have := HG.out; omega, by have := HG.out; omega, hbw.alloc (by omega) _⟩
                     case measure => simp [intOf])
                  | (go_roundw
                     case rel => exact ⟨4, by omega, by omega, rfl, by have := HG.out; omega, by have := HG.out; omega, by have := HG.out; omega, by have := HG.out; omega, hbw.alloc (by omega) _⟩
                     case measure => simp [intOf])
            · have HC := Lib.hid (chk_0 (ss := ss) H1'.out H2'.out (fun t ht => H3.out t ht (by omega)))
              go_wp2
              go_ret
              exact ⟨ret_int HC.out.symm, hbel3⟩

end Go.Proofs.YthagfcdleapooaaDoor
