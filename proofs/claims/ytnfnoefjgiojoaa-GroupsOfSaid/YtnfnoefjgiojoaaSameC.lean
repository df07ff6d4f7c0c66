/- Equal collations are found equal: sameInts, Same of elements, Same. -/
import Derived.Test.YtnfnoefjgiojoaaRefApply
namespace Go.Proofs.Ytnfnoefjgiojoaa
open Go.RowKit Go.Maps Go.WideMaps

theorem neq_elt (a b c : Int) (v : Bool) (w : World) : (binOp .neq 51 (.agg #[.int .i64 a, .int .i64 b, .int .i64 c, .bool v]) (.agg #[.int .i64 a, .int .i64 b, .int .i64 c, .bool v])).run Try.prog w = .ok (.bool false) w := by
  have u3 := Try.underlying3
  have a3 := Try.isAgg3
  have z3 := Try.sizeOf3
  have u4 := Try.underlying4
  have a4 := Try.isAgg4
  have z4 := Try.sizeOf4
  have hS : Try.prog.underlying 51 = some (.struct (Try.prog.fieldsOf 51)) := by kernel_rfl
  have hp : Try.prog.stoodInHeld 51 = false := by kernel_rfl
  rw [run_neq_struct, show (10000 : Nat) = 9999 + 1 from rfl, run_equalIn_agg w 9999 51 _ _ hS hp]
  simp only [Program.fieldsOf, Try.underlying51]
  go_simp

set_option maxRecDepth 100000 in
set_option maxHeartbeats 3200000 in
theorem sameInts_eq (A : Option Addr) (n a : Nat) (B : Option Addr) (b : Nat) (zs : List Int) (w : World) (hA : Ints w A zs) (hB : Ints w B zs) (hn : zs.length = n) (hb : n ≤ 1048576) :
    Calls Try.prog 38 #[.slice A n a, .slice B n b] w fun e w' => e = .returned (.bool true) ∧ Qt w w' := by
  subst hn
  have HA := Lib.hid hA; have HB := Lib.hid hB
  clear hA hB
  go_enter Try.func38, Try.ntmps38
  go_wp2_with fail
  go_loopw [5] (fun u wr => ∃ i : Nat, i ≤ zs.length ∧ u = .int .i64 i ∧ Qt w wr) (fun u _ => zs.length - (intOf u).toNat)
  case atStart => exact ⟨0, Nat.zero_le _, rfl, Qt.refl _⟩
  case round =>
    obtain ⟨i, hi, rfl, hq⟩ := hrel
    by_cases hlt : i < zs.length
    · obtain ⟨b1, o1, rfl, hcell⟩ := (HA.out.below hq.below).at hlt
      have c1 := hcell i hlt
      obtain ⟨b2, o2, rfl, hcell2⟩ := (HB.out.below hq.below).at hlt
      have d1 := hcell2 i hlt
      have q2 : (i : Int) < (zs.length : Int) := by omega
      clear hcell hcell2
      generalize zs[i] = z at *
      go_wp2_with fail
      go_quiet (fail)
      go_wp2_with fail
      go_roundw
      case rel => exact ⟨i + 1, by omega, by go_num, hq.drewN _⟩
      case measure => simp [intOf]; omega
    · go_wp2_with fail
      go_ret
      exact ⟨rfl, hq⟩

set_option maxRecDepth 100000 in
set_option maxHeartbeats 3200000 in
theorem sameElts_eq (A : Option Addr) (n a : Nat) (B : Option Addr) (b : Nat) (zs : List Elt) (w : World) (hA : Elts w A zs) (hB : Elts w B zs) (hn : zs.length = n) (hb : n ≤ 1048576) :
    Calls Try.prog 39 #[.slice A n a, .slice B n b] w fun e w' => e = .returned (.bool true) ∧ Qt w w' := by
  subst hn
  have HA := Lib.hid hA; have HB := Lib.hid hB
  have hg : Try.prog.eqGuardType Try.prog.depth 51 = false := by kernel_rfl
  have hneq := neq_elt
  clear hA hB
  go_enter Try.func39, Try.ntmps39
  go_wp2_with fail
  go_loopw [5] (fun u wr => ∃ i : Nat, i ≤ zs.length ∧ u = .int .i64 i ∧ Qt w wr) (fun u _ => zs.length - (intOf u).toNat)
  case atStart => exact ⟨0, Nat.zero_le _, rfl, Qt.refl _⟩
  case round =>
    obtain ⟨i, hi, rfl, hq⟩ := hrel
    by_cases hlt : i < zs.length
    · obtain ⟨b1, o1, rfl, hbl, hcell⟩ := (HA.out.below hq.below).at hlt
      obtain ⟨c1, c2, c3, c4⟩ := hcell i hlt
      obtain ⟨b2, o2, rfl, hbl2, hcell2⟩ := (HB.out.below hq.below).at hlt
      obtain ⟨d1, d2, d3, d4⟩ := hcell2 i hlt
      have q2 : (i : Int) < (zs.length : Int) := by omega
      clear hcell hcell2
      generalize zs[i] = z at *
      obtain ⟨zp, zs', zt, zv⟩ := z
      dsimp only at *
      have hneq1 := fun W => hneq zp zs' zt zv W
      clear hneq
      go_wp2_with fail
      go_quiet (fail)
      go_wp2_with fail
      go_roundw
      case rel => exact ⟨i + 1, by omega, by go_num, hq.drewN _⟩
      case measure => simp [intOf]; omega
    · go_wp2_with fail
      go_ret
      exact ⟨rfl, hq⟩

set_option maxRecDepth 100000 in
set_option maxHeartbeats 3200000 in
theorem sameC_eq (A : Option Addr) (n a : Nat) (B : Option Addr) (m b : Nat) (A' : Option Addr) (n' a' : Nat) (B' : Option Addr) (m' b' : Nat) (c : Col) (w : World) (h : ColAt w A n B m c) (h' : ColAt w A' n' B' m' c) (hz : ColSz c) :
    Calls Try.prog 21 #[colV A n a B m b c, colV A' n' a' B' m' b' c] w fun e w' => e = .returned (.bool true) ∧ Below w.heap.size w w' := by
  obtain rfl : n' = n := h'.hn.symm.trans h.hn
  obtain rfl : m' = m := h'.hm.symm.trans h.hm
  have hm := h.hm
  have hn := h.hn
  have B0 : Below w.heap.size w ((w.alloc (.cells #[.slice A n' a, .slice B m' b, .int .i64 c.base, .int .i64 c.second, .int .i64 c.third] 25)).alloc (.cells #[.slice A' n' a', .slice B' m' b', .int .i64 c.base, .int .i64 c.second, .int .i64 c.third] 25)) := ((Below.refl _ _).alloc (Nat.le_refl _) _).alloc (by simp) _
  have k0 : ((w.alloc (.cells #[.slice A n' a, .slice B m' b, .int .i64 c.base, .int .i64 c.second, .int .i64 c.third] 25)).alloc (.cells #[.slice A' n' a', .slice B' m' b', .int .i64 c.base, .int .i64 c.second, .int .i64 c.third] 25)).cell? ⟨w.heap.size, 0, none⟩ = some (.slice A n' a) := by simp
  have k1 : ((w.alloc (.cells #[.slice A n' a, .slice B m' b, .int .i64 c.base, .int .i64 c.second, .int .i64 c.third] 25)).alloc (.cells #[.slice A' n' a', .slice B' m' b', .int .i64 c.base, .int .i64 c.second, .int .i64 c.third] 25)).cell? ⟨w.heap.size, 1, none⟩ = some (.slice B m' b) := by simp
  have k2 : ((w.alloc (.cells #[.slice A n' a, .slice B m' b, .int .i64 c.base, .int .i64 c.second, .int .i64 c.third] 25)).alloc (.cells #[.slice A' n' a', .slice B' m' b', .int .i64 c.base, .int .i64 c.second, .int .i64 c.third] 25)).cell? ⟨w.heap.size, 2, none⟩ = some (.int .i64 c.base) := by simp
  have k3 : ((w.alloc (.cells #[.slice A n' a, .slice B m' b, .int .i64 c.base, .int .i64 c.second, .int .i64 c.third] 25)).alloc (.cells #[.slice A' n' a', .slice B' m' b', .int .i64 c.base, .int .i64 c.second, .int .i64 c.third] 25)).cell? ⟨w.heap.size, 3, none⟩ = some (.int .i64 c.second) := by simp
  have k4 : ((w.alloc (.cells #[.slice A n' a, .slice B m' b, .int .i64 c.base, .int .i64 c.second, .int .i64 c.third] 25)).alloc (.cells #[.slice A' n' a', .slice B' m' b', .int .i64 c.base, .int .i64 c.second, .int .i64 c.third] 25)).cell? ⟨w.heap.size, 4, none⟩ = some (.int .i64 c.third) := by simp
  have l0 : ((w.alloc (.cells #[.slice A n' a, .slice B m' b, .int .i64 c.base, .int .i64 c.second, .int .i64 c.third] 25)).alloc (.cells #[.slice A' n' a', .slice B' m' b', .int .i64 c.base, .int .i64 c.second, .int .i64 c.third] 25)).cell? ⟨w.heap.size + 1, 0, none⟩ = some (.slice A' n' a') := by simp
  have l1 : ((w.alloc (.cells #[.slice A n' a, .slice B m' b, .int .i64 c.base, .int .i64 c.second, .int .i64 c.third] 25)).alloc (.cells #[.slice A' n' a', .slice B' m' b', .int .i64 c.base, .int .i64 c.second, .int .i64 c.third] 25)).cell? ⟨w.heap.size + 1, 1, none⟩ = some (.slice B' m' b') := by simp
  have l2 : ((w.alloc (.cells #[.slice A n' a, .slice B m' b, .int .i64 c.base, .int .i64 c.second, .int .i64 c.third] 25)).alloc (.cells #[.slice A' n' a', .slice B' m' b', .int .i64 c.base, .int .i64 c.second, .int .i64 c.third] 25)).cell? ⟨w.heap.size + 1, 2, none⟩ = some (.int .i64 c.base) := by simp
  have l3 : ((w.alloc (.cells #[.slice A n' a, .slice B m' b, .int .i64 c.base, .int .i64 c.second, .int .i64 c.third] 25)).alloc (.cells #[.slice A' n' a', .slice B' m' b', .int .i64 c.base, .int .i64 c.second, .int .i64 c.third] 25)).cell? ⟨w.heap.size + 1, 3, none⟩ = some (.int .i64 c.second) := by simp
  have l4 : ((w.alloc (.cells #[.slice A n' a, .slice B m' b, .int .i64 c.base, .int .i64 c.second, .int .i64 c.third] 25)).alloc (.cells #[.slice A' n' a', .slice B' m' b', .int .i64 c.base, .int .i64 c.second, .int .i64 c.third] 25)).cell? ⟨w.heap.size + 1, 4, none⟩ = some (.int .i64 c.third) := by simp
  have s0 : ((w.alloc (.cells #[.slice A n' a, .slice B m' b, .int .i64 c.base, .int .i64 c.second, .int .i64 c.third] 25)).alloc (.cells #[.slice A' n' a', .slice B' m' b', .int .i64 c.base, .int .i64 c.second, .int .i64 c.third] 25)).heap.size = w.heap.size + 2 := by simp
  have W0E : ∃ W0, (w.alloc (.cells #[.slice A n' a, .slice B m' b, .int .i64 c.base, .int .i64 c.second, .int .i64 c.third] 25)).alloc (.cells #[.slice A' n' a', .slice B' m' b', .int .i64 c.base, .int .i64 c.second, .int .i64 c.third] 25) = W0 := ⟨_, rfl⟩
  have HE := Lib.hid h.ents; have HE' := Lib.hid h'.ents
  have SG := Lib.hid (fun W (hb : Below w.heap.size w W) => sameG_any B m' b B' m' b' c.grps c.grps W (h.grps.below hb) (h'.grps.below hb) hm hm (by have := hz.m; omega) (by have := hz.m; omega))
  rw [decide_eq_true rfl] at SG
  have HZ := Lib.hid hz.e
  have hnz := hz.n
  unfold colV
  clear h h' hz
  generalize c.base = cb at *
  generalize c.second = cs at *
  generalize c.third = ct at *
  generalize c.ents = es at *
  subst hn
  go_enter Try.func21, Try.ntmps21
  go_wp2_with fail
  obtain ⟨W0, hW0⟩ := W0E
  rw [hW0] at B0 s0 k0 k1 k2 k3 k4 l0 l1 l2 l3 l4 ⊢
  clear hW0
  have hx0 : w.heap.size < W0.heap.size := by omega
  have hx1 : w.heap.size + 1 < W0.heap.size := by omega
  with_reducible refine (SG.out W0 B0).mono ?_
  rintro e W1 ⟨rfl, hq1⟩
  clear SG
  have g0 := (hq1.below.cell (p := ⟨w.heap.size, 0, none⟩) hx0).trans k0
  have g2 := (hq1.below.cell (p := ⟨w.heap.size, 2, none⟩) hx0).trans k2
  have g3 := (hq1.below.cell (p := ⟨w.heap.size, 3, none⟩) hx0).trans k3
  have g4 := (hq1.below.cell (p := ⟨w.heap.size, 4, none⟩) hx0).trans k4
  have d0 := (hq1.below.cell (p := ⟨w.heap.size + 1, 0, none⟩) hx1).trans l0
  have d2 := (hq1.below.cell (p := ⟨w.heap.size + 1, 2, none⟩) hx1).trans l2
  have d3 := (hq1.below.cell (p := ⟨w.heap.size + 1, 3, none⟩) hx1).trans l3
  have d4 := (hq1.below.cell (p := ⟨w.heap.size + 1, 4, none⟩) hx1).trans l4
  have K0 := Lib.hid (And.intro k0 l0)
  clear k0 k1 k2 k3 k4 l0 l1 l2 l3 l4
  go_wp2_with fail
  clear g0 g2 g3 g4 d0 d2 d3 d4
  go_loopw [5] (fun u wr => ∃ i : Nat, i ≤ es.length ∧ u = .int .i64 i ∧ Qt W0 wr) (fun u _ => es.length - (intOf u).toNat)
  case atStart => exact ⟨0, Nat.zero_le _, rfl, hq1⟩
  case round =>
    obtain ⟨i, hi, rfl, hq⟩ := hrel
    have g0 := (hq.below.cell (p := ⟨w.heap.size, 0, none⟩) hx0).trans K0.out.1
    have d0 := (hq.below.cell (p := ⟨w.heap.size + 1, 0, none⟩) hx1).trans K0.out.2
    have HBW := Lib.hid (B0.trans (hq.below.mono B0.size))
    by_cases hlt : i < es.length
    · obtain ⟨b1, o1, rfl, hbl, hcell⟩ := (HE.out.below HBW.out).at hlt
      obtain ⟨C, cc, E, dd, c1, c2, hC, hE⟩ := hcell i hlt
      obtain ⟨b2, o2, rfl, hbl2, hcell2⟩ := (HE'.out.below HBW.out).at hlt
      obtain ⟨C', cc', E', dd', c1', c2', hC', hE'⟩ := hcell2 i hlt
      obtain ⟨z1, z2⟩ := HZ.out i hlt
      have CI := Lib.hid (fun j => quiet_qt (sameInts_eq C es[i].codes.length cc C' cc' es[i].codes (wr.drewN j) (Sl.drewN hC j) (Sl.drewN hC' j) rfl z1))
      have CE := Lib.hid (fun j => quiet_qt (sameElts_eq E es[i].elems.length dd E' dd' es[i].elems (wr.drewN j) (Sl.drewN hE j) (Sl.drewN hE' j) rfl z2))
      have q2 : (i : Int) < (es.length : Int) := by omega
      clear hcell hcell2 hC hC' hE hE'
      generalize es[i].codes.length = cl at *
      generalize es[i].elems.length = el at *
      go_wp2_with fail
      go_quiet (first | (with_reducible exact CI.out _) | (with_reducible exact CE.out _))
      go_wp2_with fail
      go_roundw
      case rel => exact ⟨i + 1, by omega, by go_num, hq.drewN _⟩
      case measure => simp [intOf]; omega
    · go_wp2_with fail
      go_ret
      exact ⟨rfl, HBW.out⟩

end Go.Proofs.Ytnfnoefjgiojoaa
