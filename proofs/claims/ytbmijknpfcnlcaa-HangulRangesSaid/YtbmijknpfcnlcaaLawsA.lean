/- The walks of the laws HangulKinds, HangulComposes, HangulSplits, HangulNumbers: each returns true for every input. -/
import Derived.Test.YtbmijknpfcnlcaaAwake
import Derived.Deep.QuietTactic
import Derived.BigQuiet
import Derived.Deep.RegionWith
namespace Go.Proofs.Ytbmijknpfcnlcaa
open Go.RowKit

theorem decomp_len (c : Int) : (Hg.decomp c).length ≤ 3 := by unfold Hg.decomp; (repeat' split) <;> simp

set_option maxHeartbeats 400000 in
theorem HangulKinds_any (c : Int) (w : World) : Calls Try.prog 3 #[.int .i64 c] w (RetTrue w) := by
  have hl := decomp_len c
  have C1 := Lib.hid (Decompose_any c)
  have C2 := Lib.hid (refDecompose_any c)
  have K1 := Lib.hid (Kind_any c)
  have K2 := Lib.hid (refKind_any c)
  generalize Hg.kind c = k at *
  generalize Hg.decomp c = zs at *
  have hd : decide (zs = zs) = true := by simp
  go_enter Try.func3, Try.ntmps3
  go_wp2_with fail
  refine (K1.out _).mono ?_
  rintro e w' ⟨rfl, rfl⟩
  go_wp2_with fail
  refine (K2.out _).mono ?_
  rintro e w' ⟨rfl, rfl⟩
  go_wp2_with fail
  refine (C1.out _).mono ?_
  rintro e w1 ⟨A1, c1, rfl, hc1, hA1, hb1⟩
  go_wp2_with fail
  refine (C2.out _).mono ?_
  rintro e w2 ⟨A2, c2, rfl, hc2, hA2, hb2⟩
  go_wp2_with fail
  refine (Equal_any A1 A2 _ _ c1 c2 zs zs w2 (hA1.below hb2) hA2 rfl rfl (by omega) (by omega)).mono ?_
  rintro e w3 ⟨rfl, q, rfl⟩
  go_wp2_with fail
  refine (awake_any _).mono ?_
  rintro e w4 ⟨rfl, hb4⟩
  go_wp2_with fail
  go_ret
  have B2 : Below w.heap.size w w2 := hb1.trans (hb2.mono hb1.size)
  exact ⟨rfl, (below_drewN B2 q).trans (hb4.mono B2.size)⟩

set_option maxHeartbeats 400000 in
theorem HangulComposes_any (a b : Int) (w : World) : Calls Try.prog 4 #[.int .i64 a, .int .i64 b] w (RetTrue w) := by
  have C1 := Lib.hid (Compose_any a b)
  have C2 := Lib.hid (refCompose_any a b)
  generalize Hg.comp a b = p at *
  obtain ⟨p1, p2⟩ := p
  go_enter Try.func4, Try.ntmps4
  go_wp2_with fail
  refine (C1.out _).mono ?_
  rintro e w1 ⟨rfl, hb1⟩
  go_wp2_with fail
  refine (C2.out _).mono ?_
  rintro e w2 ⟨rfl, hb2⟩
  go_wp2_with fail
  refine (awake_any _).mono ?_
  rintro e w4 ⟨rfl, hb4⟩
  go_wp2_with fail
  go_ret
  have B2 : Below w.heap.size w w2 := hb1.trans (hb2.mono hb1.size)
  exact ⟨rfl, B2.trans (hb4.mono B2.size)⟩

theorem flat2_get (rs : List (Nat × Nat)) (k : Nat) (hk : k < rs.length) : (flat2 rs)[k * 2]? = some (.int .i64 (rs[k].1 : Int)) ∧ (flat2 rs)[k * 2 + 1]? = some (.int .i64 (rs[k].2 : Int)) := by
  induction rs generalizing k with
  | nil => simp at hk
  | cons r rs ih =>
    cases k with
    | zero => simp [flat2]
    | succ k =>
      have := ih k (by simpa using hk)
      simp only [flat2, List.flatMap_cons, List.cons_append, List.nil_append, List.getElem_cons_succ] at *
      rw [show (k + 1) * 2 = k * 2 + 1 + 1 by omega]
      simpa using this

/-- the cells of a range of a slice of ranges -/
theorem Sl.range {w : World} {A : Option Addr} {rs : List (Nat × Nat)} (h : Sl w A (flat2 rs)) {k : Nat} (hk : k < rs.length) :
    ∃ b o, A = some ⟨b, o, none⟩ ∧ b < w.heap.size ∧ ∀ j, (hj : j < rs.length) → w.cell? ⟨b, o + j * 2, none⟩ = some (.int .i64 (rs[j].1 : Int)) ∧ w.cell? ⟨b, o + j * 2 + 1, none⟩ = some (.int .i64 (rs[j].2 : Int)) := by
  obtain ⟨b, o, rfl, hc⟩ := Sl.at h (k := k * 2) (by rw [flat2_len]; omega)
  refine ⟨b, o, rfl, World.block_lt_of_cell? w _ (hc _ _ (flat2_get rs k hk).1), fun j hj => ⟨?_, ?_⟩⟩
  · exact hc _ _ (flat2_get rs j hj).1
  · exact hc _ _ (flat2_get rs j hj).2

theorem sp_len0 (l : List Int) : (Hg.sp l 0).length ≤ l.length := Hg.sp_len l 0

set_option maxHeartbeats 800000 in
theorem HangulSplits_any (A : Option Addr) (n c : Nat) (l : List Int) (w : World) (hA : Ints w A l) (hn : l.length = n) (hnc : n ≤ c) (hbig : n ≤ 9223372036854775807) :
    Calls Try.prog 5 #[.slice A n c] w (RetTrue w) := by
  by_cases h5 : 500 < n
  · clear hn hA
    go_enter Try.func5, Try.ntmps5
    go_wp2_with fail
    refine (awake_any _).mono ?_
    rintro e w4 ⟨rfl, hb4⟩
    go_wp2_with fail
    go_ret
    exact ⟨rfl, hb4⟩
  · have hr := sp_len0 l
    have C1 := Lib.hid (fun W (hW : Below w.heap.size w W) => Split_any A n c l W (hA.below hW) hn hnc (by omega))
    have C2 := Lib.hid (fun W (hW : Below w.heap.size w W) => refSplit_any A n c l W (hA.below hW) hn hnc (by omega))
    rw [hn] at hr
    generalize Hg.sp l 0 = rs at *
    clear hn hA
    go_enter Try.func5, Try.ntmps5
    go_wp2_with fail
    refine (C1.out _ (Below.refl _ _)).mono ?_
    rintro e w1 ⟨A1, c1, rfl, hc1, hA1, hb1⟩
    go_wp2_with fail
    refine (C2.out _ hb1).mono ?_
    rintro e w2 ⟨A2, c2, rfl, hc2, hA2, hb2⟩
    have B2 : Below w.heap.size w w2 := hb1.trans (hb2.mono hb1.size)
    have hA1' := hA1.below hb2
    clear hb2 hb1 hA1 C1 C2
    go_wp2_with fail
    go_loopw [5] (fun i wr => ∃ k : Nat, k ≤ rs.length ∧ i = .int .i64 k ∧ Qt w2 wr) (fun i _ => rs.length - (intOf i).toNat)
    case atStart => exact ⟨0, Nat.zero_le _, rfl, Qt.refl _⟩
    case round =>
      obtain ⟨k, hk, rfl, q, rfl⟩ := hrel
      by_cases hlt : k < rs.length
      · obtain ⟨b1, o1, rfl, hl1, hcell1⟩ := hA1'.range hlt
        obtain ⟨b2, o2, rfl, hl2, hcell2⟩ := hA2.range hlt
        obtain ⟨x1, x2⟩ := hcell1 k hlt
        obtain ⟨y1, y2⟩ := hcell2 k hlt
        clear hcell1 hcell2
        generalize rs[k].1 = p at *
        generalize rs[k].2 = p' at *
        go_wp2
        go_quiet (fail)
        go_wp2
        go_roundw
        case rel => exact ⟨k + 1, by omega, by go_num, by repeat (first | exact Qt.refl _ | refine Qt.drewN ?_ _)⟩
        case measure => simp [intOf]; omega
      · go_wp2_with fail
        refine (awake_any _).mono ?_
        rintro e w4 ⟨rfl, hb4⟩
        go_wp2_with fail
        go_ret
        exact ⟨rfl, (below_drewN B2 q).trans (hb4.mono B2.size)⟩

set_option maxHeartbeats 800000 in
theorem HangulNumbers_any (x y z : Int) (w : World) (hx : 0 ≤ x ∧ x ≤ 255) (hy : 0 ≤ y ∧ y ≤ 255) (hz : 0 ≤ z ∧ z ≤ 255) :
    Calls Try.prog 9 #[.int .u8 x, .int .u8 y, .int .u8 z] w (RetTrue w) := by
  obtain ⟨hx1, hx2⟩ := hx
  obtain ⟨hy1, hy2⟩ := hy
  obtain ⟨hz1, hz2⟩ := hz
  have e1 : Hg.comp (4352 + x % 19) (4449 + y % 21) = (44032 + (21 * (x % 19) + y % 21) * 28, true) := by
    rw [comp_lv (Hg.kind1 (by omega)) (Hg.kind2 (by omega))]
    congr 1; omega
  have k4 : Hg.kind (44032 + (21 * (x % 19) + y % 21) * 28) = 4 := Hg.kind4 (by omega) (by omega)
  have e2 : Hg.comp (44032 + (21 * (x % 19) + y % 21) * 28) (4520 + z % 27) = (44032 + (21 * (x % 19) + y % 21) * 28 + 1 + z % 27, true) := by
    rw [comp_t k4 (Hg.kind3 (by omega))]
    congr 1; omega
  have k5 : Hg.kind (44032 + (21 * (x % 19) + y % 21) * 28 + 1 + z % 27) = 5 := Hg.kind5 (by omega) (by omega)
  have C1 := Lib.hid (Compose_any (4352 + x % 19) (4449 + y % 21)); rw [e1] at C1
  have C2 := Lib.hid (Compose_any (44032 + (21 * (x % 19) + y % 21) * 28) (4520 + z % 27)); rw [e2] at C2
  have C3 := Lib.hid (Kind_any (44032 + (21 * (x % 19) + y % 21) * 28)); rw [k4] at C3
  have C4 := Lib.hid (Kind_any (44032 + (21 * (x % 19) + y % 21) * 28 + 1 + z % 27)); rw [k5] at C4
  clear e1 e2 k4 k5
  go_enter Try.func9, Try.ntmps9
  go_wp2_with fail
  refine (C1.out _).mono ?_
  rintro e w1 ⟨rfl, hb1⟩
  go_wp2_with fail
  refine (C2.out _).mono ?_
  rintro e w2 ⟨rfl, hb2⟩
  go_wp2_with fail
  refine (C3.out _).mono ?_
  rintro e w' ⟨rfl, rfl⟩
  go_wp2_with fail
  refine (C4.out _).mono ?_
  rintro e w' ⟨rfl, rfl⟩
  go_wp2_with fail
  refine (awake_any _).mono ?_
  rintro e w4 ⟨rfl, hb4⟩
  go_wp2_with fail
  go_ret
  have B2 : Below w.heap.size w w2 := hb1.trans (hb2.mono hb1.size)
  exact ⟨rfl, B2.trans (hb4.mono B2.size)⟩

end Go.Proofs.Ytbmijknpfcnlcaa
