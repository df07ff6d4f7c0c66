/- Contracts of the library's symMergeCmpFunc at ints where one of the two parts has one element. -/
import Derived.Test.YthagfcdleapooaaDoorSortFnB
import Derived.Test.YthagfcdleapooaaDoorSortPlain2
namespace Go.Proofs.YthagfcdleapooaaDoor
open Go.RowKit

set_option maxRecDepth 100000 in
set_option maxHeartbeats 4000000 in
theorem symLeft_any (b B off n c p y : Nat) (e : TypeId) (key : Int → Int) (d : List Int) (pre post : List Value) (w : World) (hR : Row w b off e pre post d) (hn : d.length = n)
    (hpy : p + 1 < y) (hy : y ≤ n) (hbig : n ≤ 1099511627776) (hC : Cmps b B w key) (hs : Srt.SortedOn key d (p + 1) y) :
    Calls Tryd.prog 51 #[.slice (some ⟨b, off, none⟩) n c, .int .i64 p, .int .i64 ((p : Int) + 1), .int .i64 y, .func (.func 40) #[] #[.pointer (some ⟨B, 0, none⟩)]] w
      (RetRow (fun d' => Srt.Done key d d' p y) b off e pre post w) := by
  subst hn
  have HC := Lib.hid hC; have HS := Lib.hid hs; clear hC hs
  obtain ⟨x, hx⟩ := get_of_lt (d := d) (i := p) (by omega)
  have HX := Lib.hid hx; clear hx
  have e1 : ((p : Int) + 1 - (p : Int) == 1) = true := by simp; omega
  go_enter Tryd.func51, Tryd.ntmps51
  go_wp2_with fail
  go_loopw [10, 11] (fun u v wr => ∃ i j : Nat, p + 1 ≤ i ∧ i ≤ j ∧ j ≤ y ∧ u = .int .i64 i ∧ v = .int .i64 j ∧ (∀ t, p + 1 ≤ t → t < i → Srt.kf key d t < Srt.kf key d p) ∧ (∀ t, j ≤ t → t < y → Srt.kf key d p ≤ Srt.kf key d t) ∧
      Row wr b off e pre post d ∧ w.grownBy wr (some b)) (fun u v _ => (intOf v).toNat - (intOf u).toNat)
  case atStart => exact ⟨p + 1, y, Nat.le_refl _, by omega, Nat.le_refl _, by go_num, rfl, fun t h1 h2 => by omega, fun t h1 h2 => by omega, hR, grown_refl _ _⟩
  case round =>
    obtain ⟨i, j, hi, hij, hj, rfl, rfl, hlo, hhi, hR1, hg⟩ := hrel
    have HLO := Lib.hid hlo; have HHI := Lib.hid hhi; clear hlo hhi
    by_cases hlt : i < j
    · obtain ⟨h, hh, h1, h2, h3⟩ : ∃ h : Nat, ((i : Int) + (j : Int)) / 2 = (h : Int) ∧ i ≤ h ∧ h < j ∧ h < d.length := ⟨(i + j) / 2, by omega, by omega, by omega, by omega⟩
      obtain ⟨z, hz⟩ := get_of_lt (d := d) (i := h) h3
      have cx := hR1.cell HX.out
      have cz := hR1.cell hz
      have HZ := Lib.hid hz
      have C := Lib.hid (fun W hW => HC.out W hW z x)
      clear hz
      have hpn : p < d.length := by omega
      go_wp2_with fail
      clear hh
      refine wp_region_still_tail 9 (by kernel_rfl) (by kernel_rfl) ?_
      simp only [List.take_succ_cons, List.take_zero, List.drop_succ_cons, List.drop_zero]
      change wpStill _ _ wr.drew _ _ _
      repeat still_step
      refine wpStill_nil ?_
      change wpList _ _ _ _ _ wr.drew
      go_wp2_with fail
      refine (C.out _ (grown_drew hg)).mono ?_
      rintro e w3 ⟨cc, rfl, hcc, hb3⟩
      have hR3 := (hR1.drew).below hb3
      have hg3 := grown_below (grown_drew hg) hb3
      clear hR1 hg hb3 cx cz
      by_cases hkey : key z < key x
      · have hneg : cc < 0 := hcc.2 hkey
        clear hcc
        go_wp2
        go_roundw
        case rel =>
          refine ⟨h + 1, j, by omega, by omega, hj, by go_num, rfl, fun t g1 g2 => ?_, HHI.out, hR3, hg3⟩
          have k1 := HS.out.le (i := t) (j := h) g1 (by omega) (by omega)
          rw [Srt.kf_some HZ.out] at k1
          rw [Srt.kf_some HX.out]; omega
        case measure => simp [intOf]; omega
      · have hneg : ¬ cc < 0 := fun g => hkey (hcc.1 g)
        clear hcc
        go_wp2
        go_roundw
        case rel =>
          refine ⟨i, h, hi, by omega, by omega, rfl, rfl, HLO.out, fun t g1 g2 => ?_, hR3, hg3⟩
          have k1 := HS.out.le (i := h) (j := t) (by omega) g1 g2
          rw [Srt.kf_some HZ.out] at k1
          rw [Srt.kf_some HX.out]; omega
        case measure => simp [intOf]; omega
    · obtain rfl : i = j := by omega
      obtain ⟨wo, rfl⟩ : ∃ wo : World, wo = wr := ⟨_, rfl⟩
      go_wp2_with fail
      go_loopw [13] (fun u wr => ∃ (k : Nat) (d1 : List Int), p ≤ k ∧ k + 1 ≤ i ∧ u = .int .i64 k ∧ Srt.Rot d d1 p (p + 1) (k + 1) ∧ Row wr b off e pre post d1 ∧ w.grownBy wr (some b)) (fun u _ => i - (intOf u).toNat)
      case atStart => exact ⟨p, d, Nat.le_refl _, hi, rfl, Srt.rot_triv (by omega) (by omega) (.inr rfl), hR1, hg⟩
      case round =>
        obtain ⟨k, d1, hk1, hk2, rfl, hrot, hR2, hg2⟩ := hrel
        by_cases hki : k + 1 < i
        · obtain ⟨x1, hx1⟩ := get_of_lt (d := d1) (i := k) (by rw [hrot.1]; omega)
          obtain ⟨y1, hy1⟩ := get_of_lt (d := d1) (i := k + 1) (by rw [hrot.1]; omega)
          have cx := hR2.cell hx1
          have cy := hR2.cell hy1
          have fx := hR2.frozen (off + k)
          have fy := hR2.frozen (off + (k + 1))
          have HX1 := Lib.hid hx1; have HY1 := Lib.hid hy1; have HRO := Lib.hid hrot; clear hx1 hy1 hrot
          go_wp2
          go_region
          go_wp2
          go_roundw
          case rel =>
            refine ⟨k + 1, Srt.swp d1 k (k + 1) x1 y1, by omega, by omega, by go_num, Srt.rot_snoc HRO.out hk1 HX1.out HY1.out, ?_, ?_⟩
            · exact (Row.set (hR2.set (i := k) (by rw [HRO.out.1]; omega) y1) (i := k + 1) (by rw [List.length_set, HRO.out.1]; omega) x1).drew
            · exact grown_drew (grown_set (grown_set hg2 _ _) _ _)
          case measure => simp [intOf]; omega
        · obtain rfl : i = k + 1 := by omega
          have HRO := Lib.hid hrot; clear hrot
          go_wp2
          go_end0
          exact ⟨rfl, d1, Srt.Done.left HRO.out hi hj hy HS.out HLO.out HHI.out, hR2, hg2⟩

set_option maxRecDepth 100000 in
set_option maxHeartbeats 4000000 in
theorem symRight_any (b B off n c p m : Nat) (e : TypeId) (key : Int → Int) (d : List Int) (pre post : List Value) (w : World) (hR : Row w b off e pre post d) (hn : d.length = n)
    (hpm : p + 1 < m) (hm : m + 1 ≤ n) (hbig : n ≤ 1099511627776) (hC : Cmps b B w key) (hs : Srt.SortedOn key d p m) :
    Calls Tryd.prog 51 #[.slice (some ⟨b, off, none⟩) n c, .int .i64 p, .int .i64 m, .int .i64 ((m : Int) + 1), .func (.func 40) #[] #[.pointer (some ⟨B, 0, none⟩)]] w
      (RetRow (fun d' => Srt.Done key d d' p (m + 1)) b off e pre post w) := by
  subst hn
  have HC := Lib.hid hC; have HS := Lib.hid hs; clear hC hs
  obtain ⟨x, hx⟩ := get_of_lt (d := d) (i := m) (by omega)
  have HX := Lib.hid hx; clear hx
  have e1 : ((m : Int) - (p : Int) == 1) = false := by simp; omega
  have e2 : ((m : Int) + 1 - (m : Int) == 1) = true := by simp; omega
  go_enter Tryd.func51, Tryd.ntmps51
  go_wp2_with fail
  go_loopw [14, 15] (fun u v wr => ∃ i j : Nat, p ≤ i ∧ i ≤ j ∧ j ≤ m ∧ u = .int .i64 i ∧ v = .int .i64 j ∧ (∀ t, p ≤ t → t < i → Srt.kf key d t ≤ Srt.kf key d m) ∧ (∀ t, j ≤ t → t < m → Srt.kf key d m < Srt.kf key d t) ∧
      Row wr b off e pre post d ∧ w.grownBy wr (some b)) (fun u v _ => (intOf v).toNat - (intOf u).toNat)
  case atStart => exact ⟨p, m, Nat.le_refl _, by omega, Nat.le_refl _, rfl, rfl, fun t h1 h2 => by omega, fun t h1 h2 => by omega, hR, grown_refl _ _⟩
  case round =>
    obtain ⟨i, j, hi, hij, hj, rfl, rfl, hlo, hhi, hR1, hg⟩ := hrel
    have HLO := Lib.hid hlo; have HHI := Lib.hid hhi; clear hlo hhi
    by_cases hlt : i < j
    · obtain ⟨h, hh, h1, h2, h3⟩ : ∃ h : Nat, ((i : Int) + (j : Int)) / 2 = (h : Int) ∧ i ≤ h ∧ h < j ∧ h < d.length := ⟨(i + j) / 2, by omega, by omega, by omega, by omega⟩
      obtain ⟨z, hz⟩ := get_of_lt (d := d) (i := h) h3
      have cx := hR1.cell HX.out
      have cz := hR1.cell hz
      have HZ := Lib.hid hz
      have C := Lib.hid (fun W hW => HC.out W hW x z)
      clear hz
      have hpn : m < d.length := by omega
      go_wp2_with fail
      clear hh
      refine wp_region_still_tail 9 (by kernel_rfl) (by kernel_rfl) ?_
      simp only [List.take_succ_cons, List.take_zero, List.drop_succ_cons, List.drop_zero]
      change wpStill _ _ wr.drew _ _ _
      repeat still_step
      refine wpStill_nil ?_
      change wpList _ _ _ _ _ wr.drew
      go_wp2_with fail
      refine (C.out _ (grown_drew hg)).mono ?_
      rintro e w3 ⟨cc, rfl, hcc, hb3⟩
      have hR3 := (hR1.drew).below hb3
      have hg3 := grown_below (grown_drew hg) hb3
      clear hR1 hg hb3 cx cz
      by_cases hkey : key x < key z
      · have hneg : decide (cc < 0) = true := by simpa using hcc.2 hkey
        clear hcc
        go_wp2
        go_roundw
        case rel =>
          refine ⟨i, h, hi, by omega, by omega, rfl, rfl, HLO.out, fun t g1 g2 => ?_, hR3, hg3⟩
          have k1 := HS.out.le (i := h) (j := t) (by omega) g1 g2
          rw [Srt.kf_some HZ.out] at k1
          rw [Srt.kf_some HX.out]; omega
        case measure => simp [intOf]; omega
      · have hneg : decide (cc < 0) = false := by simpa using fun g => hkey (hcc.1 g)
        clear hcc
        go_wp2
        go_roundw
        case rel =>
          refine ⟨h + 1, j, by omega, by omega, hj, by go_num, rfl, fun t g1 g2 => ?_, HHI.out, hR3, hg3⟩
          have k1 := HS.out.le (i := t) (j := h) g1 (by omega) (by omega)
          rw [Srt.kf_some HZ.out] at k1
          rw [Srt.kf_some HX.out]; omega
        case measure => simp [intOf]; omega
    · obtain rfl : i = j := by omega
      obtain ⟨wo, rfl⟩ : ∃ wo : World, wo = wr := ⟨_, rfl⟩
      go_wp2_with fail
      go_loopw [17] (fun u wr => ∃ (k : Nat) (d1 : List Int), i ≤ k ∧ k ≤ m ∧ u = .int .i64 k ∧ Srt.Rot d d1 k m (m + 1) ∧ Row wr b off e pre post d1 ∧ w.grownBy wr (some b)) (fun u _ => (intOf u).toNat)
      case atStart => exact ⟨m, d, hj, Nat.le_refl _, rfl, Srt.rot_triv (by omega) (by omega) (.inl rfl), hR1, hg⟩
      case round =>
        obtain ⟨k, d1, hk1, hk2, rfl, hrot, hR2, hg2⟩ := hrel
        by_cases hki : i < k
        · obtain ⟨x1, hx1⟩ := get_of_lt (d := d1) (i := k - 1) (by rw [hrot.1]; omega)
          obtain ⟨y1, hy1⟩ := get_of_lt (d := d1) (i := k) (by rw [hrot.1]; omega)
          have cx := hR2.cell hx1
          have cy := hR2.cell hy1
          have fx := hR2.frozen (off + (k - 1))
          have fy := hR2.frozen (off + k)
          have HX1 := Lib.hid hx1; have HY1 := Lib.hid hy1; have HRO := Lib.hid hrot; clear hx1 hy1 hrot
          have i1 : IntKind.i64.wrap ((k : Int) - 1) = (k : Int) - 1 := IntWalk.i64_in _ (by omega)
          have i2 : (0 : Int) ≤ (k : Int) - 1 := by omega
          have i2' : (1 : Int) ≤ (k : Int) := by omega
          have i2'' : 1 ≤ k := by omega
          have i3 : ((k : Int) - 1).toNat = k - 1 := by omega
          have i4 : (k : Int) - 1 < (d.length : Int) := by omega
          have hne : ¬ (k - 1 = k) := by omega
          go_wp2
          go_region
          go_wp2
          go_roundw
          case rel =>
            refine ⟨k - 1, Srt.swp d1 (k - 1) k x1 y1, by omega, by omega, by go_num, ?_, ?_, ?_⟩
            · have := Srt.rot_cons (d := d) (d1 := d1) (k := k - 1) (m := m) (x := x1) (y := y1) (by rw [show k - 1 + 1 = k by omega]; exact HRO.out) (by omega) HX1.out (by rw [show k - 1 + 1 = k by omega]; exact HY1.out)
              rw [show k - 1 + 1 = k by omega] at this; exact this
            · rw [Srt.swp, List.set_comm _ _ (by omega)]
              exact (Row.set (hR2.set (i := k) (by rw [HRO.out.1]; omega) x1) (i := k - 1) (by rw [List.length_set, HRO.out.1]; omega) y1).drew
            · exact grown_drew (grown_set (grown_set hg2 _ _) _ _)
          case measure => simp [intOf]; omega
        · obtain rfl : i = k := by omega
          have HRO := Lib.hid hrot; clear hrot
          go_wp2
          go_end0
          exact ⟨rfl, d1, Srt.Done.right HRO.out hj hi hm HS.out HLO.out HHI.out, hR2, hg2⟩

end Go.Proofs.YthagfcdleapooaaDoor
