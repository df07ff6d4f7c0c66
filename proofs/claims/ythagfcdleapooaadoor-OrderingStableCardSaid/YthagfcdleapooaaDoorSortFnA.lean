/- Contracts of the library's swapRangeCmpFunc and rotateCmpFunc at ints: they exchange ranges of a row. -/
import Derived.Test.YthagfcdleapooaaDoorProg
import Derived.Test.YthagfcdleapooaaDoorRow
import Derived.RegionTactic
import Derived.BigRegion
import Derived.Outline
namespace Go.Proofs.YthagfcdleapooaaDoor
open Go.RowKit

/-- nothing is returned; the row's ints have become d' as R says; nothing else that was there has changed -/
def RetRow (R : List Int → Prop) (b off : Nat) (e : TypeId) (pre post : List Value) (w : World) (x : Ending) (w' : World) : Prop :=
  x = .returned (.tuple #[]) ∧ ∃ d', R d' ∧ Row w' b off e pre post d' ∧ w.grownBy w' (some b)

/-- the first k elements of the ranges at p and q are exchanged -/
def SwR (d : List Int) (p q k : Nat) (d' : List Int) : Prop :=
  d'.length = d.length ∧ ∀ t, d'[t]? = if p ≤ t ∧ t < p + k then d[t + (q - p)]? else if q ≤ t ∧ t < q + k then d[t - (q - p)]? else d[t]?

theorem SwR.step {d d1 : List Int} {p q k m : Nat} {x y : Int} (h : SwR d p q k d1) (hk : k < m) (hpq : p + m ≤ q) (hx : d1[p + k]? = some x) (hy : d1[q + k]? = some y) :
    SwR d p q (k + 1) (Srt.swp d1 (p + k) (q + k) x y) := by
  refine ⟨(Srt.swp_len _ _ _ _ _).trans h.1, fun t => ?_⟩
  rw [Srt.swp_get d1 (p + k) (q + k) t x y hx hy (by omega), h.2, h.2, h.2]
  (repeat' split) <;> first | rfl | omega | (congr 1; omega)

theorem get_of_lt {d : List Int} {i : Nat} (h : i < d.length) : ∃ x, d[i]? = some x := ⟨d[i], List.getElem?_eq_getElem h⟩

set_option maxHeartbeats 800000 in
theorem swapRange_any (b off n c p q m : Nat) (e : TypeId) (g : Value) (d : List Int) (pre post : List Value) (w : World) (hR : Row w b off e pre post d) (hn : d.length = n)
    (hpq : p + m ≤ q) (hq : q + m ≤ n) (hbig : n ≤ 1099511627776) :
    Calls Tryd.prog 53 #[.slice (some ⟨b, off, none⟩) n c, .int .i64 p, .int .i64 q, .int .i64 m, g] w (RetRow (SwR d p q m) b off e pre post w) := by
  subst hn
  go_enter Tryd.func53, Tryd.ntmps53
  go_wp2
  go_loopw [10] (fun i wr => ∃ (k : Nat) (d1 : List Int), k ≤ m ∧ i = .int .i64 k ∧ SwR d p q k d1 ∧ Row wr b off e pre post d1 ∧ w.grownBy wr (some b)) (fun i _ => m - (intOf i).toNat)
  case atStart =>
    refine ⟨0, d, Nat.zero_le _, rfl, ⟨rfl, fun t => ?_⟩, hR, grown_refl _ _⟩
    rw [if_neg (by omega), if_neg (by omega)]
  case round =>
    obtain ⟨k, d1, hk, rfl, hS, hR1, hg⟩ := hrel
    by_cases hlt : k < m
    · obtain ⟨x, hx⟩ := get_of_lt (d := d1) (i := p + k) (by rw [hS.1]; omega)
      obtain ⟨y, hy⟩ := get_of_lt (d := d1) (i := q + k) (by rw [hS.1]; omega)
      have cx := hR1.cell hx
      have cy := hR1.cell hy
      have fx := hR1.frozen (off + (p + k))
      have fy := hR1.frozen (off + (q + k))
      have hne : ¬ (p + k = q + k) := by omega
      have HX := Lib.hid hx; have HY := Lib.hid hy; clear hx hy
      go_wp2
      go_region
      go_wp2
      go_roundw
      case rel =>
        refine ⟨k + 1, Srt.swp d1 (p + k) (q + k) x y, by omega, by go_num, hS.step hlt hpq HX.out HY.out, ?_, ?_⟩
        · exact (Row.set (hR1.set (by rw [hS.1]; omega) y) (by rw [List.length_set, hS.1]; omega) x).drew
        · exact grown_drew (grown_set (grown_set hg _ _) _ _)
      case measure => simp [intOf]; omega
    · go_wp2
      go_end0
      obtain rfl : k = m := by omega
      exact ⟨rfl, d1, hS, hR1, hg⟩

/-- pointwise rotation is one step of the loop on -/
theorem rot_gt {d0 d1 d2 : List Int} {a m b i j : Nat} (him : i ≤ m) (hij : j < i)
    (h : ∀ d', Srt.Rot d1 d' (m - i) m (m + j) → Srt.Rot d0 d' a m b) (hS : SwR d1 (m - i) m j d2) : ∀ d', Srt.Rot d2 d' (m - (i - j)) m (m + j) → Srt.Rot d0 d' a m b := by
  intro d' hr
  apply h
  refine ⟨hr.1.trans hS.1, fun t => ?_⟩
  rw [hr.2 t]
  simp only [hS.2]
  (repeat' split) <;> first | rfl | omega | (congr 1; omega)

theorem rot_lt {d0 d1 d2 : List Int} {a m b i j : Nat} (him : i ≤ m) (hij : i < j)
    (h : ∀ d', Srt.Rot d1 d' (m - i) m (m + j) → Srt.Rot d0 d' a m b) (hS : SwR d1 (m - i) (m + j - i) i d2) : ∀ d', Srt.Rot d2 d' (m - i) m (m + (j - i)) → Srt.Rot d0 d' a m b := by
  intro d' hr
  apply h
  refine ⟨hr.1.trans hS.1, fun t => ?_⟩
  rw [hr.2 t]
  simp only [hS.2]
  (repeat' split) <;> first | rfl | omega | (congr 1; omega)

theorem rot_eq {d0 d1 d2 : List Int} {a m b i : Nat} (him : i ≤ m)
    (h : ∀ d', Srt.Rot d1 d' (m - i) m (m + i) → Srt.Rot d0 d' a m b) (hS : SwR d1 (m - i) m i d2) : Srt.Rot d0 d2 a m b := by
  apply h
  refine ⟨hS.1, fun t => ?_⟩
  rw [hS.2]
  (repeat' split) <;> first | rfl | omega | (congr 1; omega)

set_option maxHeartbeats 800000 in
theorem rotate_any (b off n c x m y : Nat) (e : TypeId) (g : Value) (d : List Int) (pre post : List Value) (w : World) (hR : Row w b off e pre post d) (hn : d.length = n)
    (hxm : x < m) (hmy : m < y) (hy : y ≤ n) (hbig : n ≤ 1099511627776) :
    Calls Tryd.prog 52 #[.slice (some ⟨b, off, none⟩) n c, .int .i64 x, .int .i64 m, .int .i64 y, g] w (RetRow (fun d' => Srt.Rot d d' x m y) b off e pre post w) := by
  subst hn
  go_enter Tryd.func52, Tryd.ntmps52
  go_wp2
  go_loopw [10, 11] (fun u v wr => ∃ (i j : Nat) (d1 : List Int), 0 < i ∧ 0 < j ∧ i ≤ m ∧ m + j ≤ d.length ∧ u = .int .i64 i ∧ v = .int .i64 j ∧ d1.length = d.length ∧ (∀ d', Srt.Rot d1 d' (m - i) m (m + j) → Srt.Rot d d' x m y) ∧
      Row wr b off e pre post d1 ∧ w.grownBy wr (some b)) (fun u v _ => (intOf u).toNat + (intOf v).toNat)
  case atStart =>
    refine ⟨m - x, y - m, d, by omega, by omega, by omega, by omega, by go_num, by go_num, rfl, fun d' h => ?_, hR, grown_refl _ _⟩
    rw [show m - (m - x) = x by omega, show m + (y - m) = y by omega] at h
    exact h
  case round =>
    obtain ⟨i, j, d1, hi, hj, him, hjn, rfl, rfl, hl, hrot, hR1, hg⟩ := hrel
    have HR := Lib.hid hrot; have HL := Lib.hid hl; clear hrot hl
    by_cases h1 : j < i
    · have e1 : ((i : Int) != (j : Int)) = true := by simp; omega
      have C := Lib.hid (swapRange_any b off d.length c (m - i) m j e g d1 pre post wr hR1 HL.out (by omega) (by omega) hbig)
      have hz : ((m : Int) - (i : Int)) = ((m - i : Nat) : Int) := by omega
      rw [← hz] at C; clear hz
      go_wp2_with fail
      refine C.out.mono ?_
      rintro e w1 ⟨rfl, d2, hS, hR2, hg2⟩
      go_wp2_with fail
      go_roundw
      case rel => exact ⟨i - j, j, d2, by omega, by omega, by omega, by omega, by go_num, rfl, hS.1.trans HL.out, rot_gt him h1 HR.out hS, hR2, grown_trans hg hg2⟩
      case measure => simp [intOf]; omega
    · by_cases h2 : i < j
      · have e1 : ((i : Int) != (j : Int)) = true := by simp; omega
        have C := Lib.hid (swapRange_any b off d.length c (m - i) (m + j - i) i e g d1 pre post wr hR1 HL.out (by omega) (by omega) hbig)
        have hz : ((m : Int) - (i : Int)) = ((m - i : Nat) : Int) := by omega
        have hz' : ((m : Int) + (j : Int) - (i : Int)) = ((m + j - i : Nat) : Int) := by omega
        rw [← hz, ← hz'] at C; clear hz hz'
        go_wp2_with fail
        refine C.out.mono ?_
        rintro e w1 ⟨rfl, d2, hS, hR2, hg2⟩
        go_wp2_with fail
        go_roundw
        case rel => exact ⟨i, j - i, d2, by omega, by omega, by omega, by omega, rfl, by go_num, hS.1.trans HL.out, rot_lt him h2 HR.out hS, hR2, grown_trans hg hg2⟩
        case measure => simp [intOf]; omega
      · obtain rfl : i = j := by omega
        have e1 : ((i : Int) != (i : Int)) = false := by simp
        have C := Lib.hid (swapRange_any b off d.length c (m - i) m i e g d1 pre post wr hR1 HL.out (by omega) (by omega) hbig)
        have hz : ((m : Int) - (i : Int)) = ((m - i : Nat) : Int) := by omega
        rw [← hz] at C; clear hz
        go_wp2_with fail
        refine C.out.mono ?_
        rintro e w1 ⟨rfl, d2, hS, hR2, hg2⟩
        go_wp2_with fail
        go_end0
        exact ⟨rfl, d2, rot_eq him HR.out hS, hR2, grown_trans hg hg2⟩

end Go.Proofs.YthagfcdleapooaaDoor
