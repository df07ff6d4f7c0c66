/- Contracts of the library's insertionSortCmpFunc at ints under a comparison by keys. -/
import Derived.Test.YthagfcdleapooaaDoorSortFnA
import Derived.StillTailTactics
import Derived.Deep.RegionWith
import Derived.Deep.QuietTactic
import Derived.BigQuiet
namespace Go.Proofs.YthagfcdleapooaaDoor
open Go.RowKit

/-- a comparison: an int is returned that is negative just where p holds; nothing that was there has changed -/
def RetCmp (p : Prop) (w : World) (x : Ending) (w' : World) : Prop := ∃ c : Int, x = .returned (.int .i64 c) ∧ (c < 0 ↔ p) ∧ Below w.heap.size w w'

/-- the comparing closure compares by keys in every world in which only block b has changed -/
def Cmps (b B : Nat) (w0 : World) (key : Int → Int) : Prop :=
  ∀ W, w0.grownBy W (some b) → ∀ x y : Int, Calls Tryd.prog 40 #[.int .i64 x, .int .i64 y, .pointer (some ⟨B, 0, none⟩)] W (RetCmp (key x < key y) W)

theorem Cmps.later {b B : Nat} {w0 w1 : World} {key : Int → Int} (h : Cmps b B w0 key) (hg : w0.grownBy w1 (some b)) : Cmps b B w1 key := fun W hW => h W (grown_trans hg hW)

set_option maxHeartbeats 1600000 in
theorem insertion_any (b B off n c p q : Nat) (e : TypeId) (key : Int → Int) (d : List Int) (pre post : List Value) (w : World) (hR : Row w b off e pre post d) (hn : d.length = n)
    (hpq : p ≤ q) (hq : q ≤ n) (hbig : n ≤ 1099511627776) (hC : Cmps b B w key) :
    Calls Tryd.prog 50 #[.slice (some ⟨b, off, none⟩) n c, .int .i64 p, .int .i64 q, .func (.func 40) #[] #[.pointer (some ⟨B, 0, none⟩)]] w
      (RetRow (fun d' => Srt.Done key d d' p q) b off e pre post w) := by
  subst hn
  have HC := Lib.hid hC; clear hC
  go_enter Tryd.func50, Tryd.ntmps50
  go_wp2
  go_loopw [8] (fun i wr => ∃ (k : Nat) (d1 : List Int), p + 1 ≤ k ∧ (k ≤ q ∨ k = p + 1) ∧ i = .int .i64 k ∧ Srt.Same d d1 p q ∧ Srt.St key d d1 ∧ Srt.SortedOn key d1 p k ∧ Row wr b off e pre post d1 ∧ w.grownBy wr (some b)) (fun i _ => q - (intOf i).toNat)
  case atStart => exact ⟨p + 1, d, Nat.le_refl _, .inr rfl, by go_num, Srt.Same.refl _ _ _, Srt.St.refl _, Srt.SortedOn.short (Nat.le_refl _), hR, grown_refl _ _⟩
  case round =>
    obtain ⟨k, d1, hk1, hk2, rfl, hsame, hst, hso, hR1, hg⟩ := hrel
    have HA := Lib.hid hsame; have HT := Lib.hid hst; have HO := Lib.hid hso
    clear hsame hst hso
    by_cases hlt : k < q
    · obtain ⟨wo, rfl⟩ : ∃ wo : World, wo = wr := ⟨_, rfl⟩
      go_wp2
      go_loopw [9] (fun i wr => ∃ (j : Nat) (d2 : List Int), p ≤ j ∧ j ≤ k ∧ i = .int .i64 j ∧ Srt.Same d d2 p q ∧ Srt.St key d d2 ∧ Srt.Ins key d2 p k j ∧ Row wr b off e pre post d2 ∧ w.grownBy wr (some b)) (fun i _ => (intOf i).toNat)
      case atStart => exact ⟨k, d1, by omega, Nat.le_refl _, rfl, HA.out, HT.out, Srt.Ins.start HO.out, hR1, hg⟩
      case round =>
        obtain ⟨j, d2, hj1, hj2, rfl, hsame, hst, hins, hR2, hg2⟩ := hrel
        have HA2 := Lib.hid hsame; have HT2 := Lib.hid hst; have HI := Lib.hid hins
        clear hsame hst hins
        by_cases hpj : p < j
        · have hjn : j < d.length := by omega
          obtain ⟨x, hx⟩ := get_of_lt (d := d2) (i := j - 1) (by rw [HA2.out.1]; omega)
          obtain ⟨y, hy⟩ := get_of_lt (d := d2) (i := j) (by rw [HA2.out.1]; omega)
          have cx := hR2.cell hx
          have cy := hR2.cell hy
          have HX := Lib.hid hx; have HY := Lib.hid hy
          have C := Lib.hid (fun W hW => HC.out W hW y x)
          clear hx hy
          have i0 : decide (p < j) = true := by simp; omega
          have i1 : IntKind.i64.wrap ((j : Int) - 1) = (j : Int) - 1 := IntWalk.i64_in _ (by omega)
          have i2 : (0 : Int) ≤ (j : Int) - 1 := by omega
          have i2' : (1 : Int) ≤ (j : Int) := by omega
          have i2'' : 1 ≤ j := by omega
          have i3 : ((j : Int) - 1).toNat = j - 1 := by omega
          have i4 : (j : Int) - 1 < (d.length : Int) := by omega
          go_wp2
          refine wp_region_still_tail 14 (by kernel_rfl) (by kernel_rfl) ?_
          simp only [List.take_succ_cons, List.take_zero, List.drop_succ_cons, List.drop_zero]
          change wpStill _ _ wr.drew _ _ _
          repeat still_step
          refine wpStill_nil ?_
          change wpList _ _ _ _ _ wr.drew
          go_wp2_with fail
          refine (C.out _ (grown_drew hg2)).mono ?_
          rintro e w3 ⟨cc, rfl, hcc, hb3⟩
          have hR3 := (hR2.drew).below hb3
          have hg3 := grown_below (grown_drew hg2) hb3
          have cx3 := hR3.cell HX.out
          have cy3 := hR3.cell HY.out
          have fx3 := hR3.frozen (off + (j - 1))
          have fy3 := hR3.frozen (off + j)
          clear hR2 hg2 hb3 cx cy
          by_cases hkey : key y < key x
          · have hneg : cc < 0 := hcc.2 hkey
            clear hcc
            have hne : ¬ (j - 1 = j) := by omega
            go_wp2
            go_region
            go_wp2
            go_roundw
            case rel =>
              refine ⟨j - 1, Srt.swp d2 (j - 1) j x y, by omega, by omega, by go_num, HA2.out.trans (Srt.swp_same HX.out HY.out (by omega) (by omega) (by omega) (by omega) (by omega)), HT2.out.trans ?_, ?_, ?_, ?_⟩
              · have := Srt.swp_done (key := key) (d := d2) (j := j - 1) HX.out (by rw [show j - 1 + 1 = j by omega]; exact HY.out) hkey
                rw [show j - 1 + 1 = j by omega] at this; exact this
              · have := Srt.Ins.step (key := key) (d := d2) (a := p) (i := k) (j := j - 1) (x := x) (y := y) (by rw [show j - 1 + 1 = j by omega]; exact HI.out) (by omega) (by omega) HX.out (by rw [show j - 1 + 1 = j by omega]; exact HY.out) hkey
                rw [show j - 1 + 1 = j by omega] at this; exact this
              · rw [Srt.swp, List.set_comm _ _ (by omega)]
                exact (Row.set (hR3.set (i := j) (by rw [HA2.out.1]; omega) x) (i := j - 1) (by rw [List.length_set, HA2.out.1]; omega) y).drew
              · exact grown_drew (grown_set (grown_set hg3 _ _) _ _)
            case measure => simp [intOf]; omega
          · have hneg : ¬ cc < 0 := fun h => hkey (hcc.1 h)
            clear hcc
            go_wp2
            go_roundw
            case rel =>
              refine ⟨k + 1, d2, by omega, .inl (by omega), by go_num, HA2.out, HT2.out, HI.out.stop hj1 hj2 (.inr ?_), hR3, hg3⟩
              rw [Srt.kf_some HX.out, Srt.kf_some HY.out]; omega
            case measure => simp [intOf]; omega
        · have i0 : decide (p < j) = false := by simp; omega
          go_wp2
          go_quiet (fail)
          go_wp2
          go_roundw
          case rel => exact ⟨k + 1, d2, by omega, .inl (by omega), by go_num, HA2.out, HT2.out, HI.out.stop hj1 hj2 (.inl (by omega)), hR2.drewN _, grown_drewN hg2 _⟩
          case measure => simp [intOf]; omega
    · go_wp2
      go_end0
      refine ⟨rfl, d1, ⟨HA.out, HT.out, ?_⟩, hR1, hg⟩
      by_cases hkq : q ≤ k
      · exact HO.out.sub (Nat.le_refl _) hkq
      · omega

end Go.Proofs.YthagfcdleapooaaDoor
