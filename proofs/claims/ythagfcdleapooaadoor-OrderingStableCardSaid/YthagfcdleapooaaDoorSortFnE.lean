/- The contracts of the library's stableCmpFunc and SortStableFunc at ints: a row is sorted stably by the comparison's keys. -/
import Derived.Test.YthagfcdleapooaaDoorSortFnD
namespace Go.Proofs.YthagfcdleapooaaDoor
open Go.RowKit

set_option maxHeartbeats 8000000 in
theorem stable_any (b B off n c : Nat) (e : TypeId) (key : Int → Int) (d : List Int) (pre post : List Value) (w : World) (hR : Row w b off e pre post d) (hn : d.length = n) (hbig : n ≤ 1099511627776) (hC : Cmps b B w key) :
    Calls Tryd.prog 47 #[.slice (some ⟨b, off, none⟩) n c, .int .i64 n, .func (.func 40) #[] #[.pointer (some ⟨B, 0, none⟩)]] w
      (RetRow (fun d' => Srt.Done key d d' 0 n) b off e pre post w) := by
  subst hn
  have HC := Lib.hid hC; clear hC
  go_enter Tryd.func47, Tryd.ntmps47
  go_wp2
  go_loopw [7, 8] (fun u v wr => ∃ (q a : Nat) (d1 : List Int), a = q * 20 ∧ a ≤ d.length ∧ u = .int .i64 a ∧ v = .int .i64 ((a : Int) + 20) ∧ Srt.Same d d1 0 d.length ∧ Srt.St key d d1 ∧ Srt.Pf key d1 20 q ∧ Row wr b off e pre post d1 ∧ w.grownBy wr (some b))
    (fun u _ _ => d.length - (intOf u).toNat)
  case atStart => exact ⟨0, 0, d, rfl, Nat.zero_le _, rfl, rfl, Srt.Same.refl _ _ _, Srt.St.refl _, Srt.Pf.zero, hR, grown_refl _ _⟩
  case round =>
    obtain ⟨q, a, d1, haq, han, rfl, rfl, hsame, hst, hpf, hR1, hg⟩ := hrel
    have HQ := Lib.hid haq; have HA := Lib.hid hsame; have HT := Lib.hid hst; have HP := Lib.hid hpf
    clear haq hsame hst hpf
    by_cases hlt : a + 20 ≤ d.length
    · have C := Lib.hid (insertion_any b B off d.length c a (a + 20) e key d1 pre post wr hR1 HA.out.1 (by omega) hlt hbig (HC.out.later hg))
      rw [show ((a + 20 : Nat) : Int) = (a : Int) + 20 by omega] at C
      go_wp2_with fail
      refine C.out.mono ?_
      rintro e W1 ⟨rfl, d2, hD, hR2, hg2⟩
      go_wp2_with fail
      go_roundw
      case rel =>
        refine ⟨q + 1, a + 20, d2, by rw [HQ.out]; omega, hlt, by go_num, by go_num, HA.out.trans (hD.1.mono (Nat.zero_le _) hlt), HT.out.trans hD.2.1, ?_, hR2, grown_trans hg hg2⟩
        have := HQ.out
        subst this
        exact HP.out.succ hD.1 hD.2.2
      case measure => simp [intOf]; omega
    · have C := Lib.hid (insertion_any b B off d.length c a d.length e key d1 pre post wr hR1 HA.out.1 han (Nat.le_refl _) hbig (HC.out.later hg))
      go_wp2_with fail
      refine C.out.mono ?_
      rintro e W1 ⟨rfl, d2, hD, hR2, hg2⟩
      have hB0 : Srt.Bl key d2 20 0 d.length := by
        have := HQ.out
        subst this
        exact Srt.Bl.of_pf HP.out han (by omega) hD.1 hD.2.2
      have HA2 := Lib.hid (HA.out.trans (hD.1.mono (Nat.zero_le _) (Nat.le_refl _)))
      have HT2 := Lib.hid (HT.out.trans hD.2.1)
      have HB := Lib.hid hB0
      have hg3 := grown_trans hg hg2
      clear hB0 hD hg hg2 HA HT HP HQ hR1 C
      go_wp2_with fail
      go_loopw [6] (fun u wr => ∃ (bs : Nat) (d3 : List Int), 20 ≤ bs ∧ bs ≤ 2199023255552 ∧ u = .int .i64 bs ∧ Srt.Same d d3 0 d.length ∧ Srt.St key d d3 ∧ Srt.Bl key d3 bs 0 d.length ∧ Row wr b off e pre post d3 ∧ w.grownBy wr (some b)) (fun u _ => d.length - (intOf u).toNat)
      case atStart => exact ⟨20, d2, Nat.le_refl _, by omega, rfl, HA2.out, HT2.out, HB.out, hR2, hg3⟩
      case round =>
        obtain ⟨bs, d3, hbs, hbs2, rfl, hsame, hst, hbl, hR3, hg4⟩ := hrel
        have HA3 := Lib.hid hsame; have HT3 := Lib.hid hst; have HB3 := Lib.hid hbl
        clear hsame hst hbl HA2 HT2 HB hR2 hg3
        by_cases hlt2 : bs < d.length
        · obtain ⟨wo, rfl⟩ : ∃ wo : World, wo = wr := ⟨_, rfl⟩
          go_wp2_with fail
          go_loopw [7, 8] (fun u v wr => ∃ (q a : Nat) (d4 : List Int), a = q * (2 * bs) ∧ a ≤ d.length ∧ u = .int .i64 a ∧ v = .int .i64 ((a : Int) + 2 * (bs : Int)) ∧ Srt.Same d d4 0 d.length ∧ Srt.St key d d4 ∧ Srt.Pf key d4 (2 * bs) q ∧ Srt.Bl key d4 bs a d.length ∧
              Row wr b off e pre post d4 ∧ w.grownBy wr (some b)) (fun u _ _ => d.length - (intOf u).toNat)
          case atStart => exact ⟨0, 0, d3, by simp, Nat.zero_le _, rfl, by go_num, HA3.out, HT3.out, Srt.Pf.zero, HB3.out, hR3, hg4⟩
          case round =>
            obtain ⟨q, a, d4, haq, han, rfl, rfl, hsame, hst, hpf, hbl, hR4, hg5⟩ := hrel
            have HQ := Lib.hid haq; have HA := Lib.hid hsame; have HT := Lib.hid hst; have HP := Lib.hid hpf; have HB := Lib.hid hbl
            clear haq hsame hst hpf hbl HA3 HT3 HB3 hR3 hg4
            have s1 : Srt.SortedOn key d4 a (min (a + bs) d.length) := HB.out.first
            have s2 : Srt.SortedOn key d4 (a + bs) (min (a + bs + bs) d.length) := HB.out.next.first
            have S1 := Lib.hid s1; have S2 := Lib.hid s2; clear s1 s2
            by_cases hlt3 : a + 2 * bs ≤ d.length
            · have C := Lib.hid (sym_any b B off d.length c e key pre post _ a (a + bs) (a + 2 * bs) d4 wr (Nat.le_refl _) hR4 HA.out.1 (by omega) (by omega) hlt3 hbig (HC.out.later hg5)
                (S1.out.sub (Nat.le_refl _) (by omega)) (S2.out.sub (Nat.le_refl _) (by omega)))
              rw [show ((a + bs : Nat) : Int) = (a : Int) + (bs : Int) by omega, show ((a + 2 * bs : Nat) : Int) = (a : Int) + 2 * (bs : Int) by omega] at C
              go_wp2_with fail
              refine C.out.mono ?_
              rintro e W4 ⟨rfl, d5, hD, hR5, hg6⟩
              go_wp2_with fail
              go_roundw
              case rel =>
                refine ⟨q + 1, a + 2 * bs, d5, by rw [HQ.out, Nat.add_mul, Nat.one_mul], hlt3, by go_num, by go_num, HA.out.trans (hD.1.mono (Nat.zero_le _) hlt3), HT.out.trans hD.2.1, ?_, ?_, hR5, grown_trans hg5 hg6⟩
                · have := HQ.out
                  subst this
                  exact HP.out.succ hD.1 hD.2.2
                · have := HB.out.next.next
                  rw [show a + bs + bs = a + 2 * bs by omega] at this
                  exact this.same hD.1 (Nat.le_refl _)
              case measure => simp [intOf]; omega
            · by_cases hlt4 : a + bs < d.length
              · have C := Lib.hid (sym_any b B off d.length c e key pre post _ a (a + bs) d.length d4 wr (Nat.le_refl _) hR4 HA.out.1 (by omega) hlt4 (Nat.le_refl _) hbig (HC.out.later hg5)
                  (S1.out.sub (Nat.le_refl _) (by omega)) (S2.out.sub (Nat.le_refl _) (by omega)))
                rw [show ((a + bs : Nat) : Int) = (a : Int) + (bs : Int) by omega] at C
                go_wp2_with fail
                refine C.out.mono ?_
                rintro e W4 ⟨rfl, d5, hD, hR5, hg6⟩
                go_wp2_with fail
                go_roundw
                case rel =>
                  refine ⟨bs * 2, d5, by omega, by omega, by go_num, HA.out.trans (hD.1.mono (Nat.zero_le _) (Nat.le_refl _)), HT.out.trans hD.2.1, ?_, hR5, grown_trans hg5 hg6⟩
                  have := HQ.out
                  subst this
                  rw [Nat.mul_comm bs 2]
                  exact Srt.Bl.of_pf HP.out han (by omega) hD.1 hD.2.2
                case measure => simp [intOf]; omega
              · go_wp2_with fail
                go_roundw
                case rel =>
                  refine ⟨bs * 2, d4, by omega, by omega, by go_num, HA.out, HT.out, ?_, hR4, hg5⟩
                  have := HQ.out
                  subst this
                  rw [Nat.mul_comm bs 2]
                  exact Srt.Bl.of_pf HP.out han (by omega) (Srt.Same.refl _ _ _) (S1.out.sub (Nat.le_refl _) (by omega))
                case measure => simp [intOf]; omega
        · go_wp2_with fail
          go_end0
          exact ⟨rfl, d3, ⟨HA3.out, HT3.out, HB3.out.all (by omega)⟩, hR3, hg4⟩

theorem SortStable_any (b B off n c : Nat) (e : TypeId) (key : Int → Int) (d : List Int) (pre post : List Value) (w : World) (hR : Row w b off e pre post d) (hn : d.length = n) (hbig : n ≤ 1099511627776) (hC : Cmps b B w key) :
    Calls Tryd.prog 39 #[.slice (some ⟨b, off, none⟩) n c, .func (.func 40) #[] #[.pointer (some ⟨B, 0, none⟩)]] w
      (RetRow (fun d' => Srt.Done key d d' 0 n) b off e pre post w) := by
  have C := Lib.hid (stable_any b B off n c e key d pre post w hR hn hbig hC)
  clear hR hn hC
  go_enter Tryd.func39, Tryd.ntmps39
  go_wp2_with fail
  refine C.out.mono ?_
  rintro e W4 ⟨rfl, d5, hD, hR5, hg6⟩
  go_wp2_with fail
  go_end0
  exact ⟨rfl, d5, hD, hR5, hg6⟩

end Go.Proofs.YthagfcdleapooaaDoor
