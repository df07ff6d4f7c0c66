/- The walk of the law HangulRanges: it returns true for every input. -/
import Derived.Test.YtbmijknpfcnlcaaPlain2
import Derived.Deep.QuietTactic
import Derived.BigQuiet
import Derived.Outline
namespace Go.Proofs.Ytbmijknpfcnlcaa
open Go.RowKit

theorem kind_lt_of_range (l : List Int) (k : Nat) (h : k < l.length) (h0 : Hg.plen (l.drop k) = 0) : Hg.kind l[k] < 4 := plen_zero l k h h0

set_option maxRecDepth 100000 in
set_option maxHeartbeats 4000000 in
theorem HangulRanges_any (A : Option Addr) (n c : Nat) (l : List Int) (w : World) (hA : Ints w A l) (hn : l.length = n) (hnc : n ≤ c) (hbig : n ≤ 9223372036854775807) :
    Calls Try.prog 8 #[.slice A n c] w (RetTrue w) := by
  by_cases h5 : 500 < n
  · clear hn hA
    go_enter Try.func8, Try.ntmps8
    go_wp2_with fail
    refine (awake_any _).mono ?_
    rintro e w4 ⟨rfl, hb4⟩
    go_wp2_with fail
    go_ret
    exact ⟨rfl, hb4⟩
  · subst hn
    have hr := sp_len0 l
    have C1 := Lib.hid (Split_any A l.length c l w hA rfl hnc (by omega))
    have HSP := Lib.hid (show (Hg.sp l 0).drop 0 = Hg.sp l 0 from rfl)
    generalize hrs : (Hg.sp l 0) = rs at C1 hr
    rw [hrs] at HSP
    have HSP' := Lib.hid (show rs.drop 0 = Hg.sp l 0 by rw [hrs]; rfl)
    clear hrs HSP
    go_enter Try.func8, Try.ntmps8
    go_wp2_with fail
    refine C1.out.mono ?_
    rintro e w2 ⟨A1, c1, rfl, hc1, hA1, hb1⟩
    have hA2 := hA.below hb1
    clear C1 hA
    go_wp2_with fail
    go_loopw [4, 5] (fun at_ i wr => ∃ p k : Nat, k ≤ rs.length ∧ p ≤ l.length ∧ i = .int .i64 k ∧ at_ = .int .i64 p ∧ rs.drop k = Hg.sp l p ∧ Below w2.heap.size w2 wr) (fun _ i _ => rs.length - (intOf i).toNat)
    case atStart => exact ⟨0, 0, Nat.zero_le _, Nat.zero_le _, rfl, rfl, HSP'.out, Below.refl _ _⟩
    case round =>
      obtain ⟨p, k, hk, hp, rfl, rfl, hsp, hbel⟩ := hrel
      by_cases hlt : k < rs.length
      · obtain ⟨b1, o1, rfl, hl1, hcell1⟩ := (hA1.below hbel).range hlt
        obtain ⟨x1, x2⟩ := hcell1 k hlt
        clear hcell1
        rw [List.drop_eq_getElem_cons hlt] at hsp
        generalize hri : rs[k] = ri at *
        obtain ⟨lo, hi⟩ := ri
        obtain ⟨g1, g2, g3, g4, g5, g6⟩ := sp_cons l _ p lo hi _ (Nat.le_refl _) hsp.symm
        have G4 := Lib.hid g4; have G5 := Lib.hid g5; have G6 := Lib.hid g6
        clear hsp hri g4 g5 g6
        have t1 : decide (lo < p) = false := by simp; omega
        have t2 : decide (hi ≤ lo) = false := by simp; omega
        have t3 : decide (l.length < hi) = false := by simp; omega
        simp only at x1 x2
        obtain ⟨b, o, rfl, hcl⟩ := (hA2.below hbel).at (k := lo) (by omega)
        have HCL := Lib.hid hcl
        clear hcl
        go_wp2
        go_quiet (fail)
        go_wp2
        go_loop [6] (fun x => ∃ j : Nat, p ≤ j ∧ j ≤ lo ∧ x = .int .i64 j) (fun x => lo - (intOf x).toNat)
        case atStart => exact ⟨p, Nat.le_refl _, g1, rfl⟩
        case round =>
          obtain ⟨j, hj1, hj2, rfl⟩ := hrel
          by_cases hjl : j < lo
          · have y1 := HCL.out j (by omega)
            have hkk := kind_lt_of_range l j (by omega) (G6.out j hj1 hjl)
            have K := Lib.hid (refKind_any l[j])
            generalize Hg.kind l[j] = kk at *
            generalize l[j] = lj at *
            go_wp2_with (go_at_call 11; refine (K.out _).mono ?_; rintro e w' ⟨rfl, rfl⟩)
            go_round
            case rel => exact ⟨j + 1, by omega, by omega, by go_num⟩
            case measure => simp [intOf]; omega
          · have y1 := HCL.out lo (by omega)
            have HV := Lib.hid (show val l lo 0 = l[lo] from getD_at l lo (by omega))
            generalize l[lo] = ll at *
            go_wp2
            obtain ⟨wo, hwo⟩ : ∃ wo : World, wo = wr.drewN nq := ⟨_, rfl⟩
            have hbo : Below w2.heap.size w2 wo := by rw [hwo]; exact below_drewN hbel nq
            have z1 : wo.cell? ⟨b1, o1 + k * 2, none⟩ = some (.int .i64 lo) := by rw [hwo]; exact x1
            have z2 : wo.cell? ⟨b1, o1 + k * 2 + 1, none⟩ = some (.int .i64 hi) := by rw [hwo]; exact x2
            have hlo : b1 < wo.heap.size := World.block_lt_of_cell? wo _ z1
            rw [← hwo]
            have HCO := Lib.hid (show ∀ j, (hj : j < l.length) → wo.cell? ⟨b, o + j, none⟩ = some (.int .i64 l[j]) by rw [hwo]; exact HCL.out)
            clear hwo x1 x2 hbel HCL y1
            have HF := Lib.hid (range_facts l lo (by omega) (by have := G5.out; omega))
            go_loopw [7, 8] (fun s x wr => ∃ j : Nat, lo + 1 + j ≤ hi ∧ x = .int .i64 ((lo + 1 + j : Nat) : Int) ∧ s = .int .i64 (val l lo j) ∧ Below wo.heap.size wo wr) (fun _ x _ => hi - (intOf x).toNat)
            case atStart => exact ⟨0, by omega, by go_num, by rw [HV.out], Below.refl _ _⟩
            case round =>
              obtain ⟨i, hi1, rfl, rfl, hbw⟩ := hrel
              have u1 := (hbw.cell (p := ⟨b1, o1 + k * 2, none⟩) hlo).trans z1
              have u2 := (hbw.cell (p := ⟨b1, o1 + k * 2 + 1, none⟩) hlo).trans z2
              have hlw : b1 < wr.heap.size := World.block_lt_of_cell? wr _ u1
              by_cases hil : lo + 1 + i < hi
              · have v1 : wr.cell? ⟨b, o + (lo + 1 + i), none⟩ = some (.int .i64 l[lo + 1 + i]) := (hbw.cell (p := ⟨b, o + (lo + 1 + i), none⟩) (World.block_lt_of_cell? wo _ (HCO.out (lo + 1 + i) (by omega)))).trans (HCO.out (lo + 1 + i) (by omega))
                have HT := Lib.hid (HF.out.1 i (by have := G5.out; omega))
                have HD := Lib.hid (show l.getD (lo + (i + 1)) 0 = l[lo + 1 + i] by rw [← getD_at l (lo + 1 + i) (by omega)]; congr 1; omega)
                have C := Lib.hid (Compose_any (val l lo i) l[lo + 1 + i])
                unfold RetPair at C
                have e2 : (Hg.comp (val l lo i) l[lo + 1 + i]).2 = true := by rw [← HD.out]; exact HT.out
                have HN := Lib.hid (show val l lo (i + 1) = (Hg.comp (val l lo i) l[lo + 1 + i]).1 by rw [← HD.out]; rfl)
                rw [e2] at C
                clear e2 HD HT
                generalize (Hg.comp (val l lo i) l[lo + 1 + i]).1 = cc at *
                generalize l[lo + 1 + i] = lj at *
                generalize val l lo i = vv at *
                generalize hq : lo + 1 + i = q at *
                have HQ := Lib.hid hq; clear hq
                go_wp2_with (go_at_call 16; refine (C.out _).mono ?_; rintro e w5 ⟨rfl, hb5⟩)
                go_roundw
                case rel => exact ⟨i + 1, by have := HQ.out; omega, by have := HQ.out; subst this; go_num, by rw [HN.out], hbw.trans (hb5.mono hbw.size)⟩
                case measure => simp [intOf]; omega
              · have hiP : i = Hg.plen (l.drop lo) - 1 := by have := G5.out; omega
                have HK := Lib.hid (show 4 ≤ Hg.kind (val l lo i) by rw [hiP]; exact HF.out.2.1)
                have HE := Lib.hid (show hi < l.length → (Hg.comp (val l lo i) (l.getD hi 0)).2 = false by
                  intro h; rw [hiP]; have h2 := HF.out.2.2 (by rw [← G5.out]; exact h); rw [← G5.out] at h2; exact h2)
                have K := Lib.hid (Kind_any (val l lo i))
                have hkk := HK.out
                clear hiP HK
                by_cases hend : hi < l.length
                · have v1 : wr.cell? ⟨b, o + hi, none⟩ = some (.int .i64 l[hi]) := (hbw.cell (p := ⟨b, o + hi, none⟩) (World.block_lt_of_cell? wo _ (HCO.out hi hend))).trans (HCO.out hi hend)
                  have C := Lib.hid (Compose_any (val l lo i) l[hi])
                  unfold RetPair at C
                  have e2 := HE.out hend
                  rw [getD_at l hi hend] at e2
                  rw [e2] at C
                  clear e2 HE
                  generalize (Hg.comp (val l lo i) l[hi]).1 = cc at *
                  generalize l[hi] = lj at *
                  generalize Hg.kind (val l lo i) = kk at *
                  generalize val l lo i = vv at *
                  generalize hq : lo + 1 + i = q at *
                  have HQ := Lib.hid hq; clear hq
                  go_wp2_with (first
                    | (go_at_call 10; refine (K.out _).mono ?_; rintro e w' ⟨rfl, rfl⟩)
                    | (go_at_call 16; refine (C.out _).mono ?_; rintro e w5 ⟨rfl, hb5⟩))
                  go_roundw
                  case rel => exact ⟨hi, k + 1, by omega, by omega, by go_num, rfl, G4.out, (hbo.trans (hbw.mono hbo.size)).trans (hb5.mono (by have := hbo.size; have := hbw.size; omega))⟩
                  case measure => simp [intOf]; omega
                · generalize Hg.kind (val l lo i) = kk at *
                  generalize val l lo i = vv at *
                  generalize hq : lo + 1 + i = q at *
                  have HQ := Lib.hid hq; clear hq
                  go_wp2_with (go_at_call 10; refine (K.out _).mono ?_; rintro e w' ⟨rfl, rfl⟩)
                  go_roundw
                  case rel => exact ⟨hi, k + 1, by omega, by omega, by go_num, rfl, G4.out, hbo.trans (hbw.mono hbo.size)⟩
                  case measure => simp [intOf]; omega
      · have hnil : Hg.sp l p = [] := by rw [← hsp]; exact List.drop_eq_nil_of_le (by omega)
        have HZ := Lib.hid (sp_nil l _ p (Nat.le_refl _) hnil)
        clear hsp hnil
        go_wp2
        go_loop [13] (fun x => ∃ j : Nat, p ≤ j ∧ j ≤ l.length ∧ x = .int .i64 j) (fun x => l.length - (intOf x).toNat)
        case atStart => exact ⟨p, Nat.le_refl _, hp, rfl⟩
        case round =>
          obtain ⟨j, hj1, hj2, rfl⟩ := hrel
          by_cases hjl : j < l.length
          · obtain ⟨b, o, rfl, hcl⟩ := (hA2.below hbel).at hjl
            have y1 := hcl j hjl
            have hkk := kind_lt_of_range l j hjl (HZ.out j hj1 hjl)
            have K := Lib.hid (refKind_any l[j])
            clear hcl
            generalize Hg.kind l[j] = kk at *
            generalize l[j] = lj at *
            go_wp2_with (go_at_call 11; refine (K.out _).mono ?_; rintro e w' ⟨rfl, rfl⟩)
            go_round
            case rel => exact ⟨j + 1, by omega, by omega, by go_num⟩
            case measure => simp [intOf]; omega
          · go_wp2_with fail
            refine (awake_any _).mono ?_
            rintro e w4 ⟨rfl, hb4⟩
            go_wp2_with fail
            go_ret
            have B2 := hb1.trans (hbel.mono hb1.size)
            exact ⟨rfl, B2.trans (hb4.mono B2.size)⟩

end Go.Proofs.Ytbmijknpfcnlcaa
