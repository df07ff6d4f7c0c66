/- The contract of the reference's groups: the first error of the groups. -/
import Derived.Test.YtnfnoefjgiojoaaCkGroups
import Derived.Outline
namespace Go.Proofs.Ytnfnoefjgiojoaa
open Go.RowKit Go.Maps Go.WideMaps

theorem below_drewN {n : Nat} {a w : World} (h : Below n a w) (k : Nat) : Below n a (w.drewN k) := ⟨h.os, h.tape, h.output, h.size, h.block⟩

theorem str_inj {a b : ByteArray} (h : a.toList = b.toList) : a = b := by
  rw [ByteArray.toList_eq, ByteArray.toList_eq] at h
  cases a; cases b
  simp only [ByteArray.mk.injEq]
  exact Array.toList_inj.1 h
theorem str_eqT {a b : ByteArray} (h : a = b) : (a.toList == b.toList) = true := by rw [h]; simp
theorem str_eqF {a b : ByteArray} (h : ¬ a = b) : (a.toList == b.toList) = false := by
  rw [beq_eq_false_iff_ne]
  exact fun e => h (str_inj e)

set_option maxRecDepth 100000 in
set_option maxHeartbeats 8000000 in
theorem refGroups_any (A : Option Addr) (n a : Nat) (B : Option Addr) (m b : Nat) (c : Col) (w : World) (h : ColAt w A n B m c) (hb65 : c.base ≤ 65502) (hbig : m ≤ 1048576) :
    Calls Try.prog 49 #[colV A n a B m b c] w (RetInt (grpErr c.base c.grps) w) := by
  obtain ⟨ents, gs, base, second, third⟩ := c
  obtain ⟨_, hG, hn, hm, hs⟩ := h
  dsimp only at hG hn hm hs hb65
  subst hm
  unfold colV
  dsimp only
  have HS := Lib.hid (fun i (hi : i < gs.length) => hs gs[i] (List.getElem_mem hi))
  have HG := Lib.hid hG
  clear hs hG hn
  go_enter Try.func49, Try.ntmps49
  go_wp2
  have B0 : Below w.heap.size w (w.alloc (.cells #[.slice A n a, .slice B gs.length b, .int .i64 base, .int .i64 second, .int .i64 third] 25)) := (Below.refl _ _).alloc (Nat.le_refl _) _
  have s0 : (w.alloc (.cells #[.slice A n a, .slice B gs.length b, .int .i64 base, .int .i64 second, .int .i64 third] 25)).heap.size = w.heap.size + 1 := by simp
  have k2 : (w.alloc (.cells #[.slice A n a, .slice B gs.length b, .int .i64 base, .int .i64 second, .int .i64 third] 25)).cell? ⟨w.heap.size, 2, none⟩ = some (.int .i64 base) := by simp
  obtain ⟨W0, hW0⟩ : ∃ W0, w.alloc (.cells #[.slice A n a, .slice B gs.length b, .int .i64 base, .int .i64 second, .int .i64 third] 25) = W0 := ⟨_, rfl⟩
  rw [hW0] at B0 s0 k2 ⊢
  clear hW0
  have HG0 := Lib.hid (HG.out.below B0)
  have K := Lib.hid k2
  have hx0 : w.heap.size < W0.heap.size := by omega
  clear HG k2 s0
  go_loopw [4] (fun u wr => ∃ i : Nat, i ≤ gs.length ∧ u = .int .i64 i ∧ (∀ t, (ht : t < gs.length) → t < i → nameOk gs[t].name = true) ∧ Below W0.heap.size W0 wr) (fun u _ => gs.length - (intOf u).toNat)
  case atStart => exact ⟨0, Nat.zero_le _, rfl, fun t _ h => by omega, Below.refl _ _⟩
  case round =>
    obtain ⟨i, hi, rfl, h6, hb⟩ := hrel
    have H6 := Lib.hid h6; clear h6
    by_cases hlt : i < gs.length
    · obtain ⟨b1, o1, rfl, hbl, hcell⟩ := (HG0.out.below hb).at hlt
      obtain ⟨c1, c2, c3⟩ := hcell i hlt
      have hss := HS.out i hlt
      have HB := Lib.hid (fun h => grp6 (base := base) hlt h)
      have HN := Lib.hid (fun h => all_up (P := fun g => nameOk g.name = true) hlt H6.out h)
      clear hcell
      generalize gs[i].name = nm at *
      go_wp2_with fail
      refine (Name_any nm _ hss).mono ?_
      rintro e w1 ⟨rfl, rfl⟩
      cases hnm : nameOk nm
      · go_wp2_with fail
        go_ret
        exact ⟨ret_int (HB.out hnm).symm, B0.trans (hb.mono B0.size)⟩
      · go_wp2_with fail
        go_roundw
        case rel => exact ⟨i + 1, by omega, by go_num, HN.out hnm, hb⟩
        case measure => simp [intOf]; omega
    · have H6' := Lib.hid (fun t (ht : t < gs.length) => H6.out t ht (by omega))
      clear H6
      go_wp2
      go_loopw [5, 6] (fun u _ wr => ∃ i : Nat, i ≤ gs.length ∧ u = .int .i64 i ∧ (nms gs i).Nodup ∧ Below W0.heap.size W0 wr) (fun u _ _ => gs.length - (intOf u).toNat)
      case atStart => exact ⟨0, Nat.zero_le _, rfl, by simp [nms], hb⟩
      case round =>
        obtain ⟨i, hi, rfl, h5, hb⟩ := hrel
        have H5 := Lib.hid h5; clear h5
        by_cases hlt : i < gs.length
        · have HE := Lib.hid (nms_succ hlt)
          obtain ⟨wo, rfl⟩ : ∃ wo : World, wo = wr := ⟨_, rfl⟩
          go_wp2
          go_loopw [6] (fun v wr => ∃ k : Nat, k ≤ i ∧ v = .int .i64 k ∧ (∀ t, (ht : t < k) → (htt : t < gs.length) → gs[t].name ≠ gs[i].name) ∧ Below W0.heap.size W0 wr) (fun v _ => i - (intOf v).toNat)
          case atStart => exact ⟨0, Nat.zero_le _, rfl, fun t h => by omega, hb⟩
          case round =>
            obtain ⟨k, hk, rfl, hne, hb⟩ := hrel
            have HNE := Lib.hid hne; clear hne
            by_cases hki : k < i
            · have hkl : k < gs.length := by omega
              obtain ⟨b1, o1, rfl, hbl, hcell⟩ := (HG0.out.below hb).at hlt
              have c1 := (hcell i hlt).1
              have d1 := (hcell k hkl).1
              have HB := Lib.hid (fun (h : gs[k].name = gs[i].name) => grp5 (base := base) H6'.out (nms_dup hlt (by unfold nms; rw [← h]; exact List.mem_map.2 ⟨gs[k], List.mem_take_iff_getElem.2 ⟨k, by omega, rfl⟩, rfl⟩)))
              have HN := Lib.hid (fun (h : gs[k].name ≠ gs[i].name) => show ∀ t, (ht : t < k + 1) → (htt : t < gs.length) → gs[t].name ≠ gs[i].name from fun t ht htt => by
                by_cases e : t < k
                · exact HNE.out t e htt
                · obtain rfl : t = k := by omega
                  exact h)
              clear hcell
              generalize gs[i].name = nm at *
              generalize gs[k].name = nk at *
              have i1 : (k : Int) < (gs.length : Int) := by omega
              have i2 : (i : Int) < (gs.length : Int) := by omega
              by_cases hq : nk = nm
              · have q1 := str_eqT hq
                have HQ := Lib.hid (HB.out hq)
                clear hq HB HN
                go_wp2_with fail
                go_quiet (fail)
                go_wp2_with fail
                go_ret
                exact ⟨ret_int HQ.out.symm, B0.trans ((below_drewN hb _).mono B0.size)⟩
              · have q1 := str_eqF hq
                have HQ := Lib.hid (HN.out hq)
                clear hq HB HN
                go_wp2_with fail
                go_quiet (fail)
                go_wp2_with fail
                go_roundw
                case rel => exact ⟨k + 1, by omega, by go_num, HQ.out, below_drewN hb _⟩
                case measure => simp [intOf]; omega
            · have HQ := Lib.hid (nms_nodup hlt H5.out (fun hin => by
                unfold nms at hin
                obtain ⟨g, hg, he⟩ := List.mem_map.1 hin
                obtain ⟨t, ht, rfl⟩ := List.mem_take_iff_getElem.1 hg
                exact HNE.out t (by omega) (by omega) he))
              go_wp2_with fail
              go_roundw
              case rel => exact ⟨i + 1, by omega, by go_num, HQ.out, hb⟩
              case measure => simp [intOf]; omega
        · have H5' := Lib.hid (show (gs.map Grp.name).Nodup by rw [← nms_all, show gs.length = i by omega]; exact H5.out)
          clear H5
          go_wp2
          go_loopw [7] (fun u wr => ∃ i : Nat, i ≤ gs.length ∧ u = .int .i64 i ∧ (∀ t, (ht : t < gs.length) → t < i → ¬ badG base gs[t]) ∧ Below W0.heap.size W0 wr) (fun u _ => gs.length - (intOf u).toNat)
          case atStart => exact ⟨0, Nat.zero_le _, rfl, fun t _ h => by omega, hb⟩
          case round =>
            obtain ⟨i, hi, rfl, h1, hb⟩ := hrel
            have H1 := Lib.hid h1; clear h1
            by_cases hlt : i < gs.length
            · obtain ⟨b1, o1, rfl, hbl, hcell⟩ := (HG0.out.below hb).at hlt
              obtain ⟨c1, c2, c3⟩ := hcell i hlt
              have f2 := (hb.cell (p := ⟨w.heap.size, 2, none⟩) hx0).trans K.out
              have HD := Lib.hid (show badG base gs[i] ↔ (gs[i].lo < 1 ∨ gs[i].hi < gs[i].lo ∨ base ≤ gs[i].hi) from Iff.rfl)
              have HB := Lib.hid (fun h => grp1 (base := base) H6'.out H5'.out hlt h)
              have HN := Lib.hid (fun h => all_up (P := fun g => ¬ badG base g) hlt H1.out h)
              have i1 : (i : Int) < (gs.length : Int) := by omega
              clear hcell
              generalize badG base gs[i] = Bd at *
              generalize gs[i].lo = lo at *
              generalize gs[i].hi = hi' at *
              obtain ⟨d1, hbad⟩ | ⟨d1, d2, hbad⟩ | ⟨d1, d2, d3, hbad⟩ | ⟨d1, d2, d3, hok⟩ : (decide (lo < 1) = true ∧ Hid (lo < 1)) ∨ (decide (lo < 1) = false ∧ decide (hi' < lo) = true ∧ Hid (hi' < lo)) ∨ (decide (lo < 1) = false ∧ decide (hi' < lo) = false ∧ decide (base ≤ hi') = true ∧ Hid (base ≤ hi')) ∨ (decide (lo < 1) = false ∧ decide (hi' < lo) = false ∧ decide (base ≤ hi') = false ∧ Hid (¬ (lo < 1 ∨ hi' < lo ∨ base ≤ hi'))) := by
                unfold Hid
                simp only [decide_eq_true_eq, decide_eq_false_iff_not]
                omega
              · have HQ := Lib.hid (HB.out (HD.out.2 (.inl hbad.out)))
                go_wp2_with fail
                go_quiet (fail)
                go_wp2_with fail
                go_ret
                exact ⟨ret_int HQ.out.symm, B0.trans ((below_drewN hb _).mono B0.size)⟩
              · have HQ := Lib.hid (HB.out (HD.out.2 (.inr (.inl hbad.out))))
                go_wp2_with fail
                go_quiet (fail)
                go_wp2_with fail
                go_ret
                exact ⟨ret_int HQ.out.symm, B0.trans ((below_drewN hb _).mono B0.size)⟩
              · have HQ := Lib.hid (HB.out (HD.out.2 (.inr (.inr hbad.out))))
                go_wp2_with fail
                go_quiet (fail)
                go_wp2_with fail
                go_ret
                exact ⟨ret_int HQ.out.symm, B0.trans ((below_drewN hb _).mono B0.size)⟩
              · have HQ := Lib.hid (HN.out (fun h => hok.out (HD.out.1 h)))
                go_wp2_with fail
                go_quiet (fail)
                go_wp2_with fail
                go_roundw
                case rel => exact ⟨i + 1, by omega, by go_num, HQ.out, below_drewN hb _⟩
                case measure => simp [intOf]; omega
            · have H1' := Lib.hid (fun t (ht : t < gs.length) => H1.out t ht (by omega))
              clear H1
              go_wp2
              go_loopw [8] (fun u wr => ∃ i : Nat, i ≤ gs.length ∧ u = .int .i64 ((i : Int) + 1) ∧ (∀ t, (ht : t + 1 < gs.length) → t < i → gs[t + 1].lo = gs[t].hi + 1) ∧ Below W0.heap.size W0 wr) (fun u _ => gs.length + 1 - (intOf u).toNat)
              case atStart => exact ⟨0, Nat.zero_le _, rfl, fun t _ h => by omega, hb⟩
              case round =>
                obtain ⟨i, hi, rfl, h4, hb⟩ := hrel
                have H4 := Lib.hid h4; clear h4
                by_cases hlt : i + 1 < gs.length
                · obtain ⟨b1, o1, rfl, hbl, hcell⟩ := (HG0.out.below hb).at hlt
                  have c2 := (hcell (i + 1) hlt).2.1
                  have d3 := (hcell i (by omega)).2.2
                  have HX := H1'.out i (by omega)
                  unfold badG at HX
                  have HB := Lib.hid (fun h => grp4 (base := base) H6'.out H5'.out H1'.out hlt h)
                  have HN := Lib.hid (fun h => two_up (P := fun a b => b.lo = a.hi + 1) hlt H4.out h)
                  have hz : 1 ≤ gs[i].hi ∧ gs[i].hi < 65502 := by omega
                  clear hcell HX
                  generalize gs[i + 1].lo = lo at *
                  generalize gs[i].hi = ph at *
                  have i0 : (0 : Int) ≤ (i : Int) + 1 := by omega
                  have i1 : (0 : Int) ≤ (i : Int) + 1 - 1 := by omega
                  have i2 : (i : Int) + 1 - 1 < (gs.length : Int) := by omega
                  have i4 : (i : Int) + 1 < (gs.length : Int) := by omega
                  have i5 : ((i : Int) + 1).toNat = i + 1 := by omega
                  have i3 : ((i : Int) + 1 - 1).toNat = i := by omega
                  have w1 : IntKind.i64.wrap ((i : Int) + 1 - 1) = (i : Int) + 1 - 1 := IntWalk.i64_in _ (by omega)
                  have w2 : IntKind.i64.wrap (ph + 1) = ph + 1 := IntWalk.i64_in _ (by omega)
                  by_cases hq : lo = ph + 1
                  · have q1 : (lo != ph + 1) = false := by simpa using hq
                    have HQ := Lib.hid (HN.out hq)
                    clear hq HN HB
                    go_wp2_with fail
                    go_quiet (fail)
                    clear i3 i5 w1 w2
                    go_wp2_with fail
                    go_roundw
                    case rel => exact ⟨i + 1, by omega, by go_num, HQ.out, below_drewN hb _⟩
                    case measure => simp [intOf]; omega
                  · have q1 : (lo != ph + 1) = true := by simpa using hq
                    have HQ := Lib.hid (HB.out hq)
                    clear hq HN HB
                    go_wp2_with fail
                    go_quiet (fail)
                    clear i3 i5 w1 w2
                    go_wp2_with fail
                    go_ret
                    exact ⟨ret_int HQ.out.symm, B0.trans ((below_drewN hb _).mono B0.size)⟩
                · have HF := Lib.hid (grp0 (base := base) H6'.out H5'.out H1'.out (fun t ht => H4.out t ht (by omega)))
                  go_wp2
                  go_ret
                  exact ⟨ret_int HF.out.symm, B0.trans (hb.mono B0.size)⟩

end Go.Proofs.Ytnfnoefjgiojoaa
