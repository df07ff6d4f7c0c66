/- The walks of OrderingRuns, OrderingSorts and OrderingAgain. -/
import Derived.Test.YthagfcdleapooaaDoorSmall2
namespace Go.Proofs.YthagfcdleapooaaDoor
open Go.RowKit

set_option maxHeartbeats 800000 in
theorem OrderingRuns_any (A' : Option Addr) (ns ks : Nat) (ss : List Spn) (A : Option Addr) (nt kt : Nat) (text : List Int) (w : World) (hS : Spans w A' ss) (hT : Ints w A text)
    (hns : ss.length = ns) (hnt : text.length = nt) (hL : Laid w) :
    Calls Tryd.prog 4 #[.slice A' ns ks, .slice A nt kt] w (RetTrue w) := by
  have CA := Lib.hid (fun W hb => alive_any W (hL.below hb))
  have F := Lib.hid (few_any A' A ns ks nt kt w)
  by_cases h : ns ≤ 16 ∧ nt ≤ 40
  · have hd : decide (ns ≤ 16 ∧ nt ≤ 40) = true := by simpa using h
    rw [hd] at F
    obtain ⟨h1, h2⟩ := h
    have C1 := Lib.hid (Runs_any A' ns ks ss A nt kt text w hS hT hnt hns (by omega) (by omega) hL)
    have C2 := Lib.hid (fun W hb => refRuns_any A' ns ks ss A nt kt text W (Spans.below (w := w) (w' := W) hS hb) (Ints.below (w := w) (w' := W) hT hb) hnt hns (by omega) (by omega))
    have hrl : (rns (clz ss) text 0 none).length ≤ nt := by rw [← hnt]; exact rns_len0 _ _ _
    clear hS hT hL hd hns hnt
    generalize rns (clz ss) text 0 none = rs at *
    go_enter Tryd.func4, Tryd.ntmps4
    go_wp2_with fail
    refine F.out.mono ?_
    rintro e w' ⟨rfl, rfl⟩
    go_wp2_with fail
    refine C1.out.mono ?_
    rintro e w1 ⟨A1, c1, rfl, hc1, hA1, hb1⟩
    go_wp2_with fail
    refine (C2.out _ hb1).mono ?_
    rintro e w2 ⟨A2, c2, rfl, hc2, hA2, hb2⟩
    have B2 : Below w.heap.size w w2 := hb1.trans (hb2.mono hb1.size)
    have hA1' := Sl.below hA1 hb2
    clear hb1 hb2 hA1
    go_wp2_with fail
    refine (SameRanges_same A1 A2 _ c1 c2 rs w2 hA1' hA2 rfl (by omega)).mono ?_
    rintro e w3 ⟨rfl, hq⟩
    have B3 : Below w.heap.size w w3 := B2.trans (hq.below.mono B2.size)
    clear hq B2 hA1' hA2
    go_wp2_with fail
    refine (CA.out _ B3).mono ?_
    rintro e w4 ⟨rfl, hb4⟩
    go_wp2_with fail
    go_ret
    exact ⟨rfl, B3.trans (hb4.mono B3.size)⟩
  · have hd : decide (ns ≤ 16 ∧ nt ≤ 40) = false := by simpa using h
    rw [hd] at F
    clear hS hT hL hd hns hnt h
    go_enter Tryd.func4, Tryd.ntmps4
    go_wp2_with fail
    refine F.out.mono ?_
    rintro e w' ⟨rfl, rfl⟩
    go_wp2_with fail
    refine (CA.out _ (Below.refl _ _)).mono ?_
    rintro e w3 ⟨rfl, hb3⟩
    go_wp2_with fail
    go_ret
    exact ⟨rfl, hb3⟩

set_option maxHeartbeats 800000 in
theorem OrderingSorts_any (A' : Option Addr) (ns ks : Nat) (ss : List Spn) (A : Option Addr) (nt kt : Nat) (text : List Int) (w : World) (hS : Spans w A' ss) (hT : Ints w A text)
    (hns : ss.length = ns) (hnt : text.length = nt) (hL : Laid w) :
    Calls Tryd.prog 10 #[.slice A' ns ks, .slice A nt kt] w (RetTrue w) := by
  have CA := Lib.hid (fun W hb => alive_any W (hL.below hb))
  have F := Lib.hid (few_any A' A ns ks nt kt w)
  by_cases h : ns ≤ 16 ∧ nt ≤ 40
  · have hd : decide (ns ≤ 16 ∧ nt ≤ 40) = true := by simpa using h
    rw [hd] at F
    obtain ⟨h1, h2⟩ := h
    have C1 := Lib.hid (Sort_any A' ns ks ss A nt kt text w hS hT hnt hns (by omega) (by omega) hL)
    have C2 := Lib.hid (fun W hb => refSort_any A' ns ks ss A nt kt text W (Spans.below (w := w) (w' := W) hS hb) (Ints.below (w := w) (w' := W) hT hb) hnt hns (by omega) (by omega))
    have C3 := Lib.hid (fun W hb => Sorted_any A' ns ks ss A nt kt text W (Spans.below (w := w) (w' := W) hS hb) (Ints.below (w := w) (w' := W) hT hb) hnt hns (by omega) (by omega) (hL.below hb))
    have C4 := Lib.hid (fun W hb => refSorted_any A' ns ks ss A nt kt text W (Spans.below (w := w) (w' := W) hS hb) (Ints.below (w := w) (w' := W) hT hb) hnt hns (by omega) (by omega))
    have hrl : (Can.srt (clz ss) text).length ≤ 40 := by rw [Can.srt_len, hnt]; omega
    clear hS hT hL hd hns hnt
    generalize decide (Can.srt (clz ss) text = text) = bs at *
    generalize Can.srt (clz ss) text = rs at *
    go_enter Tryd.func10, Tryd.ntmps10
    go_wp2_with fail
    refine F.out.mono ?_
    rintro e w' ⟨rfl, rfl⟩
    go_wp2_with fail
    refine C1.out.mono ?_
    rintro e w1 ⟨A1, c1, rfl, hc1, hA1, hb1⟩
    go_wp2_with fail
    refine (C2.out _ hb1).mono ?_
    rintro e w2 ⟨A2, c2, rfl, hc2, hA2, hb2⟩
    have B2 : Below w.heap.size w w2 := hb1.trans (hb2.mono hb1.size)
    have hA1' := Ints.below hA1 hb2
    clear hb1 hb2 hA1
    go_wp2_with fail
    have CE := Equal_any A1 A2 _ _ c1 c2 rs rs w2 hA1' hA2 rfl rfl (by omega) (by omega)
    rw [show decide (rs = rs) = true by simp] at CE
    refine CE.mono ?_
    rintro e w3 ⟨rfl, hq⟩
    have B3 : Below w.heap.size w w3 := B2.trans (hq.below.mono B2.size)
    clear hq B2 hA1' hA2 CE
    go_wp2_with fail
    refine (C3.out _ B3).mono ?_
    rintro e w4 ⟨rfl, hb4⟩
    have B4 := B3.trans (hb4.mono B3.size)
    clear hb4 B3
    go_wp2_with fail
    refine (C4.out _ B4).mono ?_
    rintro e w5 ⟨rfl, hb5⟩
    have B5 := B4.trans (hb5.mono B4.size)
    have hbb : (bs == bs) = true := by simp
    clear hb5 B4
    go_wp2_with fail
    refine (CA.out _ B5).mono ?_
    rintro e w6 ⟨rfl, hb6⟩
    go_wp2_with fail
    go_ret
    exact ⟨rfl, B5.trans (hb6.mono B5.size)⟩
  · have hd : decide (ns ≤ 16 ∧ nt ≤ 40) = false := by simpa using h
    rw [hd] at F
    clear hS hT hL hd hns hnt h
    go_enter Tryd.func10, Tryd.ntmps10
    go_wp2_with fail
    refine F.out.mono ?_
    rintro e w' ⟨rfl, rfl⟩
    go_wp2_with fail
    refine (CA.out _ (Below.refl _ _)).mono ?_
    rintro e w3 ⟨rfl, hb3⟩
    go_wp2_with fail
    go_ret
    exact ⟨rfl, hb3⟩

set_option maxHeartbeats 800000 in
theorem OrderingAgain_any (A' : Option Addr) (ns ks : Nat) (ss : List Spn) (A : Option Addr) (nt kt : Nat) (text : List Int) (w : World) (hS : Spans w A' ss) (hT : Ints w A text)
    (hns : ss.length = ns) (hnt : text.length = nt) (hL : Laid w) :
    Calls Tryd.prog 11 #[.slice A' ns ks, .slice A nt kt] w (RetTrue w) := by
  have CA := Lib.hid (fun W hb => alive_any W (hL.below hb))
  have F := Lib.hid (few_any A' A ns ks nt kt w)
  by_cases h : ns ≤ 16 ∧ nt ≤ 40
  · have hd : decide (ns ≤ 16 ∧ nt ≤ 40) = true := by simpa using h
    rw [hd] at F
    obtain ⟨h1, h2⟩ := h
    have C1 := Lib.hid (Sort_any A' ns ks ss A nt kt text w hS hT hnt hns (by omega) (by omega) hL)
    have hlen : (Can.srt (clz ss) text).length = nt := by rw [Can.srt_len, hnt]
    have hag := Can.srt_again (fun x => (clz_range ss x).1) text
    have C2 := Lib.hid (fun W A1 c1 hb hA1 => Sorted_any A' ns ks ss A1 nt c1 (Can.srt (clz ss) text) W (Spans.below (w := w) (w' := W) hS hb) hA1 hlen hns (by omega) (by omega) (hL.below hb))
    have C3 := Lib.hid (fun W A1 c1 hb hA1 => Sort_any A' ns ks ss A1 nt c1 (Can.srt (clz ss) text) W (Spans.below (w := w) (w' := W) hS hb) hA1 hlen hns (by omega) (by omega) (hL.below hb))
    have C4 := Lib.hid (fun W hb => Sorted_any A' ns ks ss A nt kt text W (Spans.below (w := w) (w' := W) hS hb) (Ints.below (w := w) (w' := W) hT hb) hnt hns (by omega) (by omega) (hL.below hb))
    rw [hag] at C2 C3
    have hdd : decide (Can.srt (clz ss) text = Can.srt (clz ss) text) = true := by simp
    rw [hdd] at C2
    have HT := Lib.hid (fun W hb => Ints.below (w := w) (w' := W) hT hb)
    have HNT := Lib.hid hnt
    clear hS hT hL hd hns hag hdd hnt
    generalize Can.srt (clz ss) text = rs at *
    subst hlen
    go_enter Tryd.func11, Tryd.ntmps11
    go_wp2_with fail
    refine F.out.mono ?_
    rintro e w' ⟨rfl, rfl⟩
    go_wp2_with fail
    refine C1.out.mono ?_
    rintro e w1 ⟨A1, c1, rfl, hc1, hA1, B1⟩
    go_wp2_with fail
    refine (C2.out _ A1 c1 B1 hA1).mono ?_
    rintro e w2 ⟨rfl, hb2⟩
    have B2 : Below w.heap.size w w2 := B1.trans (hb2.mono B1.size)
    have hA2 := Ints.below hA1 hb2
    clear hb2 hA1 B1
    go_wp2_with fail
    refine (C3.out _ A1 c1 B2 hA2).mono ?_
    rintro e w3 ⟨A3, c3, rfl, hc3, hA3, hb3⟩
    have B3 := B2.trans (hb3.mono B2.size)
    have hA4 := Ints.below hA2 hb3
    clear hb3 B2 hA2
    go_wp2_with fail
    have CE := Equal_any A3 A1 _ _ c3 c1 rs rs w3 hA3 hA4 rfl rfl (by omega) (by omega)
    rw [show decide (rs = rs) = true by simp] at CE
    refine CE.mono ?_
    rintro e w4 ⟨rfl, hq⟩
    have B4 : Below w.heap.size w w4 := B3.trans (hq.below.mono B3.size)
    have hA5 := Ints.below hA4 hq.below
    clear hq B3 hA3 hA4 CE
    go_wp2_with fail
    refine (C4.out _ B4).mono ?_
    rintro e w5 ⟨rfl, hb5⟩
    have B5 := B4.trans (hb5.mono B4.size)
    have hA6 := Ints.below hA5 hb5
    clear hb5 B4 hA5
    go_wp2_with fail
    refine (Equal_any A1 A _ _ c1 kt rs text w5 hA6 (HT.out _ B5) rfl HNT.out (by omega) (by omega)).mono ?_
    rintro e w6 ⟨rfl, hq6⟩
    have B6 : Below w.heap.size w w6 := B5.trans (hq6.below.mono B5.size)
    clear hq6 B5 hA6
    generalize decide (rs = text) = bs at *
    have hbb : (bs == bs) = true := by simp
    go_wp2_with fail
    refine (CA.out _ B6).mono ?_
    rintro e w7 ⟨rfl, hb7⟩
    go_wp2_with fail
    go_ret
    exact ⟨rfl, B6.trans (hb7.mono B6.size)⟩
  · have hd : decide (ns ≤ 16 ∧ nt ≤ 40) = false := by simpa using h
    rw [hd] at F
    clear hS hT hL hd hns hnt h
    go_enter Tryd.func11, Tryd.ntmps11
    go_wp2_with fail
    refine F.out.mono ?_
    rintro e w' ⟨rfl, rfl⟩
    go_wp2_with fail
    refine (CA.out _ (Below.refl _ _)).mono ?_
    rintro e w3 ⟨rfl, hb3⟩
    go_wp2_with fail
    go_ret
    exact ⟨rfl, hb3⟩

end Go.Proofs.YthagfcdleapooaaDoor
