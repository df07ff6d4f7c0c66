/- The walk of OrderingJoins. -/
import Derived.Test.YthagfcdleapooaaDoorSmall2
namespace Go.Proofs.YthagfcdleapooaaDoor
open Go.RowKit

theorem Ints.of_own {w : World} {base n c : Nat} {e : TypeId} {A : Option Addr} {zs : List Int} (h : w.ownsRow base e 1 (.slice A n c) n (zs.map (Value.int .i64))) : Ints w A zs := Sl.of_own h

set_option maxRecDepth 100000 in
set_option maxHeartbeats 3200000 in
theorem OrderingJoins_any (A' : Option Addr) (ns ks : Nat) (ss : List Spn) (A : Option Addr) (na ka : Nat) (xs : List Int) (B : Option Addr) (nb kb : Nat) (ys : List Int) (w : World) (hS : Spans w A' ss) (hX : Ints w A xs) (hY : Ints w B ys)
    (hns : ss.length = ns) (hna : xs.length = na) (hnb : ys.length = nb) (hL : Laid w) :
    Calls Tryd.prog 9 #[.slice A' ns ks, .slice A na ka, .slice B nb kb] w (RetTrue w) := by
  have CA := Lib.hid (fun W hb => alive_any W (hL.below hb))
  have F := Lib.hid (Small_any A' ns ks w)
  by_cases h : ns ≤ 16
  · have hd : decide (ns ≤ 16) = true := by simpa using h
    rw [hd] at F
    clear hd
    have CT := Lib.hid (fun c => Starter_any A' ns ks ss c w hS hns (by omega) hL)
    have CS := Lib.hid (fun W T n k (zs : List Int) hb (hT : Ints W T zs) (hn : zs.length = n) (hle : n ≤ 40) => Sort_any A' ns ks ss T n k zs W (Spans.below (w := w) (w' := W) hS hb) hT hn hns (by omega) (by omega) (hL.below hb))
    have HX := Lib.hid (fun W hb => Ints.below (w := w) (w' := W) hX hb)
    have HY := Lib.hid (fun W hb => Ints.below (w := w) (w' := W) hY hb)
    have HCL := Lib.hid (fun x => (clz_range ss x).1)
    clear hS hX hns hL
    by_cases h2 : na ≤ 20
    · by_cases h3 : nb ≤ 20
      · subst hna hnb
        have hlx : (Can.srt (clz ss) xs).length ≤ 20 := by rw [Can.srt_len]; omega
        have hly : (Can.srt (clz ss) ys).length ≤ 20 := by rw [Can.srt_len]; omega
        by_cases hy : ys.length = 0
        · have hyn : ys = [] := List.eq_nil_of_length_eq_zero hy
          have HJ := Lib.hid (Can.srt_join HCL.out xs ys (fun y t e => by rw [hyn] at e; cases e))
          have hy0 : decide (0 < ys.length) = false := by simp [hy]
          clear hyn hy hY
          go_enter Tryd.func9, Tryd.ntmps9
          go_wp2_with fail
          refine F.out.mono ?_
          rintro e w' ⟨rfl, rfl⟩
          go_wp2_with fail
          have B0 : Below w.heap.size w w := Below.refl _ _
          have E0 : Below w.heap.size w (w.alloc (.cells #[] 3)) := B0.alloc B0.size _
          have HO0 := Lib.hid (own_new (w := w) [] 3 1 0 w.heap.size rfl rfl B0.size (by omega))
          refine (CS.out _ A _ ka xs E0 (HX.out _ E0) rfl (by omega)).mono ?_
          rintro e w1 ⟨A1, c1, rfl, hc1, hA1, hb1⟩
          have B1 := E0.trans (hb1.mono E0.size)
          have own1 := own_keep HO0.out hb1
          clear hb1 E0 HO0 B0
          generalize Can.srt (clz ss) xs = sx at *
          go_wp2_with (at_builtin; refine wpList_app (.tmp 35) (.tmp 38) 27 3 (.int .i64 0) 1 8 rfl rfl Tryd.underlying27 info_int rfl (by decide) (by decide) rfl own1 rfl hA1 (by simp) (oneCell_ints _) (by omega) B1.size ?_; intro A2 c2 w2 hown2 hc2 hb2 _ _; simp only [Nat.zero_add, List.nil_append] at hown2 hc2)
          have B2 := B1.trans hb2
          have HO2 := Lib.hid hown2
          clear hb2 hown2 own1 hA1 B1
          refine (CS.out _ B _ kb ys B2 (HY.out _ B2) rfl (by omega)).mono ?_
          rintro e w3 ⟨A3, c3, rfl, hc3, hA3, hb3⟩
          have B3 := B2.trans (hb3.mono B2.size)
          have own3 := own_keep HO2.out hb3
          clear hb3 B2 HO2
          generalize Can.srt (clz ss) ys = sy at *
          go_wp2_with (first | (at_builtin; refine wpList_app (.tmp 39) (.tmp 42) 27 3 (.int .i64 0) 1 8 rfl rfl Tryd.underlying27 info_int rfl (by decide) (by decide) rfl own3 rfl hA3 (by simp) (oneCell_ints _) (by omega) B3.size ?_; intro A4 c4 w4 hown4 hc4 hb4 _ _; have B4 := B3.trans hb4; have own4 := own_new (w := w4) [] 3 1 0 w4.heap.size rfl rfl (Nat.le_refl _) (by omega); have hX4 := HX.out _ (B4.alloc B4.size (.cells #[] 3))) | (at_builtin; refine wpList_app (.tmp 45) (.tmp 46) 27 3 (.int .i64 0) 1 8 rfl rfl Tryd.underlying27 info_int rfl (by decide) (by decide) rfl own4 rfl hX4 (by simp) (oneCell_ints _) (by omega) (by simp) ?_; intro A5 c5 w5 hown5 hc5 hb5 _ _; simp only [Nat.zero_add, List.nil_append] at hown5 hc5; have D5 : Below w4.heap.size w4 w5 := ((Below.refl _ w4).alloc (Nat.le_refl _) (.cells #[] 3)).trans hb5; have hY5 := HY.out _ (B4.trans (D5.mono B4.size))) | (at_builtin; refine wpList_app (.tmp 47) (.tmp 48) 27 3 (.int .i64 0) 1 8 rfl rfl Tryd.underlying27 info_int rfl (by decide) (by decide) rfl hown5 rfl hY5 (by simp) (oneCell_ints _) (by omega) D5.size ?_; intro A6 c6 w6 hown6 hc6 hb6 _ _))
          have D6 := D5.trans hb6
          have B6 := B4.trans (D6.mono B4.size)
          have hZ : Ints w6 A6 (xs ++ ys) := by
            refine Ints.of_own (n := xs.length + ys.length) (c := c6) (base := w4.heap.size) (e := 3) ?_
            rw [List.map_append]; exact hown6
          have hS4 : Ints w4 A4 (sx ++ sy) := by
            refine Ints.of_own (n := sx.length + sy.length) (c := c4) (base := w.heap.size) (e := 3) ?_
            rw [List.map_append]; exact hown4
          have hS6 := hS4.below D6
          clear hown4 hown5 hown6 hX4 hY5 own4 own3 hb4 hb5 hb6 D5 D6 B4 B3 hA3 hS4
          refine (CS.out _ A6 _ c6 (xs ++ ys) B6 hZ (by simp) (by omega)).mono ?_
          rintro e w7 ⟨A7, c7, rfl, hc7, hA7, hb7⟩
          have B7 := B6.trans (hb7.mono B6.size)
          have hS7 := hS6.below hb7
          rw [HJ.out] at hA7 hc7 ⊢
          rw [List.length_append] at hc7
          rw [show (sx ++ sy).length = sx.length + sy.length from List.length_append]
          clear hb7 B6 hS6 hZ
          go_wp2_with fail
          have CE := Equal_any A7 A4 _ _ c7 c4 (sx ++ sy) (sx ++ sy) w7 hA7 hS7 (by simp) (by simp) (show sx.length + sy.length ≤ 9223372036854775807 by omega) (show sx.length + sy.length ≤ 9223372036854775807 by omega)
          rw [show decide (sx ++ sy = sx ++ sy) = true by simp] at CE
          refine CE.mono ?_
          rintro e w8 ⟨rfl, hq⟩
          have B8 := B7.trans (hq.below.mono B7.size)
          clear hq CE B7 hA7 hS7
          go_wp2_with fail
          refine (CA.out _ B8).mono ?_
          rintro e w9 ⟨rfl, hb9⟩
          go_wp2_with fail
          go_ret
          exact ⟨rfl, B8.trans (hb9.mono B8.size)⟩
        · have HJ := Lib.hid (fun h => Can.srt_join HCL.out xs ys h)
          have hpos : 0 < ys.length := by omega
          clear hy
          obtain ⟨b, o, rfl, hc⟩ := hY.at hpos
          have c0 : w.cell? ⟨b, o, none⟩ = some (.int .i64 ys[0]) := hc 0 hpos
          have hyc : ∀ y t, ys = y :: t → y = ys[0] := by rintro y t rfl; rfl
          have HYC := Lib.hid hyc
          clear hc hyc hY
          generalize ys[0] = y0 at *
          go_enter Tryd.func9, Tryd.ntmps9
          go_wp2_with fail
          refine F.out.mono ?_
          rintro e w' ⟨rfl, rfl⟩
          go_wp2_with fail
          refine (CT.out y0).mono ?_
          rintro e W0 ⟨rfl, B0⟩
          by_cases hz : clz ss y0 = 0
          · have hzb : (clz ss y0 == 0) = true := by simpa using hz
            have HJ2 := Lib.hid (HJ.out (fun y t e => by rw [HYC.out y t e]; exact hz))
            clear HJ hz HYC
            have HJ := HJ2
            clear HJ2
            generalize clz ss y0 = z at *
            go_wp2_with fail
            have E0 : Below w.heap.size w (W0.alloc (.cells #[] 3)) := B0.alloc B0.size _
            have HO0 := Lib.hid (own_new (w := W0) [] 3 1 0 w.heap.size rfl rfl B0.size (by omega))
            refine (CS.out _ A _ ka xs E0 (HX.out _ E0) rfl (by omega)).mono ?_
            rintro e w1 ⟨A1, c1, rfl, hc1, hA1, hb1⟩
            have B1 := E0.trans (hb1.mono E0.size)
            have own1 := own_keep HO0.out hb1
            clear hb1 E0 HO0 B0
            generalize Can.srt (clz ss) xs = sx at *
            go_wp2_with (at_builtin; refine wpList_app (.tmp 35) (.tmp 38) 27 3 (.int .i64 0) 1 8 rfl rfl Tryd.underlying27 info_int rfl (by decide) (by decide) rfl own1 rfl hA1 (by simp) (oneCell_ints _) (by omega) B1.size ?_; intro A2 c2 w2 hown2 hc2 hb2 _ _; simp only [Nat.zero_add, List.nil_append] at hown2 hc2)
            have B2 := B1.trans hb2
            have HO2 := Lib.hid hown2
            clear hb2 hown2 own1 hA1 B1
            refine (CS.out _ (some ⟨b, o, none⟩) _ kb ys B2 (HY.out _ B2) rfl (by omega)).mono ?_
            rintro e w3 ⟨A3, c3, rfl, hc3, hA3, hb3⟩
            have B3 := B2.trans (hb3.mono B2.size)
            have own3 := own_keep HO2.out hb3
            clear hb3 B2 HO2
            generalize Can.srt (clz ss) ys = sy at *
            go_wp2_with (first | (at_builtin; refine wpList_app (.tmp 39) (.tmp 42) 27 3 (.int .i64 0) 1 8 rfl rfl Tryd.underlying27 info_int rfl (by decide) (by decide) rfl own3 rfl hA3 (by simp) (oneCell_ints _) (by omega) B3.size ?_; intro A4 c4 w4 hown4 hc4 hb4 _ _; have B4 := B3.trans hb4; have own4 := own_new (w := w4) [] 3 1 0 w4.heap.size rfl rfl (Nat.le_refl _) (by omega); have hX4 := HX.out _ (B4.alloc B4.size (.cells #[] 3))) | (at_builtin; refine wpList_app (.tmp 45) (.tmp 46) 27 3 (.int .i64 0) 1 8 rfl rfl Tryd.underlying27 info_int rfl (by decide) (by decide) rfl own4 rfl hX4 (by simp) (oneCell_ints _) (by omega) (by simp) ?_; intro A5 c5 w5 hown5 hc5 hb5 _ _; simp only [Nat.zero_add, List.nil_append] at hown5 hc5; have D5 : Below w4.heap.size w4 w5 := ((Below.refl _ w4).alloc (Nat.le_refl _) (.cells #[] 3)).trans hb5; have hY5 := HY.out _ (B4.trans (D5.mono B4.size))) | (at_builtin; refine wpList_app (.tmp 47) (.tmp 48) 27 3 (.int .i64 0) 1 8 rfl rfl Tryd.underlying27 info_int rfl (by decide) (by decide) rfl hown5 rfl hY5 (by simp) (oneCell_ints _) (by omega) D5.size ?_; intro A6 c6 w6 hown6 hc6 hb6 _ _))
            have D6 := D5.trans hb6
            have B6 := B4.trans (D6.mono B4.size)
            have hZ : Ints w6 A6 (xs ++ ys) := by
              refine Ints.of_own (n := xs.length + ys.length) (c := c6) (base := w4.heap.size) (e := 3) ?_
              rw [List.map_append]; exact hown6
            have hS4 : Ints w4 A4 (sx ++ sy) := by
              refine Ints.of_own (n := sx.length + sy.length) (c := c4) (base := w.heap.size) (e := 3) ?_
              rw [List.map_append]; exact hown4
            have hS6 := hS4.below D6
            clear hown4 hown5 hown6 hX4 hY5 own4 own3 hb4 hb5 hb6 D5 D6 B4 B3 hA3 hS4
            refine (CS.out _ A6 _ c6 (xs ++ ys) B6 hZ (by simp) (by omega)).mono ?_
            rintro e w7 ⟨A7, c7, rfl, hc7, hA7, hb7⟩
            have B7 := B6.trans (hb7.mono B6.size)
            have hS7 := hS6.below hb7
            rw [HJ.out] at hA7 hc7 ⊢
            rw [List.length_append] at hc7
            rw [show (sx ++ sy).length = sx.length + sy.length from List.length_append]
            clear hb7 B6 hS6 hZ
            go_wp2_with fail
            have CE := Equal_any A7 A4 _ _ c7 c4 (sx ++ sy) (sx ++ sy) w7 hA7 hS7 (by simp) (by simp) (show sx.length + sy.length ≤ 9223372036854775807 by omega) (show sx.length + sy.length ≤ 9223372036854775807 by omega)
            rw [show decide (sx ++ sy = sx ++ sy) = true by simp] at CE
            refine CE.mono ?_
            rintro e w8 ⟨rfl, hq⟩
            have B8 := B7.trans (hq.below.mono B7.size)
            clear hq CE B7 hA7 hS7
            go_wp2_with fail
            refine (CA.out _ B8).mono ?_
            rintro e w9 ⟨rfl, hb9⟩
            go_wp2_with fail
            go_ret
            exact ⟨rfl, B8.trans (hb9.mono B8.size)⟩
          · have hzb : (clz ss y0 == 0) = false := by simpa using hz
            clear HJ hz HYC
            generalize clz ss y0 = z at *
            go_wp2_with fail
            refine (CA.out _ B0).mono ?_
            rintro e w3 ⟨rfl, hb3⟩
            go_wp2_with fail
            go_ret
            exact ⟨rfl, B0.trans (hb3.mono B0.size)⟩
      · have h2b : decide (na ≤ 20) = true := by simpa using h2
        go_enter Tryd.func9, Tryd.ntmps9
        go_wp2_with fail
        refine F.out.mono ?_
        rintro e w' ⟨rfl, rfl⟩
        go_wp2_with fail
        refine (CA.out _ (Below.refl _ _)).mono ?_
        rintro e w3 ⟨rfl, hb3⟩
        go_wp2_with fail
        go_ret
        exact ⟨rfl, hb3⟩
    · 
      go_enter Tryd.func9, Tryd.ntmps9
      go_wp2_with fail
      refine F.out.mono ?_
      rintro e w' ⟨rfl, rfl⟩
      go_wp2_with fail
      refine (CA.out _ (Below.refl _ _)).mono ?_
      rintro e w3 ⟨rfl, hb3⟩
      go_wp2_with fail
      go_ret
      exact ⟨rfl, hb3⟩
  · have hd : decide (ns ≤ 16) = false := by simpa using h
    rw [hd] at F
    clear hS hX hY hL hd hns hna hnb h
    go_enter Tryd.func9, Tryd.ntmps9
    go_wp2_with fail
    refine F.out.mono ?_
    rintro e w' ⟨rfl, rfl⟩
    go_wp2_with fail
    refine (CA.out _ (Below.refl _ _)).mono ?_
    rintro e w3 ⟨rfl, hb3⟩
    go_wp2_with fail
    go_ret
    exact ⟨rfl, hb3⟩

end Go.Proofs.YthagfcdleapooaaDoor
