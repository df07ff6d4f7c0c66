/- The walk of OrderingKeeps. -/
import Derived.Test.YthagfcdleapooaaDoorLawsD
import Derived.Test.YthagfcdleapooaaDoorStable
namespace Go.Proofs.YthagfcdleapooaaDoor
open Go.RowKit

/-- the ways through the first test of OrderingKeeps -/
theorem keep_cases {za zb x y : Int} (h1 : za = 0 ↔ zb = 0) (h2 : za = 0 → y = x) : (za = 0 ∧ zb = 0 ∧ y = x) ∨ (za ≠ 0 ∧ zb ≠ 0) := by
  by_cases h : za = 0
  · exact .inl ⟨h, h1.1 h, h2 h⟩
  · exact .inr ⟨h, fun e => h (h1.2 e)⟩

set_option maxRecDepth 100000 in
set_option maxHeartbeats 4000000 in
theorem OrderingKeeps_any (A' : Option Addr) (ns ks : Nat) (ss : List Spn) (A : Option Addr) (nt kt : Nat) (text : List Int) (w : World) (hS : Spans w A' ss) (hT : Ints w A text)
    (hns : ss.length = ns) (hnt : text.length = nt) (hL : Laid w) :
    Calls Tryd.prog 6 #[.slice A' ns ks, .slice A nt kt] w (RetTrue w) := by
  have CA := Lib.hid (fun W hb => alive_any W (hL.below hb))
  have F := Lib.hid (few_any A' A ns ks nt kt w)
  by_cases h : ns ≤ 16 ∧ nt ≤ 40
  · have hd : decide (ns ≤ 16 ∧ nt ≤ 40) = true := by simpa using h
    rw [hd] at F
    obtain ⟨h1, h2⟩ := h
    have C1 := Lib.hid (Sort_any A' ns ks ss A nt kt text w hS hT hnt hns (by omega) (by omega) hL)
    have CC := Lib.hid (fun W x hb => Class_any A' ns ks ss x W (Spans.below (w := w) (w' := W) hS hb) hns (by omega) (hL.below hb))
    have hlen : (Can.srt (clz ss) text).length = text.length := Can.srt_len text
    have HK := Lib.hid (fun i h h' => Can.srt_keeps (fun x => (clz_range ss x).1) text i h h')
    have HP := Lib.hid (fun x => (Can.srt_perm (cl := clz ss) text).count_eq x)
    have HO := Lib.hid (fun i hi hz => Can.ok_at (Can.srt_ok (cl := clz ss) text) i hi hz)
    have HT := Lib.hid hT
    subst hnt
    clear hS hT hL hd hns
    generalize Can.srt (clz ss) text = rs at *
    generalize clz ss = cl at *
    have hrl : rs.length ≤ 40 := by omega
    have HLEN := Lib.hid hlen
    clear hlen
    go_enter Tryd.func6, Tryd.ntmps6
    go_wp2_with fail
    refine F.out.mono ?_
    rintro e w' ⟨rfl, rfl⟩
    go_wp2_with fail
    refine C1.out.mono ?_
    rintro e w1 ⟨A1, c1, rfl, hc1, hA1, B1⟩
    have HA1 := Lib.hid hA1
    have hll : ((text.length : Int) != (text.length : Int)) = false := by simp
    clear hA1 C1 F
    rw [show rs.length = text.length from HLEN.out] at hc1 ⊢
    go_wp2_with fail
    go_loopw [6] (fun u wr => ∃ i : Nat, i ≤ text.length ∧ u = .int .i64 i ∧ Below w1.heap.size w1 wr) (fun u _ => text.length - (intOf u).toNat)
    case atStart => exact ⟨0, Nat.zero_le _, rfl, Below.refl _ _⟩
    case round =>
      obtain ⟨i, hi, rfl, hb⟩ := hrel
      have B2 := B1.trans (hb.mono B1.size)
      by_cases hlt : i < text.length
      · have hlt' : i < rs.length := by rw [HLEN.out]; exact hlt
        obtain ⟨b, o, rfl, hcell⟩ := (HT.out.below B1).at hlt
        have c0 := hcell i hlt
        have hbw : b < w1.heap.size := World.block_lt_of_cell? w1 _ c0
        obtain ⟨b1, o1, rfl, hcell1⟩ := HA1.out.at hlt'
        have d0 := hcell1 i hlt'
        have hbw1 : b1 < w1.heap.size := World.block_lt_of_cell? w1 _ d0
        have KP := Lib.hid (HK.out i hlt hlt')
        have HPi := Lib.hid (HP.out text[i])
        have PREV := Lib.hid (show 0 < i → ∃ y', w1.cell? ⟨b1, o1 + (i - 1), none⟩ = some (.int .i64 y') ∧ (cl rs[i] ≠ 0 → cl y' ≤ cl rs[i]) from fun hp => ⟨_, hcell1 (i - 1) (by omega), fun hz => by
          have e : i - 1 + 1 = i := by omega
          have := HO.out (i - 1) (by omega) (by simpa only [e] using hz)
          simpa only [e] using this⟩)
        have CK := Lib.hid (fun W x (hb : Below w1.heap.size w1 W) => (CC.out W x (B1.trans (hb.mono B1.size))).mono (R' := RetKeep (.int .i64 (cl x)) (fun W' => W'.cell? ⟨b, o + i, none⟩ = some (.int .i64 text[i]) ∧ W'.cell? ⟨b1, o1 + i, none⟩ = some (.int .i64 rs[i]) ∧ Below w1.heap.size w1 W'))
          (fun e W' ⟨he, hb'⟩ => have hB : Below w1.heap.size w1 W' := hb.trans (hb'.mono hb.size)
            ⟨he, (hB.cell (p := ⟨b, o + i, none⟩) hbw).trans c0, (hB.cell (p := ⟨b1, o1 + i, none⟩) hbw1).trans d0, hB⟩))
        have c1' := (hb.cell (p := ⟨b, o + i, none⟩) hbw).trans c0
        have d1' := (hb.cell (p := ⟨b1, o1 + i, none⟩) hbw1).trans d0
        have CN1 := Lib.hid (fun W (hW : Below w1.heap.size w1 W) => count_any (some ⟨b1, o1, none⟩) text.length c1 rs text[i] W (HA1.out.below hW) HLEN.out (by omega))
        have CN2 := Lib.hid (fun W (hW : Below w1.heap.size w1 W) => count_any (some ⟨b, o, none⟩) text.length kt text text[i] W (HT.out.below (B1.trans (hW.mono B1.size))) rfl (by omega))
        rw [HPi.out] at CN1
        clear hcell hcell1 c0 d0 HPi
        generalize text[i] = x at *
        generalize rs[i] = y at *
        generalize (text.count x : Int) = N at *
        have hii : (i : Int) < (text.length : Int) := by omega
        have hi0 : (0 : Int) ≤ (i : Int) := by omega
        go_wp2_with fail
        go_region_held3 (fun W' => W'.cell? ⟨b, o + i, none⟩ = some (.int .i64 x) ∧ W'.cell? ⟨b1, o1 + i, none⟩ = some (.int .i64 y) ∧ Below w1.heap.size w1 W')
          (first | (go_split_ands; refine ⟨?_, ?_, ?_⟩ <;> first | assumption | exact Below.drew (by assumption) | go_keep))
          (first | (go_at_call 20; go_split_ands; refine (CK.out _ _ (by assumption)).mono ?_; rintro e w6 ⟨rfl, hS6⟩))
        obtain ⟨e0, e1, B6⟩ := hS6
        have KC := keep_cases KP.out.1 KP.out.2
        clear c1' d1' KP hb B2
        generalize cl x = za at *
        generalize hcy : cl y = zb at *
        clear hcy
        have CQ1 := Lib.hid (fun n => CN1.out (w6.drewN n) (B6.trans ((below_of_drewN w6 n).mono B6.size)))
        have CQ2 := Lib.hid (fun n => CN2.out (w6.drewN n) (B6.trans ((below_of_drewN w6 n).mono B6.size)))
        have hNN : (N != N) = false := by simp
        clear CN1 CN2 CK
        rcases KC with ⟨k1, k2, k3⟩ | ⟨k1, k2⟩
        · have a1 : (za == 0) = true := by simpa using k1
          have a2 : (zb == 0) = true := by simpa using k2
          have a3 : (y != x) = false := by simpa using k3
          have a4 : (zb != 0) = false := by simpa using k2
          clear k1 k2 k3 PREV
          by_cases hp : 0 < i
          all_goals
            go_wp2_with fail
            go_quiet ((go_at_call 23; first | (with_reducible exact quiet_left (CQ1.out _)) | (with_reducible exact quiet_left (CQ2.out _))))
            go_wp2_with fail
            go_roundw
            case rel => exact ⟨i + 1, by omega, by go_num, B6.trans ((below_of_drewN _ _).mono B6.size)⟩
            case measure => simp [intOf]; omega
        · have a1 : (za == 0) = false := by simpa using k1
          have a2 : (zb == 0) = false := by simpa using k2
          have a4 : (zb != 0) = true := by simpa using k2
          by_cases hp : ¬ 0 < i
          · clear k1 k2 PREV
            go_wp2_with fail
            go_quiet ((go_at_call 23; first | (with_reducible exact quiet_left (CQ1.out _)) | (with_reducible exact quiet_left (CQ2.out _))))
            go_wp2_with fail
            go_roundw
            case rel => exact ⟨i + 1, by omega, by go_num, B6.trans ((below_of_drewN _ _).mono B6.size)⟩
            case measure => simp [intOf]; omega
          · have hp' : 0 < i := by omega
            clear hp
            obtain ⟨y', hy1, hy2⟩ := PREV.out hp'
            have hy3 := hy2 k2
            have f0 := (B6.cell (p := ⟨b1, o1 + (i - 1), none⟩) hbw1).trans hy1
            clear k1 k2 PREV hy1 hy2
            go_wp2_with fail
            go_quiet ((go_at_call 23; first | (with_reducible exact quiet_left (CQ1.out _)) | (with_reducible exact quiet_left (CQ2.out _))))
            go_wp2_with fail
            have B7 := B1.trans (B6.mono B1.size)
            refine (CC.out _ y' (B7.trans ((below_of_drewN _ _).mono B7.size))).mono ?_
            rintro e w8 ⟨rfl, hb8⟩
            have B8 := (B6.trans ((below_of_drewN _ _).mono B6.size)).trans (hb8.mono (by have := B6.size; exact this))
            clear hb8 B7 e0 e1 f0
            generalize cl y' = zp at *
            have a5 : decide (zb < zp) = false := by simp; omega
            go_wp2_with fail
            go_roundw
            case rel => exact ⟨i + 1, by omega, by go_num, B8⟩
            case measure => simp [intOf]; omega
      · go_wp2_with fail
        refine (CA.out _ B2).mono ?_
        rintro e w3 ⟨rfl, hb3⟩
        go_wp2_with fail
        go_ret
        exact ⟨rfl, B2.trans (hb3.mono B2.size)⟩
  · have hd : decide (ns ≤ 16 ∧ nt ≤ 40) = false := by simpa using h
    rw [hd] at F
    clear hS hT hL hd hns hnt h
    go_enter Tryd.func6, Tryd.ntmps6
    go_wp2_with fail
    refine F.out.mono ?_
    rintro e w' ⟨rfl, rfl⟩
    go_wp2_with fail
    refine (CA.out _ (Below.refl _ _)).mono ?_
    rintro e w3 ⟨rfl, hb3⟩
    go_wp2_with fail
    go_ret
    exact ⟨rfl, hb3⟩

end Go.Proofs.YthagfcdleapooaaDoor
