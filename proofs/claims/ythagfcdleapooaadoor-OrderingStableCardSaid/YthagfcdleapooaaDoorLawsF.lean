/- The walk of OrderingStable. -/
import Derived.Test.YthagfcdleapooaaDoorLawsE
namespace Go.Proofs.YthagfcdleapooaaDoor
open Go.RowKit

/-- ints of a slice that is cut out of another -/
theorem Ints.sub {w : World} {b o : Nat} {zs : List Int} (h : Ints w (some ⟨b, o, none⟩) zs) (lo hi : Nat) : Ints w (some ⟨b, o + lo, none⟩) ((zs.drop lo).take (hi - lo)) := by
  have h1 := Ints.cut h lo
  intro hne
  have hne' : ((zs.drop lo).map (Value.int .i64)) ≠ [] := by
    intro e
    apply hne
    rw [List.map_take, e, List.take_nil]
  obtain ⟨b', o', hA, hc⟩ := h1 hne'
  refine ⟨b', o', hA, fun j u hu => hc j u ?_⟩
  rw [List.map_take, List.getElem?_take] at hu
  split at hu
  · exact hu
  · cases hu

theorem below_drewN' {n : Nat} {a w : World} (h : Below n a w) (k : Nat) : Below n a (w.drewN k) := ⟨h.os, h.tape, h.output, h.size, h.block⟩

/-- a slice of the ints zs is returned, and S holds -/
def RetSeg (zs : List Int) (n : Nat) (S : World → Prop) (e : Ending) (w' : World) : Prop := ∃ A c, e = .returned (.slice A n c) ∧ n ≤ c ∧ Ints w' A zs ∧ S w'

def RetSeg2 (zs : List Int) (w : World) (S : World → Prop) (e : Ending) (w' : World) : Prop := ∃ A c, e = .returned (.slice A zs.length c) ∧ zs.length ≤ c ∧ Ints w' A zs ∧ Below w.heap.size w w' ∧ S w'

set_option maxRecDepth 100000 in
set_option maxHeartbeats 4000000 in
theorem OrderingStable_any (A' : Option Addr) (ns ks : Nat) (ss : List Spn) (A : Option Addr) (nt kt : Nat) (text : List Int) (k0 : Int) (w : World) (hS : Spans w A' ss) (hT : Ints w A text)
    (hns : ss.length = ns) (hnt : text.length = nt) (hcap : nt ≤ kt) (hk0 : 0 ≤ k0 ∧ k0 ≤ 255) (hL : Laid w) :
    Calls Tryd.prog 7 #[.slice A' ns ks, .slice A nt kt, .int .u8 k0] w (RetTrue w) := by
  have CA := Lib.hid (fun W hb => alive_any W (hL.below hb))
  have F := Lib.hid (few_any A' A ns ks nt kt w)
  by_cases h : ns ≤ 16 ∧ nt ≤ 40
  · have hd : decide (ns ≤ 16 ∧ nt ≤ 40) = true := by simpa using h
    rw [hd] at F
    obtain ⟨h1, h2⟩ := h
    have C1 := Lib.hid (Sort_any A' ns ks ss A nt kt text w hS hT hnt hns (by omega) (by omega) hL)
    have C2 := Lib.hid (fun W hb => Runs_any A' ns ks ss A nt kt text W (Spans.below (w := w) (w' := W) hS hb) (Ints.below (w := w) (w' := W) hT hb) hnt hns (by omega) (by omega) (hL.below hb))
    have CS := Lib.hid (fun W T n k (zs : List Int) hb (hT : Ints W T zs) (hn : zs.length = n) (hle : n ≤ 40) => Sort_any A' ns ks ss T n k zs W (Spans.below (w := w) (w' := W) hS hb) hT hn hns (by omega) (by omega) (hL.below hb))
    have CO := Lib.hid (fun W T n k (zs : List Int) hb (hT : Ints W T zs) (hn : zs.length = n) (hle : n ≤ 40) => of_any A' ns ks ss T n k zs k0 W (Spans.below (w := w) (w' := W) hS hb) hT hn hns (by omega) (by omega) (hL.below hb))
    have hlen : (Can.srt (clz ss) text).length = text.length := Can.srt_len text
    have HW := Lib.hid (Can.rns_where (cl := clz ss) text text 0 none rfl (Nat.zero_le _) (fun _ => .inl rfl) (fun a h => by cases h))
    have HCL := fun x => (clz_range ss x).1
    have HR := Lib.hid (Can.srt_run HCL text)
    have HF := Lib.hid (Can.run_class HCL text)
    have hrl : (rns (clz ss) text 0 none).length ≤ 40 := by have := rns_len0 (clz ss) text 0; omega
    have HT := Lib.hid hT
    subst hnt
    clear hS hT hL hd hns HCL
    have HLEN := Lib.hid hlen
    clear hlen
    generalize Can.srt (clz ss) text = rs at *
    generalize rns (clz ss) text 0 none = rn at *
    go_enter Tryd.func7, Tryd.ntmps7
    go_wp2_with fail
    refine F.out.mono ?_
    rintro e w' ⟨rfl, rfl⟩
    go_wp2_with fail
    refine C1.out.mono ?_
    rintro e w1 ⟨A1, c1, rfl, hc1, hA1, B1⟩
    rw [show rs.length = text.length from HLEN.out] at hc1 ⊢
    go_wp2_with fail
    refine (C2.out _ B1).mono ?_
    rintro e w2 ⟨A2, c2, rfl, hc2, hA2, hb2⟩
    have B2 := B1.trans (hb2.mono B1.size)
    have HA1 := Lib.hid (hA1.below hb2)
    have HA2 := Lib.hid hA2
    clear hA1 hA2 hb2 C1 C2 F B1
    go_wp2_with fail
    go_loopw [9] (fun u wr => ∃ i : Nat, i ≤ rn.length ∧ u = .int .i64 i ∧ Below w2.heap.size w2 wr) (fun u _ => rn.length - (intOf u).toNat)
    case atStart => exact ⟨0, Nat.zero_le _, rfl, Below.refl _ _⟩
    case round =>
      obtain ⟨i, hi, rfl, hb⟩ := hrel
      have B3 := B2.trans (hb.mono B2.size)
      by_cases hlt : i < rn.length
      · obtain ⟨_, g1, g2, g3, g4⟩ := HW.out.1 rn[i] (List.getElem_mem hlt)
        have hpw := Lib.hid (fun (hp : 0 < i) => List.pairwise_iff_getElem.1 HW.out.2 (i - 1) i (by omega) hlt (by omega))
        obtain ⟨b2, o2, rfl, hbw2, hcell⟩ := HA2.out.range hlt
        obtain ⟨c0, d0⟩ := hcell i hlt
        have PREV := Lib.hid (show 0 < i → ∃ m : Nat, w2.cell? ⟨b2, o2 + (i - 1) * 2 + 1, none⟩ = some (.int .i64 (m : Int)) ∧ m < rn[i].1 from fun hp => ⟨_, (hcell (i - 1) (by omega)).2, hpw.out hp⟩)
        obtain ⟨b, o, rfl, _⟩ := HT.out.at (show 0 < text.length by omega)
        obtain ⟨b1, o1, rfl, _⟩ := HA1.out.at (show 0 < rs.length by rw [HLEN.out]; omega)
        have R1 := Lib.hid (HR.out _ _ g1 g2 g3 g4)
        have R2 := Lib.hid (HF.out _ _ g1 g2 g3 g4 k0)
        clear hcell hpw g3 g4
        generalize rn[i].1 = lo at *
        generalize rn[i].2 = hi' at *
        have hl1 : ((text.drop lo).take (hi' - lo)).length = hi' - lo := by simp; omega
        have hl2 : ((rs.drop lo).take (hi' - lo)).length = hi' - lo := by have := HLEN.out; simp; omega
        have S1 := Lib.hid (fun W (hW : Below w2.heap.size w2 W) => (HT.out.below (B2.trans (hW.mono B2.size))).sub lo hi')
        have S2 := Lib.hid (fun W (hW : Below w2.heap.size w2 W) => (HA1.out.below hW).sub lo hi')
        have CSeg := Lib.hid (fun W (hW : Below w2.heap.size w2 W) => (CS.out W (some ⟨b, o + lo, none⟩) (hi' - lo) (kt - lo) _ (B2.trans (hW.mono B2.size)) (S1.out W hW) hl1 (by omega)).mono (R' := RetSeg ((rs.drop lo).take (hi' - lo)) (hi' - lo) (Below w2.heap.size w2))
          (fun e W' ⟨A6, c6, he, hc6, hA6, hb6⟩ => ⟨A6, c6, by rw [he, R1.out, hl2], by rw [R1.out, hl2] at hc6; exact hc6, by rw [R1.out] at hA6; exact hA6, hW.trans (hb6.mono hW.size)⟩))
        have CE := Lib.hid (fun W A6 c6 (hI : Ints W A6 ((rs.drop lo).take (hi' - lo))) (hW : Below w2.heap.size w2 W) => (Equal_any A6 (some ⟨b1, o1 + lo, none⟩) (hi' - lo) (hi' - lo) c6 (c1 - lo) _ _ W hI (S2.out W hW) hl2 hl2 (by omega) (by omega)).mono (R' := RetKeep (.bool true) (Below w2.heap.size w2))
          (fun e W' ⟨he, hq⟩ => ⟨by rw [he]; simp, hW.trans (hq.below.mono hW.size)⟩))
        have hn3 : (((text.drop lo).take (hi' - lo)).filter fun x => clz ss x == k0).length ≤ 40 := by have := List.length_filter_le (fun x => clz ss x == k0) ((text.drop lo).take (hi' - lo)); omega
        have CO1 := Lib.hid (fun W (hW : Below w2.heap.size w2 W) => (CO.out W (some ⟨b, o + lo, none⟩) (hi' - lo) (kt - lo) _ (B2.trans (hW.mono B2.size)) (S1.out W hW) hl1 (by omega)).mono (R' := RetSeg2 (((text.drop lo).take (hi' - lo)).filter fun x => clz ss x == k0) W (Below w2.heap.size w2)) (fun e W' ⟨A6, c6, he, hc6, hA6, hb6⟩ => ⟨A6, c6, he, hc6, hA6, hb6, hW.trans (hb6.mono hW.size)⟩))
        have CO2 := Lib.hid (fun W (hW : Below w2.heap.size w2 W) => (CO.out W (some ⟨b1, o1 + lo, none⟩) (hi' - lo) (c1 - lo) _ (B2.trans (hW.mono B2.size)) (S2.out W hW) hl2 (by omega)).mono (R' := RetSeg2 (((rs.drop lo).take (hi' - lo)).filter fun x => clz ss x == k0) W (Below w2.heap.size w2)) (fun e W' ⟨A6, c6, he, hc6, hA6, hb6⟩ => ⟨A6, c6, he, hc6, hA6, hb6, hW.trans (hb6.mono hW.size)⟩))
        rw [← R2.out] at CO2
        generalize (((text.drop lo).take (hi' - lo)).filter fun x => clz ss x == k0) = fl at *
        have CEF := Lib.hid (fun W A8 c8 A9 c9 (h8 : Ints W A8 fl) (h9 : Ints W A9 fl) (hW : Below w2.heap.size w2 W) => (Equal_any A8 A9 fl.length fl.length c8 c9 fl fl W h8 h9 rfl rfl (by omega) (by omega)).mono (R' := RetKeep (.bool true) (Below w2.heap.size w2))
          (fun e W' ⟨he, hq⟩ => ⟨by rw [he]; simp, hW.trans (hq.below.mono hW.size)⟩))
        clear R1 R2 S1 S2 hl1 hl2 CS CO
        have e0 := (hb.cell (p := ⟨b2, o2 + i * 2, none⟩) hbw2).trans c0
        have e1 := (hb.cell (p := ⟨b2, o2 + i * 2 + 1, none⟩) hbw2).trans d0
        have hii : (i : Int) < (rn.length : Int) := by omega
        have hi0 : (0 : Int) ≤ (i : Int) := by omega
        go_wp2_with fail
        go_quiet (fail)
        clear c0 d0 e0 e1
        have hb4 : Below w2.heap.size w2 (wr.drewN nq) := below_drewN' hb nq
        obtain ⟨W4, hW4⟩ : ∃ W4, wr.drewN nq = W4 := ⟨_, rfl⟩
        rw [hW4] at hb4 ⊢
        clear hW4 hb B3
        have lo0 : decide ((lo : Int) < 0) = false := by simp
        have hll : ((text.length : Int) != (text.length : Int)) = false := by simp
        have k1i : (lo : Int) ≤ (hi' : Int) := by omega
        have k2i : (hi' : Int) ≤ (kt : Int) := by omega
        have k3i : (hi' : Int) ≤ (c1 : Int) := by omega
        have k4i : (0 : Int) ≤ (lo : Int) := by omega
        have n1 : ¬ kt = lo := by omega
        have n2 : ¬ c1 = lo := by omega
        by_cases hp : 0 < i
        case' pos =>
          obtain ⟨m, hm1, hm2⟩ := PREV.out hp
          have f0 := (hb4.cell (p := ⟨b2, o2 + (i - 1) * 2 + 1, none⟩) hbw2).trans hm1
        all_goals
          go_wp2_with fail
          go_region_held3 (fun W' => Below w2.heap.size w2 W')
            (first | assumption | exact Below.drew (by assumption))
            (first | (go_at_call 22; (with_reducible refine (CSeg.out _ (by assumption)).mono ?_); rintro e w6 ⟨A6, c6, rfl, hc6, hA6, hS6⟩) | (go_at_call 21; (with_reducible refine (CE.out _ A6 c6 hA6 hS6).mono ?_); rintro e w7 ⟨rfl, hS7⟩))
          go_wp2_with fail
          have hb7 := hS7
          clear hA6 hS6 hS7 hc6
          have hwk : IntKind.i64.wrap k0 = k0 := IntWalk.i64_in _ (by omega)
          go_region_held3 (fun W' => Below w2.heap.size w2 W')
            (first | assumption | exact Below.drew (by assumption))
            (first
              | (go_at_call 24; (with_reducible refine (CO1.out _ (by assumption)).mono ?_); rintro e w8 ⟨A8, c8, rfl, hc8, hA8, hb8, hS8⟩)
              | (go_at_call 24; (with_reducible refine (CO2.out _ (by assumption)).mono ?_); rintro e w9 ⟨A9, c9, rfl, hc9, hA9, hb9, hS9⟩)
              | (go_at_call 21; first | ((with_reducible refine (CEF.out _ A8 c8 A9 c9 (hA8.below hb9) hA9 hS9).mono ?_); rintro e w10 ⟨rfl, hS10⟩) | ((with_reducible refine (CEF.out _ A8 c8 A9 c9 hA8 (hA9.below hb8) hS8).mono ?_); rintro e w10 ⟨rfl, hS10⟩)))
          all_goals
            clear hwk
            go_wp2_with fail
            go_roundw
            case rel => exact ⟨i + 1, by omega, by go_num, hS10⟩
            case measure => simp [intOf]; omega
      · go_wp2_with fail
        refine (CA.out _ B3).mono ?_
        rintro e w3 ⟨rfl, hb3⟩
        go_wp2_with fail
        go_ret
        exact ⟨rfl, B3.trans (hb3.mono B3.size)⟩
  · have hd : decide (ns ≤ 16 ∧ nt ≤ 40) = false := by simpa using h
    rw [hd] at F
    clear hS hT hL hd hns hnt h
    go_enter Tryd.func7, Tryd.ntmps7
    go_wp2_with fail
    refine F.out.mono ?_
    rintro e w' ⟨rfl, rfl⟩
    go_wp2_with fail
    refine (CA.out _ (Below.refl _ _)).mono ?_
    rintro e w3 ⟨rfl, hb3⟩
    go_wp2_with fail
    go_ret
    exact ⟨rfl, hb3⟩

end Go.Proofs.YthagfcdleapooaaDoor
