/- Contracts of Sorted in the program and in the reference, of count and of: what they compute. -/
import Derived.Test.YthagfcdleapooaaDoorRefRuns
namespace Go.Proofs.YthagfcdleapooaaDoor
open Go.RowKit

theorem Sorted_any (A' : Option Addr) (ns ks : Nat) (ss : List Spn) (A : Option Addr) (nt kt : Nat) (text : List Int) (w : World) (hS : Spans w A' ss) (hT : Ints w A text)
    (hnt : text.length = nt) (hns : ss.length = ns) (hb1 : nt ≤ 1048576) (hb2 : ns ≤ 1099511627776) (hL : Laid w) :
    Calls Tryd.prog 29 #[.slice A' ns ks, .slice A nt kt] w (RetBool (decide (Can.srt (clz ss) text = text)) w) := by
  have C := Lib.hid (Sort_any A' ns ks ss A nt kt text w hS hT hnt hns hb1 hb2 hL)
  have hl : (Can.srt (clz ss) text).length = nt := by rw [Can.srt_len, hnt]
  have HT := Lib.hid hT; have HN := Lib.hid hnt
  clear hS hT hnt hns hL
  generalize Can.srt (clz ss) text = sx at *
  subst hl
  go_enter Tryd.func29, Tryd.ntmps29
  go_wp2_with fail
  refine C.out.mono ?_
  rintro e w1 ⟨A1, c1, rfl, hc1, hA1, hb3⟩
  go_wp2_with fail
  refine (cpEqual_any A1 A _ _ c1 kt sx text w1 hA1 (HT.out.below hb3) rfl HN.out (by omega) (by omega)).mono ?_
  rintro e w2 ⟨rfl, hq⟩
  go_wp2_with fail
  go_ret
  exact ⟨rfl, hb3.trans (hq.below.mono hb3.size)⟩

theorem refSorted_any (A' : Option Addr) (ns ks : Nat) (ss : List Spn) (A : Option Addr) (nt kt : Nat) (text : List Int) (w : World) (hS : Spans w A' ss) (hT : Ints w A text)
    (hnt : text.length = nt) (hns : ss.length = ns) (hb1 : nt ≤ 1048576) (hb2 : ns ≤ 1099511627776) :
    Calls Tryd.prog 30 #[.slice A' ns ks, .slice A nt kt] w (RetBool (decide (Can.srt (clz ss) text = text)) w) := by
  have C := Lib.hid (refSort_any A' ns ks ss A nt kt text w hS hT hnt hns hb1 hb2)
  have hl : (Can.srt (clz ss) text).length = nt := by rw [Can.srt_len, hnt]
  have HT := Lib.hid hT; have HN := Lib.hid hnt
  clear hS hT hnt hns
  generalize Can.srt (clz ss) text = sx at *
  subst hl
  go_enter Tryd.func30, Tryd.ntmps30
  go_wp2_with fail
  refine C.out.mono ?_
  rintro e w1 ⟨A1, c1, rfl, hc1, hA1, hb3⟩
  go_wp2_with fail
  refine (Equal_any A1 A _ _ c1 kt sx text w1 hA1 (HT.out.below hb3) rfl HN.out (by omega) (by omega)).mono ?_
  rintro e w2 ⟨rfl, hq⟩
  go_wp2_with fail
  go_ret
  exact ⟨rfl, hb3.trans (hq.below.mono hb3.size)⟩

theorem count_take (l : List Int) (c : Int) (k : Nat) (h : k < l.length) : ((l.take (k + 1)).count c : Int) = (l.take k).count c + if l[k] = c then 1 else 0 := by
  rw [List.take_succ_eq_append_getElem h, List.count_append, List.count_singleton]
  by_cases e : l[k] = c <;> simp [e]

theorem count_any (A : Option Addr) (n k : Nat) (l : List Int) (c : Int) (w : World) (hA : Ints w A l) (hn : l.length = n) (hb : n ≤ 1048576) :
    Calls Tryd.prog 23 #[.slice A n k, .int .i64 c] w fun e w' => e = .returned (.int .i64 (l.count c : Int)) ∧ w = w' := by
  subst hn
  go_enter Tryd.func23, Tryd.ntmps23
  go_wp2_with fail
  go_loop [5, 6] (fun v u => ∃ i : Nat, i ≤ l.length ∧ u = .int .i64 i ∧ v = .int .i64 ((l.take i).count c : Int)) (fun _ u => l.length - (intOf u).toNat)
  case atStart => exact ⟨0, Nat.zero_le _, rfl, by simp⟩
  case round =>
    obtain ⟨i, hi, rfl, rfl⟩ := hrel
    have hcl : ((l.take i).count c : Int) ≤ i := by have h1 := List.count_le_length (a := c) (l := l.take i); simp at h1; omega
    by_cases hlt : i < l.length
    · obtain ⟨b, o, rfl, hcell⟩ := hA.at hlt
      have c1 := hcell i hlt
      have HT := Lib.hid (count_take l c i hlt)
      clear hcell
      generalize l[i] = x at *
      have hc0 : (0 : Int) ≤ ((l.take i).count c : Int) := by omega
      by_cases hx : x = c
      · have hxb : (x == c) = true := by simpa using hx
        have HX := Lib.hid (HT.out.trans (by rw [if_pos hx]))
        clear hx
        go_wp2
        go_round
        case rel => exact ⟨i + 1, by omega, by go_num, by rw [HX.out]⟩
        case measure => simp [intOf]; omega
      · have hxb : (x == c) = false := by simpa using hx
        have HX := Lib.hid (HT.out.trans (by rw [if_neg hx, Int.add_zero]))
        clear hx
        go_wp2
        go_round
        case rel => exact ⟨i + 1, by omega, by go_num, by rw [HX.out]⟩
        case measure => simp [intOf]; omega
    · go_wp2
      go_ret
      exact ⟨ret_int (by rw [List.take_of_length_le (by omega)]), rfl⟩

theorem filter_take (l : List Int) (p : Int → Bool) (k : Nat) (h : k < l.length) : (l.take (k + 1)).filter p = (l.take k).filter p ++ if p l[k] = true then [l[k]] else [] := by
  rw [List.take_succ_eq_append_getElem h, List.filter_append]
  by_cases e : p l[k] = true <;> simp [e]

set_option maxHeartbeats 2000000 in
theorem of_any (A' : Option Addr) (ns ks : Nat) (ss : List Spn) (A : Option Addr) (nt kt : Nat) (text : List Int) (k0 : Int) (w : World) (hS : Spans w A' ss) (hT : Ints w A text)
    (hnt : text.length = nt) (hns : ss.length = ns) (hb1 : nt ≤ 1048576) (hb2 : ns ≤ 1099511627776) (hL : Laid w) :
    Calls Tryd.prog 24 #[.slice A' ns ks, .slice A nt kt, .int .i64 k0] w (RetInts (text.filter fun x => clz ss x == k0) w) := by
  have CC := Lib.hid (fun W hb c => Class_any A' ns ks ss c W (Spans.below (w := w) (w' := W) hS hb) hns hb2 (hL.below hb))
  have HT := Lib.hid hT
  clear hS hT hns hL
  subst hnt
  generalize clz ss = cl at *
  go_enter Tryd.func24, Tryd.ntmps24
  go_wp2_with fail
  go_loopw [7, 8] (fun v u wr => ∃ (k n c : Nat) (B : Option Addr), k ≤ text.length ∧ u = .int .i64 k ∧ v = .slice B n c ∧ ((text.take k).filter fun x => cl x == k0).length = n ∧ wr.ownsRow w.heap.size 3 1 (.slice B n c) n (((text.take k).filter fun x => cl x == k0).map (Value.int .i64)) ∧ Below w.heap.size w wr)
    (fun _ u _ => text.length - (intOf u).toNat)
  case atStart => exact ⟨0, 0, 0, none, Nat.zero_le _, rfl, rfl, by simp, by simpa using World.ownsRow_nil _ _ _ _, Below.refl _ _⟩
  case round =>
    obtain ⟨k, n, c, B, hk, rfl, rfl, hn, hown, hbel⟩ := hrel
    by_cases hlt : k < text.length
    · obtain ⟨b, o, rfl, hcell⟩ := HT.out.at hlt
      have c0 := hcell k hlt
      have hbw : b < w.heap.size := World.block_lt_of_cell? w _ c0
      have c1 : wr.cell? ⟨b, o + k, none⟩ = some (.int .i64 text[k]) := (hbel.cell (p := ⟨b, o + k, none⟩) hbw).trans c0
      have hn0 : n ≤ k := by rw [← hn]; have := List.length_filter_le (fun x => cl x == k0) (text.take k); simp at this; omega
      have HF := Lib.hid (filter_take text (fun x => cl x == k0) k hlt)
      have HN := Lib.hid hn; have HOWN := Lib.hid hown; have HC0 := Lib.hid c0
      clear hcell hn hown c0
      generalize text[k] = x at *
      go_wp2_with fail
      refine (CC.out _ hbel x).mono ?_
      rintro e w1 ⟨rfl, hb1'⟩
      have hB1 := hbel.trans (hb1'.mono hbel.size)
      have HOWN1 := Lib.hid (own_keep HOWN.out hb1')
      have c2 : w1.cell? ⟨b, o + k, none⟩ = some (.int .i64 x) := (hB1.cell (p := ⟨b, o + k, none⟩) hbw).trans HC0.out
      clear hb1' c1 hbel HOWN
      by_cases hx : (cl x == k0) = true
      · have HR := Lib.hid (HF.out.trans (by rw [if_pos hx]))
        clear HF
        generalize cl x = z at *
        go_wp2_with (at_builtin; refine wpList_app _ _ 27 3 (.int .i64 0) 1 8 rfl rfl Tryd.underlying27 info_int rfl (by decide) (by decide) rfl (HOWN1.out.alloc _) rfl (Sl_new w1 [.int .i64 x] 3 rfl) (by simp) (oneCell_ints [x]) (by omega) (by have := hB1.size; simp; omega) ?_; intro B1 c1' w2 hown1 hc1 hb1 _ _)
        have hB2 : Below w.heap.size w w2 := (hB1.alloc hB1.size _).trans hb1
        have HO9 := Lib.hid hown1
        clear hown1 hb1
        go_roundw
        case rel => exact ⟨k + 1, n + 1, c1', B1, by omega, by go_num, rfl, by rw [HR.out, List.length_append, HN.out]; rfl, by rw [HR.out, List.map_append]; exact HO9.out, hB2⟩
        case measure => simp [intOf]; omega
      · have hxb : (cl x == k0) = false := by simpa using hx
        have HR := Lib.hid (HF.out.trans (by rw [if_neg hx, List.append_nil]))
        clear HF hx
        generalize cl x = z at *
        go_wp2_with fail
        go_roundw
        case rel => exact ⟨k + 1, n, c, B, by omega, by go_num, rfl, by rw [HR.out]; exact HN.out, by rw [HR.out]; exact HOWN1.out, hB1⟩
        case measure => simp [intOf]; omega
    · go_wp2
      go_ret
      have e1 : text.take k = text := List.take_of_length_le (by omega)
      rw [e1] at hown hn
      subst hn
      obtain ⟨_, _, hv, hc⟩ := own_form hown
      injection hv with _ _ h
      exact ⟨B, c, rfl, by omega, Sl.of_own hown, hbel⟩

end Go.Proofs.YthagfcdleapooaaDoor
