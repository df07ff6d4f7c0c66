/- Contracts of the reference's Runs, of Sorted in both, of count and of: what they compute. -/
import Derived.Test.YthagfcdleapooaaDoorRefSort
import Derived.Test.YthagfcdleapooaaDoorCmp
namespace Go.Proofs.YthagfcdleapooaaDoor
open Go.RowKit

theorem flat2_set (pre : List (Nat × Nat)) (a b c : Nat) : (flat2 (pre ++ [(a, b)])).set (pre.length * 2 + 1) (.int .i64 (c : Int)) = flat2 (pre ++ [(a, c)]) := by
  rw [flat2_snoc, flat2_snoc, List.set_append_right _ _ (by rw [flat2_len]; omega), flat2_len, show pre.length * 2 + 1 - pre.length * 2 = 1 by omega]
  rfl

theorem oneCell_two (a b : Int) : ∀ u ∈ [Value.int .i64 a, Value.int .i64 b], u.oneCell' = true := oneCell_ints [a, b]

set_option maxRecDepth 100000 in
set_option maxHeartbeats 4000000 in
theorem refRuns_any (A' : Option Addr) (ns ks : Nat) (ss : List Spn) (A : Option Addr) (nt kt : Nat) (text : List Int) (w : World) (hS : Spans w A' ss) (hT : Ints w A text)
    (hnt : text.length = nt) (hns : ss.length = ns) (hb1 : nt ≤ 1048576) (hb2 : ns ≤ 1099511627776) :
    Calls Tryd.prog 19 #[.slice A' ns ks, .slice A nt kt] w (RetRanges (rns (clz ss) text 0 none) w) := by
  have CC := Lib.hid (fun W hb c => refStarter_any A' ns ks ss c W (Spans.below (w := w) (w' := W) hS hb) hns hb2)
  have HT := Lib.hid hT
  clear hS hT hns
  subst hnt
  generalize clz ss = cl at *
  go_enter Tryd.func19, Tryd.ntmps19
  go_wp2
  go_loopw [5, 6] (fun v u wr => ∃ (k n c : Nat) (B : Option Addr), k ≤ text.length ∧ u = .int .i64 k ∧ v = .slice B n c ∧ (rns cl (text.take k) 0 none).length = n ∧ wr.ownsRow w.heap.size 38 2 (.slice B n c) n (flat2 (rns cl (text.take k) 0 none)) ∧ Below w.heap.size w wr)
    (fun _ u _ => text.length - (intOf u).toNat)
  case atStart => exact ⟨0, 0, 0, none, Nat.zero_le _, rfl, rfl, rfl, World.ownsRow_nil _ _ _ _, Below.refl _ _⟩
  case round =>
    obtain ⟨k, n, c, B, hk, rfl, rfl, hn, hown, hbel⟩ := hrel
    by_cases hlt : k < text.length
    · obtain ⟨b, o, rfl, hcell⟩ := HT.out.at hlt
      have c0 := hcell k hlt
      have hbw : b < w.heap.size := World.block_lt_of_cell? w _ c0
      have c1 : wr.cell? ⟨b, o + k, none⟩ = some (.int .i64 text[k]) := (hbel.cell (p := ⟨b, o + k, none⟩) hbw).trans c0
      have HCELL := Lib.hid hcell
      obtain ⟨t0, t1, t2⟩ := rns_take cl text k hlt
      have hn0 : n ≤ k := by rw [← hn]; have := rns_len0 cl (text.take k) 0; simp at this; omega
      have T0 := Lib.hid t0; have T1 := Lib.hid t1; have T2 := Lib.hid t2; have HN := Lib.hid hn; have HOWN := Lib.hid hown
      clear hcell t0 t1 t2 hn hown c0
      generalize text[k] = x at *
      go_wp2_with fail
      refine (CC.out _ hbel x).mono ?_
      rintro e w1 ⟨rfl, hb1'⟩
      have hB1 := hbel.trans (hb1'.mono hbel.size)
      have HOWN1 := Lib.hid (own_keep HOWN.out hb1')
      clear hb1' c1 hbel HOWN
      by_cases hx : cl x = 0
      · have hxb : (cl x == 0) = true := by simpa using hx
        have HR := Lib.hid (T0.out hx)
        clear T0 T1 T2 hx
        generalize cl x = z at *
        go_wp2_with fail
        go_roundw
        case rel => exact ⟨k + 1, n, c, B, by omega, by go_num, rfl, by rw [HR.out]; exact HN.out, by rw [HR.out]; exact HOWN1.out, hB1⟩
        case measure => simp [intOf]; omega
      · have hxb : (cl x == 0) = false := by simpa using hx
        have T1' := Lib.hid (T1.out hx); have T2' := Lib.hid (T2.out hx)
        clear T0 T1 T2 hx
        generalize cl x = z at *
        have APP := Lib.hid (fun (h : rns cl (text.take (k + 1)) 0 none = rns cl (text.take k) 0 none ++ [(k, k + 1)]) (W : World) (v : Value) (hW : W.ownsRow w.heap.size 38 2 v (n + 1) (flat2 (rns cl (text.take k) 0 none) ++ [.int .i64 (k : Int), .int .i64 ((k + 1 : Nat) : Int)])) =>
          show (rns cl (text.take (k + 1)) 0 none).length = n + 1 ∧ W.ownsRow w.heap.size 38 2 v (n + 1) (flat2 (rns cl (text.take (k + 1)) 0 none)) by
            rw [h, flat2_snoc, List.length_append, HN.out]; exact ⟨rfl, hW⟩)
        have ek : (((k + 1 : Nat) : Int)) = (k : Int) + 1 := by omega
        rw [ek] at APP
        clear ek
        rcases Nat.eq_zero_or_pos k with h0 | h0
        · subst h0
          have HR := Lib.hid (T2'.out (fun hp => absurd hp (by omega)))
          clear T1' T2'
          go_wp2_with (at_builtin; refine wpList_app _ _ 30 38 (.agg #[.int .i64 0, .int .i64 0]) 2 16 rfl rfl Tryd.underlying30 info_range rfl (by decide) (by decide) rfl (HOWN1.out.alloc _) rfl (Sl_new w1 [.int .i64 _, .int .i64 _] 38 rfl) (by simp) (oneCell_two _ _) (by omega) (by have := hB1.size; simp; omega) ?_; intro B1 c1' w2 hown1 hc1 hb1 _ _)
          have hB2 : Below w.heap.size w w2 := (hB1.alloc hB1.size _).trans hb1
          obtain ⟨hl9, ho9⟩ := APP.out HR.out _ _ hown1
          clear hown1 hb1
          have HL9 := Lib.hid hl9; have HO9 := Lib.hid ho9; clear hl9 ho9
          go_roundw
          case rel => exact ⟨0 + 1, n + 1, c1', B1, by omega, by go_num, rfl, HL9.out, HO9.out, hB2⟩
          case measure => simp [intOf]; omega
        · have cp := HCELL.out (k - 1) (by omega)
          have cp1 : w1.cell? ⟨b, o + (k - 1), none⟩ = some (.int .i64 text[k - 1]) := (hB1.cell (p := ⟨b, o + (k - 1), none⟩) hbw).trans cp
          have T3 := Lib.hid (T1'.out h0)
          have T4 := Lib.hid (fun (h : cl (text[k - 1]'(by omega)) = 0) => T2'.out (fun _ => h))
          clear cp T1' T2' HCELL
          generalize text[k - 1] = y at *
          go_wp2_with fail
          refine (CC.out _ hB1 y).mono ?_
          rintro e w2 ⟨rfl, hb2'⟩
          have hB2 := hB1.trans (hb2'.mono hB1.size)
          have HOWN2 := Lib.hid (own_keep HOWN1.out hb2')
          clear hb2' cp1 hB1 HOWN1
          by_cases hy : cl y = 0
          · have hyb : (cl y == 0) = true := by simpa using hy
            have HR := Lib.hid (T4.out hy)
            clear T3 T4 hy
            generalize cl y = zy at *
            go_wp2_with (at_builtin; refine wpList_app _ _ 30 38 (.agg #[.int .i64 0, .int .i64 0]) 2 16 rfl rfl Tryd.underlying30 info_range rfl (by decide) (by decide) rfl (HOWN2.out.alloc _) rfl (Sl_new w2 [.int .i64 _, .int .i64 _] 38 rfl) (by simp) (oneCell_two _ _) (by omega) (by have := hB2.size; simp; omega) ?_; intro B1 c1' w3 hown1 hc1 hb1 _ _)
            have hB3 : Below w.heap.size w w3 := (hB2.alloc hB2.size _).trans hb1
            obtain ⟨hl9, ho9⟩ := APP.out HR.out _ _ hown1
            clear hown1 hb1
            have HL9 := Lib.hid hl9; have HO9 := Lib.hid ho9; clear hl9 ho9
            go_roundw
            case rel => exact ⟨k + 1, n + 1, c1', B1, by omega, by go_num, rfl, HL9.out, HO9.out, hB3⟩
            case measure => simp [intOf]; omega
          · have hyb : (cl y == 0) = false := by simpa using hy
            obtain ⟨pre, a, hr1, hr2⟩ := T3.out hy
            clear T3 T4 hy APP
            generalize cl y = zy at *
            have hnp : n = pre.length + 1 := by rw [← HN.out, hr1]; simp
            subst hnp
            have HOWN3 := HOWN2.out
            rw [hr1] at HOWN3
            obtain ⟨g, hBg, hgb⟩ : ∃ g, B = some ⟨g, 0, none⟩ ∧ w.heap.size ≤ g := by
              rcases HOWN3.2 with ⟨hv, h⟩ | ⟨g, cap, cur, hv, hb, _⟩
              · omega
              · injection hv with hA; exact ⟨g, hA, hb⟩
            subst hBg
            have st := HOWN3.stored (pre.length * 2 + 1) (.int .i64 ((k + 1 : Nat) : Int))
            rw [flat2_set] at st
            have cv : w2.cell? ⟨g, pre.length * 2 + 1, none⟩ = some (.int .i64 (k : Int)) := by
              rw [HOWN3.cellAt _ (by omega), flat2_snoc, List.getElem?_append_right (by rw [flat2_len]; omega), flat2_len, show pre.length * 2 + 1 - pre.length * 2 = 1 by omega]; rfl
            have fv := HOWN3.frozenAt (pre.length * 2 + 1)
            have ek : (((k + 1 : Nat) : Int)) = (k : Int) + 1 := by omega
            rw [ek] at st
            have HST := Lib.hid st; have HR2 := Lib.hid hr2; have HR1 := Lib.hid hr1
            clear st hr2 hr1 HOWN3 ek
            go_wp2
            go_roundw
            case rel => exact ⟨k + 1, pre.length + 1, c, some ⟨g, 0, none⟩, by omega, by go_num, rfl, by rw [HR2.out]; simp, by rw [HR2.out]; exact HST.out.1, below_grown hB2 HST.out.2 hgb hB2.size⟩
            case measure => simp [intOf]; omega
    · go_wp2
      go_ret
      have e1 : text.take k = text := List.take_of_length_le (by omega)
      rw [e1] at hown hn
      subst hn
      obtain ⟨_, _, hv, hc⟩ := own_form hown
      injection hv with _ _ h
      exact ⟨B, c, rfl, by omega, Sl.of_own hown, hbel⟩

end Go.Proofs.YthagfcdleapooaaDoor
