/- The contract of the reference's Sort: the text in order. -/
import Derived.Test.YthagfcdleapooaaDoorAlive
import Derived.Test.YthagfcdleapooaaDoorCanonB
namespace Go.Proofs.YthagfcdleapooaaDoor
open Go.RowKit

theorem set_two (p q : List Int) (x y : Int) : ((p ++ y :: x :: q).set (p.length + 1) y).set p.length x = p ++ x :: y :: q := by
  rw [List.set_append_right _ _ (by omega), List.set_append_right _ _ (by omega)]
  simp

/-- an owned row of ints: its block, cells and stores -/
theorem own_ints {w : World} {base n c : Nat} {e : TypeId} {A : Option Addr} {d : List Int} (h : w.ownsRow base e 1 (.slice A n c) n (d.map (Value.int .i64))) (hn : 0 < n) :
    ∃ g, A = some ⟨g, 0, none⟩ ∧ base ≤ g ∧ d.length = n ∧ (∀ i x, d[i]? = some x → w.cell? ⟨g, i, none⟩ = some (.int .i64 x)) ∧ (∀ i, w.frozen? ⟨g, i, none⟩ = false) := by
  have hl : d.length = n := by have := h.1; simpa using this
  rcases h.2 with ⟨hv, rfl⟩ | ⟨g, cap, cur, hv, hb, _⟩
  · omega
  · injection hv with hA _ hc
    subst hA; subst hc
    refine ⟨g, rfl, hb, hl, fun i x hx => ?_, fun i => h.frozenAt i⟩
    have hi : i < d.length := (List.getElem?_eq_some_iff.1 hx).1
    rw [h.cellAt i (by omega), List.getElem?_map, hx]
    rfl

theorem below_grown {B : Nat} {a w w' : World} {g : Nat} (h : Below B a w) (hg : w.grownBy w' (some g)) (hb : B ≤ g) (hs : B ≤ w.heap.size) : Below B a w' :=
  h.grown hg hs fun k e => by injection e with e; omega

set_option maxRecDepth 100000 in
set_option maxHeartbeats 4000000 in
theorem refSort_any (A' : Option Addr) (ns ks : Nat) (ss : List Spn) (A : Option Addr) (nt kt : Nat) (text : List Int) (w : World) (hS : Spans w A' ss) (hT : Ints w A text)
    (hnt : text.length = nt) (hns : ss.length = ns) (hb1 : nt ≤ 1048576) (hb2 : ns ≤ 1099511627776) :
    Calls Tryd.prog 28 #[.slice A' ns ks, .slice A nt kt] w (RetInts (Can.srt (clz ss) text) w) := by
  have CC := Lib.hid (fun W hb c => refClass_any A' ns ks ss c W (Spans.below (w := w) (w' := W) hS hb) hns hb2)
  have HCL := Lib.hid (fun x => (clz_range ss x).1)
  have HT := Lib.hid hT
  clear hS hT hns
  subst hnt
  generalize clz ss = cl at *
  go_enter Tryd.func28, Tryd.ntmps28
  go_wp2
  go_loopw [5, 6] (fun v u wr => ∃ (k c : Nat) (B : Option Addr), k ≤ text.length ∧ u = .int .i64 k ∧ v = .slice B k c ∧ wr.ownsRow w.heap.size 3 1 (.slice B k c) k ((Can.srt cl (text.take k)).map (Value.int .i64)) ∧ Below w.heap.size w wr)
    (fun _ u _ => text.length - (intOf u).toNat)
  case atStart => exact ⟨0, 0, none, Nat.zero_le _, rfl, rfl, World.ownsRow_nil _ _ _ _, Below.refl _ _⟩
  case round =>
    obtain ⟨k, c, B, hk, rfl, rfl, hown, hbel⟩ := hrel
    by_cases hlt : k < text.length
    · obtain ⟨b, o, rfl, hcell⟩ := HT.out.at hlt
      have c0 := hcell k hlt
      have hbw : b < w.heap.size := World.block_lt_of_cell? w _ c0
      have c1 : wr.cell? ⟨b, o + k, none⟩ = some (.int .i64 text[k]) := (hbel.cell (p := ⟨b, o + k, none⟩) hbw).trans c0
      clear hcell
      have HX := Lib.hid (List.take_succ_eq_append_getElem hlt)
      have hlen : (Can.srt cl (text.take k)).length = k := by rw [Can.srt_len, List.length_take]; omega
      generalize text[k] = x at *
      have HC0 := Lib.hid c0; have HLEN := Lib.hid hlen; clear c0 hlen
      go_wp2_with (at_builtin; refine wpList_app _ _ 27 3 (.int .i64 0) 1 8 rfl rfl Tryd.underlying27 info_int rfl (by decide) (by decide) rfl (hown.alloc _) rfl (Sl_new wr [.int .i64 x] 3 rfl) (by simp) (oneCell_ints [x]) (by omega) (by have := hbel.size; simp; omega) ?_; intro B1 c1' w1 hown1 hc1 hb1 _ _; have c2 : w1.cell? ⟨b, o + k, none⟩ = some (.int .i64 x) := (((hbel.alloc hbel.size _).trans hb1).cell (p := ⟨b, o + k, none⟩) hbw).trans HC0.out)
      have hB1 : Below w.heap.size w w1 := (hbel.alloc hbel.size _).trans hb1
      have hown2 : w1.ownsRow w.heap.size 3 1 (.slice B1 (k + 1) c1') (k + 1) ((Can.srt cl (text.take k) ++ x :: []).map (Value.int .i64)) := by
        rw [List.map_append]; exact hown1
      obtain ⟨g, rfl, hg, _, _, _⟩ := own_ints hown2 (by omega)
      have HOWN := Lib.hid hown2
      have hbg : ¬ b = g := by omega
      clear hown hown1 hown2 hb1 c1 hbel c2
      refine (CC.out _ hB1 x).mono ?_
      rintro e w2 ⟨rfl, hb2'⟩
      have hB2 := hB1.trans (hb2'.mono hB1.size)
      have HOWN2 := Lib.hid (own_keep HOWN.out hb2')
      clear HOWN hb2' hB1
      have HZ := Lib.hid (rfl : cl x = cl x)
      have hz0 := HCL.out x
      generalize hzz : cl x = z at *
      have HZZ := Lib.hid hzz; clear hzz HZ
      go_wp2_with fail
      obtain ⟨wo, rfl⟩ : ∃ wo : World, wo = w2 := ⟨_, rfl⟩
      go_loopw [8] (fun u wr => ∃ (p q : List Int), u = .int .i64 (p.length : Int) ∧ Can.srt cl (text.take k) = p ++ q ∧ (q = [] ∨ 0 < z) ∧ (∀ y ∈ q, z < cl y) ∧ wr.ownsRow w.heap.size 3 1 (.slice (some ⟨g, 0, none⟩) (k + 1) c1') (k + 1) ((p ++ x :: q).map (Value.int .i64)) ∧ Below w.heap.size w wr) (fun u _ => (intOf u).toNat)
      case atStart => exact ⟨Can.srt cl (text.take k), [], by rw [HLEN.out], by simp, .inl rfl, (fun y hy => by cases hy), HOWN2.out, hB2⟩
      case round =>
        obtain ⟨p, q, rfl, hpq, hq, hq2, hown3, hB3⟩ := hrel
        have HPQ := Lib.hid hpq; have HQ := Lib.hid hq; have HQ2 := Lib.hid hq2; have HOWN3 := Lib.hid hown3
        clear hpq hq hq2 hown3 HOWN2 hB2
        have FIN := Lib.hid (fun (hp : z = 0 ∨ ∀ u, p.getLast? = some u → cl u ≤ z) (W : World) (hW : W.ownsRow w.heap.size 3 1 (.slice (some ⟨g, 0, none⟩) (k + 1) c1') (k + 1) ((p ++ x :: q).map (Value.int .i64))) =>
          show W.ownsRow w.heap.size 3 1 (.slice (some ⟨g, 0, none⟩) (k + 1) c1') (k + 1) ((Can.srt cl (text.take (k + 1))).map (Value.int .i64)) by
            rw [HX.out, ← Can.srt_snoc HCL.out HPQ.out (by rw [HZZ.out]; exact HQ.out) (by rw [HZZ.out]; exact HQ2.out) (by rw [HZZ.out]; exact hp)]; exact hW)
        rcases List.eq_nil_or_concat p with hp | ⟨p', y, hp⟩
        · subst hp
          have h0 : decide ((0 : Int) < ((([] : List Int).length : Nat) : Int)) = false := by simp
          go_wp2
          go_roundw
          case rel => exact ⟨k + 1, c1', some ⟨g, 0, none⟩, by omega, by go_num, rfl, FIN.out (.inr (fun u hu => by cases hu)) _ HOWN3.out, hB3⟩
          case measure => simp [intOf]; omega
        · subst hp
          have hpl : ((p'.concat y).length : Int) = (p'.length : Int) + 1 := by simp
          rw [hpl]
          clear hpl
          obtain ⟨_, hA9, _, hdl, hcells, hfr⟩ := own_ints HOWN3.out (by omega)
          injection hA9 with hA9; injection hA9 with hA9; subst hA9
          have hml : p'.length + 1 < k + 1 := by rw [← hdl]; simp
          have cy := hcells p'.length y (by simp)
          have cx := hcells (p'.length + 1) x (by simp)
          have fy := hfr p'.length
          have fx := hfr (p'.length + 1)
          have HSET := Lib.hid (set_two p' q x y)
          have HGL := Lib.hid (show (p'.concat y).getLast? = some y by simp)
          generalize hm : p'.length = m at *
          have HM := Lib.hid hm
          clear hcells hfr hdl hm
          by_cases hz : 0 < z
          · go_wp2_with fail
            refine (CC.out _ hB3 y).mono ?_
            rintro e w3 ⟨rfl, hb3⟩
            have hB4 := hB3.trans (hb3.mono hB3.size)
            have HOWN4 := Lib.hid (own_keep HOWN3.out hb3)
            obtain ⟨_, hA9, _, hdl, hcells, hfr⟩ := own_ints HOWN4.out (by omega)
            injection hA9 with hA9; injection hA9 with hA9; subst hA9
            have cy' := hcells m y (by simp [← HM.out])
            have cx' := hcells (m + 1) x (by simp [← HM.out])
            have fy' := hfr m
            have fx' := hfr (m + 1)
            have ct : w3.cell? ⟨b, o + k, none⟩ = some (.int .i64 x) := (hB4.cell (p := ⟨b, o + k, none⟩) hbw).trans HC0.out
            clear hcells hfr hdl cy cx fy fx hb3 hB3 HOWN3
            by_cases hc : z < cl y
            · have HC := Lib.hid hc
              have hd : decide (z < cl y) = true := by simpa using hc
              clear hc
              have HYZ := Lib.hid (rfl : cl y = cl y)
              generalize hcy : cl y = zy at *
              have HCY := Lib.hid hcy
              clear hcy HYZ
              have st1 := HOWN4.out.stored (m + 1) (.int .i64 y)
              have st2 := st1.1.stored m (.int .i64 x)
              have HST := Lib.hid (And.intro st1 st2)
              clear st1 st2
              have hne : ¬ m = m + 1 := by omega
              go_wp2
              go_roundw
              case rel =>
                refine ⟨p', y :: q, by rw [HM.out], by rw [HPQ.out]; simp, .inr hz, fun u hu => ?_, ?_, ?_⟩
                · rcases List.mem_cons.1 hu with rfl | hu
                  · rw [HCY.out]; exact HC.out
                  · exact HQ2.out u hu
                · have h := HST.out.2.1
                  have e1 : (((p'.concat y ++ x :: q).map (Value.int .i64)).set (m + 1) (.int .i64 y)).set m (.int .i64 x) = (p' ++ x :: y :: q).map (Value.int .i64) := by
                    rw [← List.map_set, ← List.map_set, ← HSET.out]; simp
                  rw [e1] at h
                  exact h
                · exact below_grown (below_grown hB4 HST.out.1.2 hg hB4.size) HST.out.2.2 hg (by have := hB4.size; simpa using this)
              case measure => simp [intOf]
            · have HC := Lib.hid hc
              have hd : decide (z < cl y) = false := by simpa using hc
              clear hc
              have HYZ := Lib.hid (rfl : cl y = cl y)
              generalize hcy : cl y = zy at *
              have HCY := Lib.hid hcy
              clear hcy HYZ
              go_wp2
              go_roundw
              case rel => exact ⟨k + 1, c1', some ⟨g, 0, none⟩, by omega, by go_num, rfl, FIN.out (.inr (fun u hu => by rw [HGL.out] at hu; injection hu with hu; subst hu; rw [HCY.out]; have := HC.out; omega)) _ HOWN4.out, hB4⟩
              case measure => simp [intOf]; omega
          · go_wp2
            go_roundw
            case rel => exact ⟨k + 1, c1', some ⟨g, 0, none⟩, by omega, by go_num, rfl, FIN.out (.inl (by omega)) _ HOWN3.out, hB3⟩
            case measure => simp [intOf]; omega
    · go_wp2
      go_ret
      have e1 : text.take k = text := List.take_of_length_le (by omega)
      have e2 : k = text.length := by omega
      rw [e1] at hown
      subst e2
      refine ⟨B, c, congrArg (fun n => Ending.returned (.slice B n c)) (Can.srt_len text).symm, ?_, Sl.of_own hown, hbel⟩
      obtain ⟨_, _, hv, hc⟩ := own_form hown
      injection hv with _ _ h
      rw [Can.srt_len]; omega

end Go.Proofs.YthagfcdleapooaaDoor
