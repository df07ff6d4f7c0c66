/- The walk of OrderingExchanges. -/
import Derived.Test.YthagfcdleapooaaDoorLawsC
import Derived.Deep.RegionHeld3
import Derived.WalkSpells
import Derived.IntWalk
namespace Go.Proofs.YthagfcdleapooaaDoor
open Go.RowKit

/-- a text parted at two neighbours -/
theorem part_two (l : List Int) (k : Nat) (h : k + 1 < l.length) : ∃ p q, l = p ++ l[k] :: l[k + 1] :: q ∧ (l.set k l[k + 1]).set (k + 1) l[k] = p ++ l[k + 1] :: l[k] :: q := by
  refine ⟨l.take k, l.drop (k + 2), ?_, ?_⟩
  · have h1 := (List.take_append_drop k l).symm
    rw [List.drop_eq_getElem_cons (show k < l.length by omega), List.drop_eq_getElem_cons h] at h1
    exact h1
  · apply List.ext_getElem?
    intro t
    rw [List.getElem?_set, List.getElem?_set, List.getElem?_append]
    simp only [List.length_set, List.length_take, Nat.min_eq_left (show k ≤ l.length by omega)]
    by_cases c1 : t < k
    · rw [if_neg (by omega), if_neg (by omega), if_pos c1, List.getElem?_take, if_pos c1]
    · rw [if_neg c1]
      by_cases c2 : k + 1 = t
      · subst c2; rw [if_pos rfl, if_pos (by omega), show k + 1 - k = 1 by omega]; rfl
      · rw [if_neg c2]
        by_cases c3 : k = t
        · subst c3; rw [if_pos rfl, if_pos (by omega), Nat.sub_self]; rfl
        · rw [if_neg c3, show t - k = (t - k - 2) + 1 + 1 by omega, List.getElem?_cons_succ, List.getElem?_cons_succ, List.getElem?_drop]
          congr 1; omega

/-- two texts' cells and the world's past -/
def RetKeep (v : Value) (S : World → Prop) (e : Ending) (w' : World) : Prop := e = .returned v ∧ S w'

/-- the ways through the test, each with what the two sorts' comparison gives -/
theorem free_cases {cl : Int → Int} {p q text : List Int} {x y : Int} (zx zy : Int) (D : Bool) (ht : text = p ++ x :: y :: q)
    (h : Can.srt cl (p ++ x :: y :: q) = Can.srt cl (p ++ y :: x :: q) ↔ (zx ≠ 0 ∧ zy ≠ 0 ∧ zx ≠ zy) ∨ x = y) (hD : D = decide (Can.srt cl text = Can.srt cl (p ++ y :: x :: q))) :
    ((zx != 0) = true ∧ (zy != 0) = true ∧ (zx != zy) = true ∧ Hid (D = true)) ∨
    ((zx != 0) = false ∧ (x == y) = true ∧ Hid (D = true)) ∨ ((zx != 0) = false ∧ (x == y) = false ∧ Hid (D = false)) ∨
    ((zx != 0) = true ∧ (zy != 0) = false ∧ (x == y) = true ∧ Hid (D = true)) ∨ ((zx != 0) = true ∧ (zy != 0) = false ∧ (x == y) = false ∧ Hid (D = false)) ∨
    ((zx != 0) = true ∧ (zy != 0) = true ∧ (zx != zy) = false ∧ (x == y) = true ∧ Hid (D = true)) ∨ ((zx != 0) = true ∧ (zy != 0) = true ∧ (zx != zy) = false ∧ (x == y) = false ∧ Hid (D = false)) := by
  have e : D = decide ((zx ≠ 0 ∧ zy ≠ 0 ∧ zx ≠ zy) ∨ x = y) := by rw [hD, ht]; simp only [h]
  unfold Hid
  by_cases h1 : zx = 0 <;> by_cases h2 : zy = 0 <;> by_cases h3 : zx = zy <;> by_cases h4 : x = y <;> simp_all

set_option maxRecDepth 100000 in
set_option maxHeartbeats 3200000 in
theorem OrderingExchanges_any (A' : Option Addr) (ns ks : Nat) (ss : List Spn) (A : Option Addr) (nt kt : Nat) (text : List Int) (at' : Int) (w : World) (hS : Spans w A' ss) (hT : Ints w A text)
    (hns : ss.length = ns) (hnt : text.length = nt) (hL : Laid w) :
    Calls Tryd.prog 5 #[.slice A' ns ks, .slice A nt kt, .int .i64 at'] w (RetTrue w) := by
  have CA := Lib.hid (fun W hb => alive_any W (hL.below hb))
  have F := Lib.hid (few_any A' A ns ks nt kt w)
  by_cases h : ns ≤ 16 ∧ nt ≤ 40
  · have hd : decide (ns ≤ 16 ∧ nt ≤ 40) = true := by simpa using h
    rw [hd] at F
    obtain ⟨h1, h2⟩ := h
    by_cases ha : at' < 0
    · have hab : decide (at' < 0) = true := by simpa using ha
      clear hS hT hL hd hns hnt
      go_enter Tryd.func5, Tryd.ntmps5
      go_wp2_with fail
      refine F.out.mono ?_
      rintro e w' ⟨rfl, rfl⟩
      go_wp2_with fail
      refine (CA.out _ (Below.refl _ _)).mono ?_
      rintro e w3 ⟨rfl, hb3⟩
      go_wp2_with fail
      go_ret
      exact ⟨rfl, hb3⟩
    · have hab : decide (at' < 0) = false := by simpa using ha
      obtain ⟨k, rfl⟩ := Int.eq_ofNat_of_zero_le (show 0 ≤ at' by omega)
      by_cases hk : k + 2 ≤ nt
      · subst hnt
        have hk1 : k + 1 < text.length := by omega
        obtain ⟨b, o, rfl, hcell⟩ := hT.at hk1
        have c0 := hcell k (by omega)
        have c1 := hcell (k + 1) hk1
        have hbw : b < w.heap.size := World.block_lt_of_cell? w _ c0
        have hk0 : k < text.length := by omega
        obtain ⟨p, q, hpt, hps⟩ := part_two text k hk1
        have CC := Lib.hid (fun W5 W x (h5 : Below w.heap.size w W5) (hb : Below W5.heap.size W5 W) => (Class_any A' ns ks ss x W (Spans.below (w := w) (w' := W) hS (h5.trans (hb.mono h5.size))) hns (by omega) (hL.below (h5.trans (hb.mono h5.size)))).mono (R' := RetKeep (.int .i64 (clz ss x)) (fun W' => W'.cell? ⟨b, o + k, none⟩ = some (.int .i64 text[k]) ∧ W'.cell? ⟨b, o + (k + 1), none⟩ = some (.int .i64 text[k + 1]) ∧ Below W5.heap.size W5 W'))
          (fun e W' ⟨he, hb'⟩ => have hB : Below W5.heap.size W5 W' := hb.trans (hb'.mono hb.size)
            have hB' : Below w.heap.size w W' := h5.trans (hB.mono h5.size)
            ⟨he, (hB'.cell (p := ⟨b, o + k, none⟩) hbw).trans c0, (hB'.cell (p := ⟨b, o + (k + 1), none⟩) hbw).trans c1, hB⟩))
        have CS := Lib.hid (fun W T n k (zs : List Int) hb (hT : Ints W T zs) (hn : zs.length = n) (hle : n ≤ 40) => Sort_any A' ns ks ss T n k zs W (Spans.below (w := w) (w' := W) hS hb) hT hn hns (by omega) (by omega) (hL.below hb))
        have HT := Lib.hid hT
        have HEX := Lib.hid (Can.exchange (fun x => (clz_range ss x).1) p q text[k] text[k + 1])
        have HPT := Lib.hid hpt; have HPS := Lib.hid hps; have HL1 := Lib.hid (Can.srt_len (cl := clz ss))
        have HC := Lib.hid (And.intro c0 c1)
        clear hcell hpt hps hS hL hns hT hd
        generalize text[k] = x at *
        generalize text[k + 1] = y at *
        go_enter Tryd.func5, Tryd.ntmps5
        go_wp2_with fail
        refine F.out.mono ?_
        rintro e w' ⟨rfl, rfl⟩
        go_wp2_with (at_builtin; go_must (refine wpList_app (.tmp 27) (.tmp 28) 27 3 (.int .i64 0) 1 8 rfl rfl Tryd.underlying27 info_int rfl (by decide) (by decide) rfl (own_new (w := w) [] 3 1 0 w.heap.size rfl rfl (Nat.le_refl _) (by omega)) rfl (Sl.alloc HT.out _) (by simp) (oneCell_ints _) (by omega) (by simp) ?_; intro A2 c2 w2 hown2 hc2 hb2 _ _; simp only [Nat.zero_add, List.nil_append] at hown2 hc2; obtain ⟨g, rfl, hg, _, hcs, hfr⟩ := own_ints hown2 (by omega); have B2 : Below w.heap.size w w2 := ((Below.refl _ w).alloc (Nat.le_refl _) (.cells #[] 3)).trans hb2; have d0 := (B2.cell (p := ⟨b, o + k, none⟩) hbw).trans HC.out.1; have d1 := (B2.cell (p := ⟨b, o + (k + 1), none⟩) hbw).trans HC.out.2; have f0 := hfr k; have f1 := hfr (k + 1); have g0 := hcs k _ (List.getElem?_eq_getElem hk0); have g1 := hcs (k + 1) _ (List.getElem?_eq_getElem hk1); have hbg : ¬ b = g := (by omega); have hkk : ¬ k = k + 1 := (by omega); have hkk' : ¬ k + 1 = k := (by omega); have HOWN := Lib.hid hown2; clear hown2 hcs hfr hb2 c0 c1))
        have st1 := HOWN.out.stored k (.int .i64 y)
        have st2 := st1.1.stored (k + 1) (.int .i64 x)
        have B5 := below_grown (below_grown B2 st1.2 hg B2.size) st2.2 hg (by have := B2.size; simpa using this)
        have hI5 : Ints ((w2.setCell ⟨g, k, none⟩ (.int .i64 y)).setCell ⟨g, k + 1, none⟩ (.int .i64 x)) (some ⟨g, 0, none⟩) (p ++ y :: x :: q) := by
          have h := Sl.of_own st2.1
          rw [← List.map_set, ← List.map_set, HPS.out] at h
          exact h
        obtain ⟨W5, hW5⟩ : ∃ W5, (w2.setCell ⟨g, k, none⟩ (.int .i64 y)).setCell ⟨g, k + 1, none⟩ (.int .i64 x) = W5 := ⟨_, rfl⟩
        rw [hW5] at B5 hI5 ⊢
        have HI5 := Lib.hid hI5
        clear hW5 st1 st2 HOWN hI5 d0 d1 g0 g1 f0 f1 hkk hkk' hbg B2
        have e0 := (B5.cell (p := ⟨b, o + k, none⟩) hbw).trans HC.out.1
        have e1 := (B5.cell (p := ⟨b, o + (k + 1), none⟩) hbw).trans HC.out.2
        have R5 : Below W5.heap.size W5 W5 := Below.refl _ _
        have hk0i : (k : Int) < (text.length : Int) := by omega
        have hk1i : (k : Int) + 1 < (text.length : Int) := by omega
        have hk2i : (0 : Int) ≤ (k : Int) := by omega
        have hk3i : (0 : Int) ≤ (k : Int) + 1 := by omega
        have hwr : IntKind.i64.wrap ((k : Int) + 1) = (k : Int) + 1 := IntWalk.i64_in _ (by omega)
        have htn : ((k : Int) + 1).toNat = k + 1 := by omega
        go_region_held3 (fun W' => W'.cell? ⟨b, o + k, none⟩ = some (.int .i64 x) ∧ W'.cell? ⟨b, o + (k + 1), none⟩ = some (.int .i64 y) ∧ Below W5.heap.size W5 W')
          (first | (go_split_ands; refine ⟨?_, ?_, ?_⟩ <;> first | assumption | exact Below.drew (by assumption) | go_keep))
          (first | (go_at_call 20; go_split_ands; refine (CC.out W5 _ _ B5 (by assumption)).mono ?_; rintro e w6 ⟨rfl, hS6⟩))
        clear hwr htn hk0i hk1i hk2i hk3i e0 e1 R5
        have HFREE := Lib.hid (free_cases _ _ _ HPT.out HEX.out rfl)
        have HLN := Lib.hid (show (p ++ y :: x :: q).length = text.length by rw [← HPS.out]; simp)
        clear HEX HPT HPS
        generalize clz ss x = zx at *
        generalize clz ss y = zy at *
        obtain ⟨e0, e1, B6⟩ := hS6
        have hk0i : (k : Int) < (text.length : Int) := by omega
        have hk1i : (k : Int) + 1 < (text.length : Int) := by omega
        have hk2i : (0 : Int) ≤ (k : Int) := by omega
        have hk3i : (0 : Int) ≤ (k : Int) + 1 := by omega
        have hwr : IntKind.i64.wrap ((k : Int) + 1) = (k : Int) + 1 := IntWalk.i64_in _ (by omega)
        have htn : ((k : Int) + 1).toNat = k + 1 := by omega
        rcases HFREE.out with ⟨t1, t2, t3, HD⟩ | ⟨t1, t4, HD⟩ | ⟨t1, t4, HD⟩ | ⟨t1, t2, t4, HD⟩ | ⟨t1, t2, t4, HD⟩ | ⟨t1, t2, t3, t4, HD⟩ | ⟨t1, t2, t3, t4, HD⟩
        all_goals
          go_wp2_with fail
          go_quiet (fail)
          clear hwr htn hk0i hk1i hk2i hk3i e0 e1
          have B7 := B5.trans (B6.mono B5.size)
          go_wp2_with fail
          refine (CS.out _ (some ⟨b, o, none⟩) _ kt text (B7.trans ((below_of_drewN _ _).mono B7.size)) (HT.out.below (B7.trans ((below_of_drewN _ _).mono B7.size))) rfl h2).mono ?_
          rintro e w8 ⟨A8, c8, rfl, hc8, hA8, hb8⟩
          have B8 := (B7.trans ((below_of_drewN _ _).mono B7.size)).trans (hb8.mono (by have := B7.size; exact this))
          have D8 := (B6.trans ((below_of_drewN _ _).mono B6.size)).trans (hb8.mono (by have := B6.size; exact this))
          clear hb8 B7 B6
          go_wp2_with fail
          refine (CS.out _ (some ⟨g, 0, none⟩) _ c2 (p ++ y :: x :: q) B8 (HI5.out.below D8) HLN.out h2).mono ?_
          rintro e w9 ⟨A9, c9, rfl, hc9, hA9, hb9⟩
          have B9 := B8.trans (hb9.mono B8.size)
          have hA8' := hA8.below hb9
          clear hb9 B8 D8 hA8
          have hl8 : (Can.srt (clz ss) text).length ≤ 40 := by rw [HL1.out]; omega
          have hl9 : (Can.srt (clz ss) (p ++ y :: x :: q)).length ≤ 40 := by rw [HL1.out, HLN.out]; omega
          go_wp2_with fail
          have CE := Equal_any A8 A9 _ _ c8 c9 (Can.srt (clz ss) text) (Can.srt (clz ss) (p ++ y :: x :: q)) w9 hA8' hA9 rfl rfl (by omega) (by omega)
          rw [HD.out] at CE
          refine CE.mono ?_
          rintro e w10 ⟨rfl, hq⟩
          have B10 := B9.trans (hq.below.mono B9.size)
          clear hq CE B9 hA8' hA9 hl8 hl9 hc8 hc9
          go_wp2_with fail
          refine (CA.out _ B10).mono ?_
          rintro e w11 ⟨rfl, hb11⟩
          go_wp2_with fail
          go_ret
          exact ⟨rfl, B10.trans (hb11.mono B10.size)⟩
      · have hk' : decide ((nt : Int) - 2 < (k : Int)) = true := by simp; omega
        clear hS hT hL hd hns hnt
        go_enter Tryd.func5, Tryd.ntmps5
        go_wp2_with fail
        refine F.out.mono ?_
        rintro e w' ⟨rfl, rfl⟩
        go_wp2_with fail
        refine (CA.out _ (Below.refl _ _)).mono ?_
        rintro e w3 ⟨rfl, hb3⟩
        go_wp2_with fail
        go_ret
        exact ⟨rfl, hb3⟩
  · have hd : decide (ns ≤ 16 ∧ nt ≤ 40) = false := by simpa using h
    rw [hd] at F
    clear hS hT hL hd hns hnt h
    go_enter Tryd.func5, Tryd.ntmps5
    go_wp2_with fail
    refine F.out.mono ?_
    rintro e w' ⟨rfl, rfl⟩
    go_wp2_with fail
    refine (CA.out _ (Below.refl _ _)).mono ?_
    rintro e w3 ⟨rfl, hb3⟩
    go_wp2_with fail
    go_ret
    exact ⟨rfl, hb3⟩

end Go.Proofs.YthagfcdleapooaaDoor
