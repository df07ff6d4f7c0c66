/- Texts that are merged into one file: CpText, Compare, Awake. -/
import Derived.Test.YtjglanjfgbipmaaDoorG01
import Derived.Test.YtjglanjfgbipmaaDoorG12
import Derived.Test.YtjglanjfgbipmaaDoorG18
import Derived.WalkMore
import Derived.Test.YtjglanjfgbipmaaDoorProg
import Derived.Deep.QuietTactic
import Derived.BigQuiet
import Derived.Outline
/- The contract of compose.Text. -/
namespace Go.Proofs.YtjglanjfgbipmaaDoor
open Go.RowKit Go.Maps Go.WideMaps

/-- the index of the last starter, or -1 -/
def lastV (s : Cps.CSt) : Int := match s.st with | some _ => s.pre.length | none => -1
theorem prN_iok {x : Nrm} (h : NOk x) {a b p : Int} (hp : prN x a b = some p) : 0 ≤ p ∧ p ≤ 1114111 := by
  unfold prN at hp
  split at hp
  · next hc =>
    injection hp with hp
    have h4 := (comp_decomp hc).2.2.2
    rw [hp] at h4
    rcases Hg.cases6 p with g | g | g | g | g | g <;> omega
  · obtain ⟨t, ht, h1, _⟩ := prM_facts hp
    have := (h.co t ht).1
    omega
theorem run_iok {x : Nrm} (h : NOk x) {cl : Int → Int} {t : List Int} (ht : ∀ c ∈ t, iok c) : ∀ c ∈ (Cps.run cl (prN x) Cps.s0 t).out, iok c := by
  intro c hc
  rcases Cps.run_mem t Cps.s0 c hc with g | g | ⟨a, b, g⟩
  · simp [Cps.s0, Cps.CSt.out] at g
  · exact ht c g
  · exact iok_code (prN_iok h g)
theorem run_take {cl : Int → Int} {pr : Int → Int → Option Int} {t : List Int} {i : Nat} (hi : i < t.length) : Cps.run cl pr Cps.s0 (t.take (i + 1)) = Cps.step cl pr (Cps.run cl pr Cps.s0 (t.take i)) t[i] := by
  rw [List.take_succ_eq_append_getElem hi, Cps.run_append]
  rfl
theorem take_run_len {cl : Int → Int} {pr : Int → Int → Option Int} (t : List Int) (i : Nat) : (Cps.run cl pr Cps.s0 (t.take i)).out.length ≤ i := by
  have := Cps.run_len (cl := cl) (pr := pr) (t.take i) Cps.s0
  simp [Cps.s0, Cps.CSt.out] at this ⊢
  omega

set_option maxRecDepth 100000 in
set_option maxHeartbeats 6400000 in
theorem cpText_any (A0 : Option Addr) (n0 k0 : Nat) (A1 : Option Addr) (n1 k1 : Nat) (A2 : Option Addr) (n2 k2 : Nat) (x : Nrm) (A : Option Addr) (n k : Nat) (t : List Int) (w : World) (hN : NrmAt w A0 n0 A1 n1 A2 n2 x) (hz : NrmSz x) (hL : Laid w)
    (hA : Ints w A t) (hn : t.length = n) (hbig : n ≤ 1048576) (hok : ∀ c ∈ t, iok c) :
    Calls Tryd.prog 7 #[.agg #[.slice A0 n0 k0, .slice A1 n1 k1, .slice A2 n2 k2], .slice A n k] w (RetHg (Cps.text (clz (usN x).cls) (prN (usN x)) t) w) := by
  subst hn
  have hB : Below w.heap.size w (w.alloc (.cells #[.slice A0 n0 k0, .slice A1 n1 k1, .slice A2 n2 k2] 35)) := (Below.refl _ _).alloc (Nat.le_refl _) _
  have hX : Box (w.alloc (.cells #[.slice A0 n0 k0, .slice A1 n1 k1, .slice A2 n2 k2] 35)) w.heap.size 35 [.slice A0 n0 k0, .slice A1 n1 k1, .slice A2 n2 k2] := Box.new w _ [.slice A0 n0 k0, .slice A1 n1 k1, .slice A2 n2 k2] rfl
  have UC := Lib.hid (cpUsable_eq A0 n0 k0 A1 n1 k1 A2 n2 k2 x _ (hN.below hB) hz (hL.below hB))
  obtain ⟨B0, c0, B1, c1, B2, c2, hv, hNW⟩ := usV_at hN k0 k1 k2
  rw [hv] at UC
  have HNW := Lib.hid hNW
  clear hv hNW
  have HB := Lib.hid hB
  have HX := Lib.hid hX
  have HA := Lib.hid hA
  have HL := Lib.hid hL
  have hzu := hz.us
  have hny := usN_ok x
  have HRI := Lib.hid (fun i => run_iok (cl := clz (usN x).cls) hny (t := t.take i) (fun c hc => hok c (List.mem_of_mem_take hc)))
  have HRT := Lib.hid (fun i (hi : i < t.length) => run_take (cl := clz (usN x).cls) (pr := prN (usN x)) hi)
  have HRL := Lib.hid (fun i => take_run_len (cl := clz (usN x).cls) (pr := prN (usN x)) t i)
  have HRE := Lib.hid (show Cps.text (clz (usN x).cls) (prN (usN x)) t = (Cps.run (clz (usN x).cls) (prN (usN x)) Cps.s0 (t.take t.length)).out from by rw [List.take_length]; rfl)
  have CC := Lib.hid (fun B0 c0 B1 c1 B2 c2 W (hN : NrmAt W B0 (usN x).cls.length B1 (usN x).dec.length B2 (usN x).exc.length (usN x)) (hb : Below w.heap.size w W) => composites_any B0 _ c0 B1 _ c1 B2 _ c2 (usN x) W hN hzu hny (hL.below hb))
  have HJ := Lib.hid (prJ_pc (usN x))
  have z0 := hzu.z0
  have HOK := Lib.hid hok
  clear hN hz hL hB hX hA hok hny
  generalize usN x = y at *
  clear hzu
  go_enter Tryd.func7, Tryd.ntmps7
  go_wp2_with fail
  go_step3
  have g0 := HX.out.cell (i := 0) rfl
  have g1 := HX.out.cell (i := 1) rfl
  have g2 := HX.out.cell (i := 2) rfl
  go_wp2_with fail
  with_reducible refine UC.out.mono ?_
  rintro e W1 ⟨rfl, hb1⟩
  have hX1 := HX.out.below hb1 HX.out.lt
  have hb := HB.out.trans (hb1.mono HB.out.size)
  clear g0 g1 g2
  have d0 := hX1.cell (i := 0) rfl
  have d1 := hX1.cell (i := 1) rfl
  have d2 := hX1.cell (i := 2) rfl
  have f0 := hX1.free 0
  have f1 := hX1.free 1
  have f2 := hX1.free 2
  have hX2 := ((hX1.set 0 (.slice B0 y.cls.length c0)).set 1 (.slice B1 y.dec.length c1)).set 2 (.slice B2 y.exc.length c2)
  have hb2 : Below w.heap.size w (((W1.setCell ⟨w.heap.size, 0, none⟩ (.slice B0 y.cls.length c0)).setCell ⟨w.heap.size, 1, none⟩ (.slice B1 y.dec.length c1)).setCell ⟨w.heap.size, 2, none⟩ (.slice B2 y.exc.length c2)) := ((hb.setCell (by simp) _).setCell (by simp) _).setCell (by simp) _
  have W2E : ∃ W2, (((W1.setCell ⟨w.heap.size, 0, none⟩ (.slice B0 y.cls.length c0)).setCell ⟨w.heap.size, 1, none⟩ (.slice B1 y.dec.length c1)).setCell ⟨w.heap.size, 2, none⟩ (.slice B2 y.exc.length c2)) = W2 := ⟨_, rfl⟩
  go_wp2_with fail
  obtain ⟨W2, hW2⟩ := W2E
  rw [hW2] at hX2 hb2 ⊢
  clear hW2 d0 d1 d2 f0 f1 f2 hX1 hb hb1
  have hXl := hX2.lt
  have C2 := Lib.hid (CC.out B0 c0 B1 c1 B2 c2 W2 (HNW.out W2 hb2) hb2)
  with_reducible refine C2.out.mono ?_
  rintro e W3 ⟨bm, rfl, hM, hbm, hb3⟩
  have hb4 := hb2.trans (hb3.mono hb2.size)
  have X3 := Lib.hid (hX2.below hb3 hXl)
  have CLC := Lib.hid (fun c W (hb : Below w.heap.size w W) => Class_any B0 y.cls.length c0 y.cls c W (HNW.out W hb).s0 rfl (by omega) (HL.out.below hb))
  have hbml : w.heap.size < bm := Nat.lt_of_lt_of_le hXl hbm
  have HM3 := Lib.hid hM
  clear CC UC C2 hM hX2 hb2 hb3 HX HB
  generalize hcl : clz y.cls = cl at *
  generalize hpr : prN y = pr at *
  clear hcl hpr
  go_wp2_with fail
  go_step3
  go_wp2_with fail
  go_loopw [6, 7, 8, 21] (fun v6 v7 v8 u wr => ∃ (i : Nat) (s : Cps.CSt) (bf : Int) (B : Option Addr) (c : Nat), i ≤ t.length ∧ u = .int .i64 i ∧ Cps.run cl pr Cps.s0 (t.take i) = s ∧ v6 = .slice B s.out.length c ∧ v7 = .int .i64 (lastV s) ∧ v8 = .int .i64 bf ∧ (∀ b, s.bt.getLast? = some b → bf = cl b) ∧
      wr.ownsRow W3.heap.size 3 1 (.slice B s.out.length c) s.out.length (s.out.map (Value.int .i64)) ∧ Below W3.heap.size W3 wr) (fun _ _ _ u _ => t.length - (intOf u).toNat)
  case atStart => exact ⟨0, Cps.s0, 0, none, 0, Nat.zero_le _, rfl, rfl, rfl, rfl, rfl, fun b hb => (by cases hb), World.ownsRow_nil _ _ _ _, Below.refl _ _⟩
  case round =>
    obtain ⟨i, s, bf, B, c, hi, rfl, hs, rfl, rfl, rfl, hbf, hown, hb⟩ := hrel
    have HS := Lib.hid hs
    have HBF := Lib.hid hbf
    have HOWN := Lib.hid hown
    have hsl := HRL.out i
    rw [hs] at hsl
    have hsl2 := hsl
    have HBF2 := Lib.hid hbf
    clear hs hbf hown
    have hbw := hb4.trans (hb.mono hb4.size)
    have q0 := (X3.out.below hb X3.out.lt).cell (i := 0) rfl
    by_cases hlt : i < t.length
    · obtain ⟨b1, o1, rfl, hcell⟩ := (HA.out.below hbw).at hlt
      have c1' := hcell i hlt
      have HT1 := Lib.hid (HRT.out i hlt)
      have HRI' := Lib.hid (HRI.out i)
      have hxo := HOK.out t[i] (List.getElem_mem hlt)
      clear hcell
      generalize t[i] = z at *
      rw [HS.out] at HT1 HRI'
      have KZ := Lib.hid (CLC.out z wr hbw)
      generalize hcz : cl z = cz at *
      have HCZ := Lib.hid hcz
      clear hcz
      go_wp2_with fail
      with_reducible refine KZ.out.mono ?_
      rintro e W5 ⟨rfl, hb5⟩
      have hb6 := hb.trans (hb5.mono hb.size)
      have hown5 := own_keep HOWN.out hb5
      have HO5 := Lib.hid hown5
      clear hown5 HOWN hbw q0 c1'
      clear hb HS HBF2 hsl2
      cases hst : s.st with
      | none =>
        have hlv : lastV s = -1 := by unfold lastV; rw [hst]
        have HLV := Lib.hid (show Value.int .i64 (-1) = .int .i64 (lastV s) from by rw [hlv])
        have HJN := Lib.hid (show Cps.join cl pr s z = none from by unfold Cps.join; rw [hst])
        rw [hlv]
        clear hlv hst
        by_cases h1 : s.out.length = 0
        · have d1 : decide ((-1 : Int) < (s.out.length : Int) - 1) = false := by simp; omega
          clear h1
          have HSTEP := Lib.hid (show Cps.run cl pr Cps.s0 (t.take (i + 1)) = Cps.put cl s z from by rw [HT1.out]; exact Cps.step_none HJN.out)
          have HPO := Lib.hid (Cps.put_out (cl := cl) s z)
          by_cases hz0 : cz = 0
          · have HPV := Lib.hid (show lastV (Cps.put cl s z) = s.out.length from by unfold Cps.put; rw [if_pos (by rw [HCZ.out]; exact hz0)]; rfl)
            have HPB := Lib.hid (show ∀ b, (Cps.put cl s z).bt.getLast? = some b → (0 : Int) = cl b from by unfold Cps.put; rw [if_pos (by rw [HCZ.out]; exact hz0)]; intro b hb; cases hb)
            subst hz0
            clear HJN
            go_wp2_with (at_builtin; refine wpList_app _ _ 24 3 (.int .i64 0) 1 8 rfl rfl Tryd.underlying24 info_int rfl (by decide) (by decide) rfl (HO5.out.alloc _) rfl (Sl_new W5 [.int .i64 z] 3 rfl) (by simp) (oneCell_ints [z]) (by omega) (by have := hb6.size; simp; omega) ?_; intro B1 c1' w1 hown1 hc1' hb1 hg1 hB1)
            have hbn := hb6.trans (((Below.refl _ _).alloc (Nat.le_refl _) _).mono hb6.size |>.trans hb1)
            go_roundw
            case rel =>
              refine ⟨i + 1, Cps.put cl s z, 0, B1, c1', by omega, by go_num, HSTEP.out, ?_, by rw [HPV.out], rfl, HPB.out, ?_, hbn⟩
              · rw [HPO.out, List.length_append]; rfl
              · rw [HPO.out, List.length_append, List.map_append]; exact hown1
            case measure => simp [intOf]; omega
          · have HPV := Lib.hid (show lastV (Cps.put cl s z) = lastV s from by unfold Cps.put; rw [if_neg (by rw [HCZ.out]; exact hz0)]; rfl)
            have HPB := Lib.hid (show ∀ b, (Cps.put cl s z).bt.getLast? = some b → cz = cl b from by unfold Cps.put; rw [if_neg (by rw [HCZ.out]; exact hz0)]; intro b hb; simp at hb; rw [← hb, HCZ.out])
            have hz1 : (cz == 0) = false := by simpa using hz0
            clear HJN
            go_wp2_with (at_builtin; refine wpList_app _ _ 24 3 (.int .i64 0) 1 8 rfl rfl Tryd.underlying24 info_int rfl (by decide) (by decide) rfl (HO5.out.alloc _) rfl (Sl_new W5 [.int .i64 z] 3 rfl) (by simp) (oneCell_ints [z]) (by omega) (by have := hb6.size; simp; omega) ?_; intro B1 c1' w1 hown1 hc1' hb1 hg1 hB1)
            have hbn := hb6.trans (((Below.refl _ _).alloc (Nat.le_refl _) _).mono hb6.size |>.trans hb1)
            go_roundw
            case rel =>
              refine ⟨i + 1, Cps.put cl s z, cz, B1, c1', by omega, by go_num, HSTEP.out, ?_, by rw [HPV.out]; exact HLV.out, rfl, HPB.out, ?_, hbn⟩
              · rw [HPO.out, List.length_append]; rfl
              · rw [HPO.out, List.length_append, List.map_append]; exact hown1
            case measure => simp [intOf]; omega
        · have d1 : decide ((-1 : Int) < (s.out.length : Int) - 1) = true := by simp; omega
          clear h1
          have HSTEP := Lib.hid (show Cps.run cl pr Cps.s0 (t.take (i + 1)) = Cps.put cl s z from by rw [HT1.out]; exact Cps.step_none HJN.out)
          have HPO := Lib.hid (Cps.put_out (cl := cl) s z)
          by_cases hz0 : cz = 0
          · have HPV := Lib.hid (show lastV (Cps.put cl s z) = s.out.length from by unfold Cps.put; rw [if_pos (by rw [HCZ.out]; exact hz0)]; rfl)
            have HPB := Lib.hid (show ∀ b, (Cps.put cl s z).bt.getLast? = some b → (0 : Int) = cl b from by unfold Cps.put; rw [if_pos (by rw [HCZ.out]; exact hz0)]; intro b hb; cases hb)
            subst hz0
            clear HJN
            go_wp2_with (at_builtin; refine wpList_app _ _ 24 3 (.int .i64 0) 1 8 rfl rfl Tryd.underlying24 info_int rfl (by decide) (by decide) rfl (HO5.out.alloc _) rfl (Sl_new W5 [.int .i64 z] 3 rfl) (by simp) (oneCell_ints [z]) (by omega) (by have := hb6.size; simp; omega) ?_; intro B1 c1' w1 hown1 hc1' hb1 hg1 hB1)
            have hbn := hb6.trans (((Below.refl _ _).alloc (Nat.le_refl _) _).mono hb6.size |>.trans hb1)
            go_roundw
            case rel =>
              refine ⟨i + 1, Cps.put cl s z, 0, B1, c1', by omega, by go_num, HSTEP.out, ?_, by rw [HPV.out], rfl, HPB.out, ?_, hbn⟩
              · rw [HPO.out, List.length_append]; rfl
              · rw [HPO.out, List.length_append, List.map_append]; exact hown1
            case measure => simp [intOf]; omega
          · have HPV := Lib.hid (show lastV (Cps.put cl s z) = lastV s from by unfold Cps.put; rw [if_neg (by rw [HCZ.out]; exact hz0)]; rfl)
            have HPB := Lib.hid (show ∀ b, (Cps.put cl s z).bt.getLast? = some b → cz = cl b from by unfold Cps.put; rw [if_neg (by rw [HCZ.out]; exact hz0)]; intro b hb; simp at hb; rw [← hb, HCZ.out])
            have hz1 : (cz == 0) = false := by simpa using hz0
            clear HJN
            go_wp2_with (at_builtin; refine wpList_app _ _ 24 3 (.int .i64 0) 1 8 rfl rfl Tryd.underlying24 info_int rfl (by decide) (by decide) rfl (HO5.out.alloc _) rfl (Sl_new W5 [.int .i64 z] 3 rfl) (by simp) (oneCell_ints [z]) (by omega) (by have := hb6.size; simp; omega) ?_; intro B1 c1' w1 hown1 hc1' hb1 hg1 hB1)
            have hbn := hb6.trans (((Below.refl _ _).alloc (Nat.le_refl _) _).mono hb6.size |>.trans hb1)
            go_roundw
            case rel =>
              refine ⟨i + 1, Cps.put cl s z, cz, B1, c1', by omega, by go_num, HSTEP.out, ?_, by rw [HPV.out]; exact HLV.out, rfl, HPB.out, ?_, hbn⟩
              · rw [HPO.out, List.length_append]; rfl
              · rw [HPO.out, List.length_append, List.map_append]; exact hown1
            case measure => simp [intOf]; omega
      | some L =>
        have hlv : lastV s = s.pre.length := by unfold lastV; rw [hst]
        have hol : s.out.length = s.pre.length + 1 + s.bt.length := by unfold Cps.CSt.out; rw [hst]; simp; omega
        have HLV := Lib.hid (show Value.int .i64 (s.pre.length : Int) = .int .i64 (lastV s) from by rw [hlv])
        have hgL : s.out[s.pre.length]? = some L := by unfold Cps.CSt.out; rw [hst]; simp
        rw [hlv]
        clear hlv
        obtain ⟨g, hBg, hgb, _, hcells, hfr⟩ := own_ints HO5.out (by omega)
        subst hBg
        have cL := hcells s.pre.length L hgL
        have fL := hfr s.pre.length
        have hLo := HRI'.out L (List.mem_of_getElem? hgL)
        clear hcells hfr
        cases hfree : Cps.free cl s z with
        | false =>
          have HJN := Lib.hid (show Cps.join cl pr s z = none from by unfold Cps.join; rw [hst]; simp [hfree])
          obtain ⟨bl, hbl, hge⟩ : ∃ b, s.bt.getLast? = some b ∧ cz ≤ cl b := by
            unfold Cps.free at hfree
            cases hl : s.bt.getLast? with
            | none => rw [hl] at hfree; cases hfree
            | some b => rw [hl] at hfree; exact ⟨b, rfl, by rw [HCZ.out] at hfree; simpa using hfree⟩
          have hbf' := HBF.out bl hbl
          rw [← hbf'] at hge
          have hne : 0 < s.bt.length := by
            rcases Nat.eq_zero_or_pos s.bt.length with h | h
            · rw [List.eq_nil_of_length_eq_zero h] at hbl; cases hbl
            · exact h
          have d1 : decide ((s.pre.length : Int) < (s.out.length : Int) - 1) = true := by simp; omega
          clear hst hfree hbl hbf' hgL hol hne
          have HSTEP := Lib.hid (show Cps.run cl pr Cps.s0 (t.take (i + 1)) = Cps.put cl s z from by rw [HT1.out]; exact Cps.step_none HJN.out)
          have HPO := Lib.hid (Cps.put_out (cl := cl) s z)
          by_cases hz0 : cz = 0
          · have HPV := Lib.hid (show lastV (Cps.put cl s z) = s.out.length from by unfold Cps.put; rw [if_pos (by rw [HCZ.out]; exact hz0)]; rfl)
            have HPB := Lib.hid (show ∀ b, (Cps.put cl s z).bt.getLast? = some b → (0 : Int) = cl b from by unfold Cps.put; rw [if_pos (by rw [HCZ.out]; exact hz0)]; intro b hb; cases hb)
            subst hz0
            clear HJN
            go_wp2_with (at_builtin; refine wpList_app _ _ 24 3 (.int .i64 0) 1 8 rfl rfl Tryd.underlying24 info_int rfl (by decide) (by decide) rfl (HO5.out.alloc _) rfl (Sl_new W5 [.int .i64 z] 3 rfl) (by simp) (oneCell_ints [z]) (by omega) (by have := hb6.size; simp; omega) ?_; intro B1 c1' w1 hown1 hc1' hb1 hg1 hB1)
            have hbn := hb6.trans (((Below.refl _ _).alloc (Nat.le_refl _) _).mono hb6.size |>.trans hb1)
            go_roundw
            case rel =>
              refine ⟨i + 1, Cps.put cl s z, 0, B1, c1', by omega, by go_num, HSTEP.out, ?_, by rw [HPV.out], rfl, HPB.out, ?_, hbn⟩
              · rw [HPO.out, List.length_append]; rfl
              · rw [HPO.out, List.length_append, List.map_append]; exact hown1
            case measure => simp [intOf]; omega
          · have HPV := Lib.hid (show lastV (Cps.put cl s z) = lastV s from by unfold Cps.put; rw [if_neg (by rw [HCZ.out]; exact hz0)]; rfl)
            have HPB := Lib.hid (show ∀ b, (Cps.put cl s z).bt.getLast? = some b → cz = cl b from by unfold Cps.put; rw [if_neg (by rw [HCZ.out]; exact hz0)]; intro b hb; simp at hb; rw [← hb, HCZ.out])
            have hz1 : (cz == 0) = false := by simpa using hz0
            clear HJN
            go_wp2_with (at_builtin; refine wpList_app _ _ 24 3 (.int .i64 0) 1 8 rfl rfl Tryd.underlying24 info_int rfl (by decide) (by decide) rfl (HO5.out.alloc _) rfl (Sl_new W5 [.int .i64 z] 3 rfl) (by simp) (oneCell_ints [z]) (by omega) (by have := hb6.size; simp; omega) ?_; intro B1 c1' w1 hown1 hc1' hb1 hg1 hB1)
            have hbn := hb6.trans (((Below.refl _ _).alloc (Nat.le_refl _) _).mono hb6.size |>.trans hb1)
            go_roundw
            case rel =>
              refine ⟨i + 1, Cps.put cl s z, cz, B1, c1', by omega, by go_num, HSTEP.out, ?_, by rw [HPV.out]; exact HLV.out, rfl, HPB.out, ?_, hbn⟩
              · rw [HPO.out, List.length_append]; rfl
              · rw [HPO.out, List.length_append, List.map_append]; exact hown1
            case measure => simp [intOf]; omega
        | true =>
          have hbl : s.bt = [] ∨ (0 < s.bt.length ∧ bf < cz) := by
            unfold Cps.free at hfree
            cases hl : s.bt.getLast? with
            | none => left; exact List.getLast?_eq_none_iff.1 hl
            | some b =>
              right
              rw [hl] at hfree
              refine ⟨?_, ?_⟩
              · rcases Nat.eq_zero_or_pos s.bt.length with h | h
                · rw [List.eq_nil_of_length_eq_zero h] at hl; cases hl
                · exact h
              · rw [HBF.out b hl, ← HCZ.out]; simpa using hfree
          have JC := Lib.hid (join_any bm y.dec.length (pcN y) L z W5 (HM3.out.below hb6) ⟨hLo, hxo⟩)
          rw [HJ.out] at JC
          have HPR := Lib.hid (show Cps.join cl pr s z = pr L z from by unfold Cps.join; rw [hst]; simp [hfree])
          have hst' := Lib.hid hst
          have HGL := Lib.hid hgL
          have HLT2 := Lib.hid (show s.pre.length < s.out.length from by omega)
          have HLT3 := Lib.hid (show 0 < s.out.length from by omega)
          clear hst hfree hgL
          rcases hbl with hbe | ⟨hbe, hbe2⟩
          · have d1 : decide ((s.pre.length : Int) < (s.out.length : Int) - 1) = false := by rw [hbe] at hol; simp at hol ⊢; omega
            clear hol hbe
            have hlt2 : s.pre.length < s.out.length := HLT2.out
            go_wp2_with fail
            with_reducible refine JC.out.mono ?_
            rintro e W6 ⟨rfl, hb7⟩
            have hb8 := hb6.trans (hb7.mono hb6.size)
            have HO6 := Lib.hid (own_keep HO5.out hb7)
            obtain ⟨_, hA9, _, hdl, hcells, hfr⟩ := own_ints HO6.out HLT3.out
            injection hA9 with hA9; injection hA9 with hA9; subst hA9
            have cL6 := hcells s.pre.length L HGL.out
            have fL6 := hfr s.pre.length
            clear cL fL hcells hfr hdl JC
            cases hp : pr L z with
            | none =>
              have HJN := Lib.hid (HPR.out.trans hp)
              rw [hp] at HPR
              clear hp HPR
              have HSTEP := Lib.hid (show Cps.run cl pr Cps.s0 (t.take (i + 1)) = Cps.put cl s z from by rw [HT1.out]; exact Cps.step_none HJN.out)
              have HPO := Lib.hid (Cps.put_out (cl := cl) s z)
              by_cases hz0 : cz = 0
              · have HPV := Lib.hid (show lastV (Cps.put cl s z) = s.out.length from by unfold Cps.put; rw [if_pos (by rw [HCZ.out]; exact hz0)]; rfl)
                have HPB := Lib.hid (show ∀ b, (Cps.put cl s z).bt.getLast? = some b → (0 : Int) = cl b from by unfold Cps.put; rw [if_pos (by rw [HCZ.out]; exact hz0)]; intro b hb; cases hb)
                subst hz0
                clear HJN
                go_wp2_with (at_builtin; refine wpList_app _ _ 24 3 (.int .i64 0) 1 8 rfl rfl Tryd.underlying24 info_int rfl (by decide) (by decide) rfl (HO6.out.alloc _) rfl (Sl_new W6 [.int .i64 z] 3 rfl) (by simp) (oneCell_ints [z]) (by omega) (by have := hb8.size; simp; omega) ?_; intro B1 c1' w1 hown1 hc1' hb1 hg1 hB1)
                have hbn := hb8.trans (((Below.refl _ _).alloc (Nat.le_refl _) _).mono hb8.size |>.trans hb1)
                go_roundw
                case rel =>
                  refine ⟨i + 1, Cps.put cl s z, 0, B1, c1', by omega, by go_num, HSTEP.out, ?_, by rw [HPV.out], rfl, HPB.out, ?_, hbn⟩
                  · rw [HPO.out, List.length_append]; rfl
                  · rw [HPO.out, List.length_append, List.map_append]; exact hown1
                case measure => simp [intOf]; omega
              · have HPV := Lib.hid (show lastV (Cps.put cl s z) = lastV s from by unfold Cps.put; rw [if_neg (by rw [HCZ.out]; exact hz0)]; rfl)
                have HPB := Lib.hid (show ∀ b, (Cps.put cl s z).bt.getLast? = some b → cz = cl b from by unfold Cps.put; rw [if_neg (by rw [HCZ.out]; exact hz0)]; intro b hb; simp at hb; rw [← hb, HCZ.out])
                have hz1 : (cz == 0) = false := by simpa using hz0
                clear HJN
                go_wp2_with (at_builtin; refine wpList_app _ _ 24 3 (.int .i64 0) 1 8 rfl rfl Tryd.underlying24 info_int rfl (by decide) (by decide) rfl (HO6.out.alloc _) rfl (Sl_new W6 [.int .i64 z] 3 rfl) (by simp) (oneCell_ints [z]) (by omega) (by have := hb8.size; simp; omega) ?_; intro B1 c1' w1 hown1 hc1' hb1 hg1 hB1)
                have hbn := hb8.trans (((Below.refl _ _).alloc (Nat.le_refl _) _).mono hb8.size |>.trans hb1)
                go_roundw
                case rel =>
                  refine ⟨i + 1, Cps.put cl s z, cz, B1, c1', by omega, by go_num, HSTEP.out, ?_, by rw [HPV.out]; exact HLV.out, rfl, HPB.out, ?_, hbn⟩
                  · rw [HPO.out, List.length_append]; rfl
                  · rw [HPO.out, List.length_append, List.map_append]; exact hown1
                case measure => simp [intOf]; omega
            | some p =>
              have HSTEP := Lib.hid (show Cps.run cl pr Cps.s0 (t.take (i + 1)) = ⟨s.pre, some p, s.bt⟩ from by rw [HT1.out]; exact Cps.step_some (HPR.out.trans hp))
              have HST := Lib.hid (HO6.out.stored s.pre.length (.int .i64 p))
              have HEO := Lib.hid (show (s.out.map (Value.int .i64)).set s.pre.length (.int .i64 p) = (Cps.CSt.out ⟨s.pre, some p, s.bt⟩).map (Value.int .i64) from by
                rw [← List.map_set]
                unfold Cps.CSt.out
                rw [hst'.out]
                simp)
              have HEL := Lib.hid (show (Cps.CSt.out ⟨s.pre, some p, s.bt⟩).length = s.out.length from by
                unfold Cps.CSt.out
                rw [hst'.out]
                simp)
              have hlv' := Lib.hid (show (s.pre.length : Int) = lastV ⟨s.pre, some p, s.bt⟩ from rfl)
              clear hp HPR
              go_wp2_with fail
              go_roundw
              case rel =>
                refine ⟨i + 1, ⟨s.pre, some p, s.bt⟩, bf, some ⟨g, 0, none⟩, c, by omega, by go_num, HSTEP.out, by rw [HEL.out], by rw [← hlv'.out], rfl, HBF.out, ?_, below_grown hb8 HST.out.2 hgb hb8.size⟩
                rw [HEL.out, ← HEO.out]
                exact HST.out.1
              case measure => simp [intOf]; omega
          · have d1 : decide ((s.pre.length : Int) < (s.out.length : Int) - 1) = true := by simp; omega
            have d2 : decide (cz ≤ bf) = false := by simp; omega
            clear hol hbe hbe2
            have hlt2 : s.pre.length < s.out.length := HLT2.out
            go_wp2_with fail
            with_reducible refine JC.out.mono ?_
            rintro e W6 ⟨rfl, hb7⟩
            have hb8 := hb6.trans (hb7.mono hb6.size)
            have HO6 := Lib.hid (own_keep HO5.out hb7)
            obtain ⟨_, hA9, _, hdl, hcells, hfr⟩ := own_ints HO6.out HLT3.out
            injection hA9 with hA9; injection hA9 with hA9; subst hA9
            have cL6 := hcells s.pre.length L HGL.out
            have fL6 := hfr s.pre.length
            clear cL fL hcells hfr hdl JC
            cases hp : pr L z with
            | none =>
              have HJN := Lib.hid (HPR.out.trans hp)
              rw [hp] at HPR
              clear hp HPR
              have HSTEP := Lib.hid (show Cps.run cl pr Cps.s0 (t.take (i + 1)) = Cps.put cl s z from by rw [HT1.out]; exact Cps.step_none HJN.out)
              have HPO := Lib.hid (Cps.put_out (cl := cl) s z)
              by_cases hz0 : cz = 0
              · have HPV := Lib.hid (show lastV (Cps.put cl s z) = s.out.length from by unfold Cps.put; rw [if_pos (by rw [HCZ.out]; exact hz0)]; rfl)
                have HPB := Lib.hid (show ∀ b, (Cps.put cl s z).bt.getLast? = some b → (0 : Int) = cl b from by unfold Cps.put; rw [if_pos (by rw [HCZ.out]; exact hz0)]; intro b hb; cases hb)
                subst hz0
                clear HJN
                go_wp2_with (at_builtin; refine wpList_app _ _ 24 3 (.int .i64 0) 1 8 rfl rfl Tryd.underlying24 info_int rfl (by decide) (by decide) rfl (HO6.out.alloc _) rfl (Sl_new W6 [.int .i64 z] 3 rfl) (by simp) (oneCell_ints [z]) (by omega) (by have := hb8.size; simp; omega) ?_; intro B1 c1' w1 hown1 hc1' hb1 hg1 hB1)
                have hbn := hb8.trans (((Below.refl _ _).alloc (Nat.le_refl _) _).mono hb8.size |>.trans hb1)
                go_roundw
                case rel =>
                  refine ⟨i + 1, Cps.put cl s z, 0, B1, c1', by omega, by go_num, HSTEP.out, ?_, by rw [HPV.out], rfl, HPB.out, ?_, hbn⟩
                  · rw [HPO.out, List.length_append]; rfl
                  · rw [HPO.out, List.length_append, List.map_append]; exact hown1
                case measure => simp [intOf]; omega
              · have HPV := Lib.hid (show lastV (Cps.put cl s z) = lastV s from by unfold Cps.put; rw [if_neg (by rw [HCZ.out]; exact hz0)]; rfl)
                have HPB := Lib.hid (show ∀ b, (Cps.put cl s z).bt.getLast? = some b → cz = cl b from by unfold Cps.put; rw [if_neg (by rw [HCZ.out]; exact hz0)]; intro b hb; simp at hb; rw [← hb, HCZ.out])
                have hz1 : (cz == 0) = false := by simpa using hz0
                clear HJN
                go_wp2_with (at_builtin; refine wpList_app _ _ 24 3 (.int .i64 0) 1 8 rfl rfl Tryd.underlying24 info_int rfl (by decide) (by decide) rfl (HO6.out.alloc _) rfl (Sl_new W6 [.int .i64 z] 3 rfl) (by simp) (oneCell_ints [z]) (by omega) (by have := hb8.size; simp; omega) ?_; intro B1 c1' w1 hown1 hc1' hb1 hg1 hB1)
                have hbn := hb8.trans (((Below.refl _ _).alloc (Nat.le_refl _) _).mono hb8.size |>.trans hb1)
                go_roundw
                case rel =>
                  refine ⟨i + 1, Cps.put cl s z, cz, B1, c1', by omega, by go_num, HSTEP.out, ?_, by rw [HPV.out]; exact HLV.out, rfl, HPB.out, ?_, hbn⟩
                  · rw [HPO.out, List.length_append]; rfl
                  · rw [HPO.out, List.length_append, List.map_append]; exact hown1
                case measure => simp [intOf]; omega
            | some p =>
              have HSTEP := Lib.hid (show Cps.run cl pr Cps.s0 (t.take (i + 1)) = ⟨s.pre, some p, s.bt⟩ from by rw [HT1.out]; exact Cps.step_some (HPR.out.trans hp))
              have HST := Lib.hid (HO6.out.stored s.pre.length (.int .i64 p))
              have HEO := Lib.hid (show (s.out.map (Value.int .i64)).set s.pre.length (.int .i64 p) = (Cps.CSt.out ⟨s.pre, some p, s.bt⟩).map (Value.int .i64) from by
                rw [← List.map_set]
                unfold Cps.CSt.out
                rw [hst'.out]
                simp)
              have HEL := Lib.hid (show (Cps.CSt.out ⟨s.pre, some p, s.bt⟩).length = s.out.length from by
                unfold Cps.CSt.out
                rw [hst'.out]
                simp)
              have hlv' := Lib.hid (show (s.pre.length : Int) = lastV ⟨s.pre, some p, s.bt⟩ from rfl)
              clear hp HPR
              go_wp2_with fail
              go_roundw
              case rel =>
                refine ⟨i + 1, ⟨s.pre, some p, s.bt⟩, bf, some ⟨g, 0, none⟩, c, by omega, by go_num, HSTEP.out, by rw [HEL.out], by rw [← hlv'.out], rfl, HBF.out, ?_, below_grown hb8 HST.out.2 hgb hb8.size⟩
                rw [HEL.out, ← HEO.out]
                exact HST.out.1
              case measure => simp [intOf]; omega
    · obtain rfl : i = t.length := by omega
      have hr := HRE.out
      rw [HS.out] at hr
      have hI := Lib.hid (Sl.of_own HOWN.out)
      generalize Cps.text cl pr t = R at *
      subst hr
      go_wp2_with fail
      (try rw [Exit.noGoto_ret])
      go_ret
      obtain ⟨_, _, hv, hcc⟩ := own_form HOWN.out
      injection hv with _ _ hcc'
      subst hcc'
      exact ⟨_, _, rfl, hcc, hI.out, hbw⟩
end Go.Proofs.YtjglanjfgbipmaaDoor
/- Contracts of the reference's Compare and Equal of two slices of ints. -/
namespace Go.Proofs.YtjglanjfgbipmaaDoor
open Go.RowKit

set_option maxHeartbeats 400000 in
theorem Compare_any (A B : Option Addr) (n m c d : Nat) (xs ys : List Int) (w : World) (hA : Ints w A xs) (hB : Ints w B ys) (hn : xs.length = n) (hm : ys.length = m)
    (hn' : n ≤ 9223372036854775807) (hm' : m ≤ 9223372036854775807) :
    Calls Tryd.prog 12 #[.slice A n c, .slice B m d] w fun e w' => e = .returned (.int .i64 (cmpL xs ys)) ∧ Qt w w' := by
  subst hn hm
  go_enter Tryd.func12, Tryd.ntmps12
  go_wp2
  go_loopw [5] (fun i wr => ∃ k : Nat, k ≤ xs.length ∧ k ≤ ys.length ∧ i = .int .i64 k ∧ Qt w wr ∧ cmpL xs ys = cmpL (xs.drop k) (ys.drop k)) (fun i _ => xs.length - (intOf i).toNat)
  case atStart => exact ⟨0, Nat.zero_le _, Nat.zero_le _, rfl, Qt.refl _, rfl⟩
  case round =>
    obtain ⟨k, hk1, hk2, rfl, ⟨q, rfl⟩, hcmp⟩ := hrel
    have HC := Lib.hid hcmp; clear hcmp
    by_cases h1 : k < xs.length
    · by_cases h2 : k < ys.length
      · obtain ⟨b, o, rfl, hc⟩ := hA.at h1
        obtain ⟨b', o', rfl, hc'⟩ := hB.at h2
        have hx := hc k h1
        have hy := hc' k h2
        have HS := Lib.hid (cmpL_drop xs ys k h1 h2)
        clear hc hc'
        generalize xs[k] = x at *
        generalize ys[k] = y at *
        by_cases hxy : x < y
        · go_wp2
          go_quiet (fail)
          go_wp2
          go_ret
          exact ⟨ret_int (Eq.symm (by rw [HC.out, HS.out, if_pos hxy])), by repeat (first | exact Qt.refl _ | refine Qt.drewN ?_ _)⟩
        · by_cases hyx : y < x
          · go_wp2
            go_quiet (fail)
            go_wp2
            go_quiet (fail)
            go_wp2
            go_ret
            exact ⟨ret_int (Eq.symm (by rw [HC.out, HS.out, if_neg (show ¬ x < y by omega), if_pos hyx])), by repeat (first | exact Qt.refl _ | refine Qt.drewN ?_ _)⟩
          · go_wp2
            go_quiet (fail)
            go_wp2
            go_quiet (fail)
            go_wp2
            go_roundw
            case rel => exact ⟨k + 1, by omega, by omega, by go_num, by repeat (first | exact Qt.refl _ | refine Qt.drewN ?_ _), by rw [HC.out, HS.out, if_neg (show ¬ x < y by omega), if_neg (show ¬ y < x by omega)]⟩
            case measure => simp [intOf]; omega
      · have HE := Lib.hid (cmpL_end xs ys k (by omega) hk1 hk2)
        have hl : ys.length < xs.length := by omega
        go_wp2
        go_ret
        exact ⟨ret_int (Eq.symm (by rw [HC.out, HE.out, if_neg (by omega), if_pos hl])), by repeat (first | exact Qt.refl _ | refine Qt.drewN ?_ _)⟩
    · have HE := Lib.hid (cmpL_end xs ys k (by omega) hk1 hk2)
      by_cases h2 : k < ys.length
      · go_wp2
        go_ret
        exact ⟨ret_int (Eq.symm (by rw [HC.out, HE.out, if_pos (by omega)])), by repeat (first | exact Qt.refl _ | refine Qt.drewN ?_ _)⟩
      · go_wp2
        go_ret
        exact ⟨ret_int (Eq.symm (by rw [HC.out, HE.out, if_neg (by omega), if_neg (by omega)])), by repeat (first | exact Qt.refl _ | refine Qt.drewN ?_ _)⟩

theorem Equal_any (A B : Option Addr) (n m c d : Nat) (xs ys : List Int) (w : World) (hA : Ints w A xs) (hB : Ints w B ys) (hn : xs.length = n) (hm : ys.length = m)
    (hn' : n ≤ 9223372036854775807) (hm' : m ≤ 9223372036854775807) :
    Calls Tryd.prog 6 #[.slice A n c, .slice B m d] w fun e w' => e = .returned (.bool (decide (xs = ys))) ∧ Qt w w' := by
  have hd : decide (xs = ys) = (cmpL xs ys == 0) := by
    rw [Bool.eq_iff_iff]; simp [cmpL_eq_zero]
  rw [hd]; clear hd
  have HC := Lib.hid (Compare_any A B n m c d xs ys w hA hB hn hm hn' hm')
  clear hA hB hn hm
  go_enter Tryd.func6, Tryd.ntmps6
  go_wp2_with (go_at_call 12; refine HC.out.mono ?_; rintro e w' ⟨rfl, q, rfl⟩)
  go_ret
  exact ⟨rfl, by repeat (first | exact Qt.refl _ | refine Qt.drewN ?_ _)⟩

end Go.Proofs.YtjglanjfgbipmaaDoor
/- The contract of awake: the chapter's example holds. Written by gen_awake.py. -/
namespace Go.Proofs.YtjglanjfgbipmaaDoor
open Go.RowKit Go.Maps Go.WideMaps Go.Shelf

theorem ex_at (w : World) : NrmAt ((((w.alloc (.cells #[.int .i64 770, .int .i64 770, .int .i64 230, .int .i64 803, .int .i64 803, .int .i64 220] 38)).alloc (.cells #[.int .i64 97, .int .i64 770] 3)).alloc (.cells #[.int .i64 226, .slice (some ⟨w.heap.size + 1, 0, none⟩) 2 2, .string ⟨#[]⟩] 40)).alloc (.cells #[.slice (some ⟨w.heap.size, 0, none⟩) 2 2, .slice (some ⟨w.heap.size + 1 + 1, 0, none⟩) 1 1, .slice none 0 0] 35)) (some ⟨w.heap.size, 0, none⟩) 2 (some ⟨w.heap.size + 1 + 1, 0, none⟩) 1 none 0 exN := by
  have al : ∀ (W : World) (o : Obj), Below W.heap.size W (W.alloc o) := fun W o => (Below.refl _ _).alloc (Nat.le_refl _) _
  have s0 : Sl (w.alloc (.cells #[.int .i64 770, .int .i64 770, .int .i64 230, .int .i64 803, .int .i64 803, .int .i64 220] 38)) (some ⟨w.heap.size, 0, none⟩) [.int .i64 770, .int .i64 770, .int .i64 230, .int .i64 803, .int .i64 803, .int .i64 220] := Sl_new w _ _ rfl
  have s1 : Ints ((w.alloc (.cells #[.int .i64 770, .int .i64 770, .int .i64 230, .int .i64 803, .int .i64 803, .int .i64 220] 38)).alloc (.cells #[.int .i64 97, .int .i64 770] 3)) (some ⟨w.heap.size + 1, 0, none⟩) [97, 770] := Ints_new (w.alloc (.cells #[.int .i64 770, .int .i64 770, .int .i64 230, .int .i64 803, .int .i64 803, .int .i64 220] 38)) [97, 770] 3 (by simp)
  have s2 : Sl (((w.alloc (.cells #[.int .i64 770, .int .i64 770, .int .i64 230, .int .i64 803, .int .i64 803, .int .i64 220] 38)).alloc (.cells #[.int .i64 97, .int .i64 770] 3)).alloc (.cells #[.int .i64 226, .slice (some ⟨w.heap.size + 1, 0, none⟩) 2 2, .string ⟨#[]⟩] 40)) (some ⟨w.heap.size + 1 + 1, 0, none⟩) [.int .i64 226, .slice (some ⟨w.heap.size + 1, 0, none⟩) 2 2, .string ⟨#[]⟩] := Sl_new ((w.alloc (.cells #[.int .i64 770, .int .i64 770, .int .i64 230, .int .i64 803, .int .i64 803, .int .i64 220] 38)).alloc (.cells #[.int .i64 97, .int .i64 770] 3)) _ _ (by simp)
  refine ⟨((s0.alloc _).alloc _).alloc _, ⟨[.slice (some ⟨w.heap.size + 1, 0, none⟩) 2 2], rfl, s2.alloc _, fun i hi hv => ?_⟩, Sl.nil _ _, rfl, rfl, rfl⟩
  have : i = 0 := by simp [exN] at hi; omega
  subst this
  exact ⟨some ⟨w.heap.size + 1, 0, none⟩, 2, rfl, by simp [exN], Sl.alloc (Sl.alloc s1 _) _⟩
theorem ex_sz : NrmSz exN := by
  refine ⟨by simp [exN], ⟨by simp [exN], fun i hi => ?_⟩, by simp [exN]⟩
  have : i = 0 := by simp [exN] at hi; omega
  subst this
  simp [exN]
theorem ex_rp : prN (usN exN) 97 770 = some 226 := by rw [ex_us]; exact ex_pair

set_option maxRecDepth 100000 in
set_option maxHeartbeats 6400000 in
theorem awake_any (w : World) (hL : Laid w) : Calls Tryd.prog 4 #[] w (RetBool true w) := by
  have B0 : Below w.heap.size w ((((w.alloc (.cells #[.int .i64 770, .int .i64 770, .int .i64 230, .int .i64 803, .int .i64 803, .int .i64 220] 38)).alloc (.cells #[.int .i64 97, .int .i64 770] 3)).alloc (.cells #[.int .i64 226, .slice (some ⟨w.heap.size + 1, 0, none⟩) 2 2, .string ⟨#[]⟩] 40)).alloc (.cells #[.slice (some ⟨w.heap.size, 0, none⟩) 2 2, .slice (some ⟨w.heap.size + 1 + 1, 0, none⟩) 1 1, .slice none 0 0] 35)) := ((((Below.refl _ _).alloc (Nat.le_refl _) _).alloc (by simp) _).alloc (by simp <;> omega) _).alloc (by simp <;> omega) _
  have hX : Box ((((w.alloc (.cells #[.int .i64 770, .int .i64 770, .int .i64 230, .int .i64 803, .int .i64 803, .int .i64 220] 38)).alloc (.cells #[.int .i64 97, .int .i64 770] 3)).alloc (.cells #[.int .i64 226, .slice (some ⟨w.heap.size + 1, 0, none⟩) 2 2, .string ⟨#[]⟩] 40)).alloc (.cells #[.slice (some ⟨w.heap.size, 0, none⟩) 2 2, .slice (some ⟨w.heap.size + 1 + 1, 0, none⟩) 1 1, .slice none 0 0] 35)) (w.heap.size + 1 + 1 + 1) 35 [.slice (some ⟨w.heap.size, 0, none⟩) 2 2, .slice (some ⟨w.heap.size + 1 + 1, 0, none⟩) 1 1, .slice none 0 0] := Box.new _ _ _ (by simp)
  have hN := ex_at w
  have W0E : ∃ W0, ((((w.alloc (.cells #[.int .i64 770, .int .i64 770, .int .i64 230, .int .i64 803, .int .i64 803, .int .i64 220] 38)).alloc (.cells #[.int .i64 97, .int .i64 770] 3)).alloc (.cells #[.int .i64 226, .slice (some ⟨w.heap.size + 1, 0, none⟩) 2 2, .string ⟨#[]⟩] 40)).alloc (.cells #[.slice (some ⟨w.heap.size, 0, none⟩) 2 2, .slice (some ⟨w.heap.size + 1 + 1, 0, none⟩) 1 1, .slice none 0 0] 35)) = W0 := ⟨_, rfl⟩
  go_enter Tryd.func4, Tryd.ntmps4
  go_wp2_with fail
  obtain ⟨W0, hW0⟩ := W0E
  rw [hW0] at B0 hX hN ⊢
  clear hW0
  have X0 := Lib.hid hX
  have BB := Lib.hid (fun W (hb : Below W0.heap.size W0 W) => B0.trans (hb.mono B0.size))
  have PC := Lib.hid (fun W (hb : Below W0.heap.size W0 W) => cpPair_any (some ⟨w.heap.size, 0, none⟩) 2 2 (some ⟨w.heap.size + 1 + 1, 0, none⟩) 1 1 none 0 0 exN 97 770 W (hN.below hb) ex_sz (hL.below (BB.out W hb)) ⟨by rfl, by rfl⟩)
  have TC := Lib.hid (fun A n k t W (hb : Below W0.heap.size W0 W) (hA : Ints W A t) (hn : t.length = n) (hz : n ≤ 1048576) (hok : ∀ c ∈ t, iok c) => cpText_any (some ⟨w.heap.size, 0, none⟩) 2 2 (some ⟨w.heap.size + 1 + 1, 0, none⟩) 1 1 none 0 0 exN A n k t W (hN.below hb) ex_sz (hL.below (BB.out W hb)) hA hn hz hok)
  have PR := Lib.hid (fun W (hb : Below W0.heap.size W0 W) => cpPrimary_any (some ⟨w.heap.size, 0, none⟩) 2 2 (some ⟨w.heap.size + 1 + 1, 0, none⟩) 1 1 none 0 0 exN 226 W (hN.below hb) ex_sz (hL.below (BB.out W hb)))
  have PS := Lib.hid (fun W (hb : Below W0.heap.size W0 W) => cpPairs_any (some ⟨w.heap.size, 0, none⟩) 2 2 (some ⟨w.heap.size + 1 + 1, 0, none⟩) 1 1 none 0 0 exN W (hN.below hb) ex_sz (hL.below (BB.out W hb)))
  have EC := Lib.hid (fun A B n c d (l : List Int) W (h1 : Ints W A l) (h2 : Ints W B l) (hn : l.length = n) (hz : n ≤ 100) => (Equal_any A B n n c d l l W h1 h2 hn hn (by omega) (by omega)).mono (R' := fun e w' => e = .returned (.bool true) ∧ Qt W w') (fun e w' h => ⟨by rw [h.1, decide_eq_true rfl], h.2⟩))
  rw [ex_rp] at PC
  rw [ex_us] at TC PR PS
  clear hN hX hL B0
  with_reducible refine (PC.out W0 (Below.refl _ _)).mono ?_
  rintro e W1 ⟨rfl, hb1⟩
  have n1 : Ints (W1.alloc (.cells #[.int .i64 97, .int .i64 803, .int .i64 770] 3)) (some ⟨W1.heap.size, 0, none⟩) [97, 803, 770] := Ints_new W1 [97, 803, 770] 3 rfl
  have b1 : Below W0.heap.size W0 (W1.alloc (.cells #[.int .i64 97, .int .i64 803, .int .i64 770] 3)) := hb1.alloc hb1.size _
  have T1 := TC.out _ 3 3 _ _ b1 n1 rfl (by omega) (by intro c hc; simp at hc; rcases hc with rfl | rfl | rfl <;> rfl)
  rw [ex_t1] at T1
  have T1' := Lib.hid T1
  clear T1 n1 PC
  have g0 := (X0.out.below hb1 X0.out.lt).cell (i := 0) rfl
  have g1 := (X0.out.below hb1 X0.out.lt).cell (i := 1) rfl
  have g2 := (X0.out.below hb1 X0.out.lt).cell (i := 2) rfl
  dsimp only [Option.getD_some, Option.isSome_some]
  go_wp2_with fail
  with_reducible refine T1'.out.mono ?_
  rintro e W2 ⟨A2, c2, rfl, hc2, hA2, hb2⟩
  have b2 := b1.trans (hb2.mono b1.size)
  clear T1' hb2 b1 g0 g1 g2
  have z1 : Ints (W2.alloc (.cells #[.int .i64 226, .int .i64 803] 3)) (some ⟨W2.heap.size, 0, none⟩) [226, 803] := Ints_new W2 [226, 803] 3 rfl
  have zb1 : Below W0.heap.size W0 (W2.alloc (.cells #[.int .i64 226, .int .i64 803] 3)) := b2.alloc b2.size _
  have E1 := Lib.hid (EC.out A2 _ 2 c2 2 [226, 803] _ (Sl.alloc hA2 _) z1 rfl (by omega))
  clear z1
  dsimp only [List.length_cons, List.length_nil, Nat.reduceAdd]
  go_wp2_with fail
  with_reducible refine E1.out.mono ?_
  rintro e V3 ⟨rfl, hq1⟩
  have bV3 := zb1.trans (hq1.below.mono zb1.size)
  clear hq1 zb1 E1
  have n2 : Ints (V3.alloc (.cells #[.int .i64 4352, .int .i64 4449, .int .i64 4520] 3)) (some ⟨V3.heap.size, 0, none⟩) [4352, 4449, 4520] := Ints_new V3 [4352, 4449, 4520] 3 rfl
  have b4 : Below W0.heap.size W0 (V3.alloc (.cells #[.int .i64 4352, .int .i64 4449, .int .i64 4520] 3)) := bV3.alloc bV3.size _
  have T2 := TC.out _ 3 3 _ _ b4 n2 rfl (by omega) (by intro c hc; simp at hc; rcases hc with rfl | rfl | rfl <;> rfl)
  rw [ex_t2] at T2
  have T2' := Lib.hid T2
  clear T2 n2
  have g0 := (X0.out.below bV3 X0.out.lt).cell (i := 0) rfl
  have g1 := (X0.out.below bV3 X0.out.lt).cell (i := 1) rfl
  have g2 := (X0.out.below bV3 X0.out.lt).cell (i := 2) rfl
  go_wp2_with fail
  with_reducible refine T2'.out.mono ?_
  rintro e V4 ⟨A4, c4, rfl, hc4, hA4, hb4⟩
  have b5 := b4.trans (hb4.mono b4.size)
  clear T2' hb4 b4 g0 g1 g2
  have z2 : Ints (V4.alloc (.cells #[.int .i64 44033] 3)) (some ⟨V4.heap.size, 0, none⟩) [44033] := Ints_new V4 [44033] 3 rfl
  have zb2 : Below W0.heap.size W0 (V4.alloc (.cells #[.int .i64 44033] 3)) := b5.alloc b5.size _
  have E2 := Lib.hid (EC.out A4 _ 1 c4 1 [44033] _ (Sl.alloc hA4 _) z2 rfl (by omega))
  clear z2
  dsimp only [List.length_cons, List.length_nil, Nat.reduceAdd]
  go_wp2_with fail
  with_reducible refine E2.out.mono ?_
  rintro e V5 ⟨rfl, hq2⟩
  have bV5 := zb2.trans (hq2.below.mono zb2.size)
  clear hq2 zb2 E2
  have g0 := (X0.out.below bV5 X0.out.lt).cell (i := 0) rfl
  have g1 := (X0.out.below bV5 X0.out.lt).cell (i := 1) rfl
  have g2 := (X0.out.below bV5 X0.out.lt).cell (i := 2) rfl
  have PR5 := Lib.hid (PR.out V5 bV5)
  go_wp2_with fail
  with_reducible refine PR5.out.mono ?_
  rintro e V6 ⟨bp, rfl, hbp, hb6⟩
  obtain rfl : bp = true := hbp.2 (.inr ex_prim)
  have b6 := bV5.trans (hb6.mono bV5.size)
  clear hbp hb6 PR5 g0 g1 g2
  have g0 := (X0.out.below b6 X0.out.lt).cell (i := 0) rfl
  have g1 := (X0.out.below b6 X0.out.lt).cell (i := 1) rfl
  have g2 := (X0.out.below b6 X0.out.lt).cell (i := 2) rfl
  have PS6 := Lib.hid (PS.out V6 b6)
  go_wp2_with fail
  with_reducible refine PS6.out.mono ?_
  rintro e V7 ⟨L, hL, A7, c7, rfl, hc7, _, hb7⟩
  obtain rfl := hL.unique ex_pairs
  have b7 := BB.out _ (b6.trans (hb7.mono b6.size))
  clear hb7 PS6 g0 g1 g2 hL
  dsimp only [List.length_cons, List.length_nil, Nat.reduceAdd]
  go_wp2_with fail
  go_ret
  exact ⟨rfl, b7⟩
end Go.Proofs.YtjglanjfgbipmaaDoor
