/- Texts that are merged into one file: DCheck, RefDec, RefDecB, RefDecC, RDCheck, NormUs, MapsRange. -/
import Derived.Test.YtjglanjfgbipmaaDoorG04
import Derived.Test.YtjglanjfgbipmaaDoorG06
import Derived.Test.YtjglanjfgbipmaaDoorG07
import Derived.Test.YtjglanjfgbipmaaDoorG09
import Derived.Test.YtjglanjfgbipmaaDoorG12
import Derived.Test.YtjglanjfgbipmaaDoorG13
import Derived.Test.YtjglanjfgbipmaaDoorG14
import Derived.Test.YtjglanjfgbipmaaDoorG15
import Derived.BigQuiet
import Derived.Maps.RangeWalk
/- The contract of decompose.Check. -/
namespace Go.Proofs.YtjglanjfgbipmaaDoor
open Go.RowKit Go.Maps Go.WideMaps

/-- the data of normalization in memory -/
structure NrmAt (w : World) (A0 : Option Addr) (n0 : Nat) (A1 : Option Addr) (n1 : Nat) (A2 : Option Addr) (n2 : Nat) (x : Nrm) : Prop where
  s0 : Spans w A0 x.cls
  s1 : Mps w A1 x.dec
  s2 : Rgs w A2 x.exc
  l0 : x.cls.length = n0
  l1 : x.dec.length = n1
  l2 : x.exc.length = n2
theorem NrmAt.below {w w' : World} {A0 : Option Addr} {n0 : Nat} {A1 : Option Addr} {n1 : Nat} {A2 : Option Addr} {n2 : Nat} {x : Nrm} (h : NrmAt w A0 n0 A1 n1 A2 n2 x) (hb : Below w.heap.size w w') : NrmAt w' A0 n0 A1 n1 A2 n2 x :=
  ⟨h.s0.below hb, h.s1.below hb, h.s2.below hb, h.l0, h.l1, h.l2⟩
/-- sizes -/
structure NrmSz (x : Nrm) : Prop where
  z0 : x.cls.length ≤ 1048576
  z1 : MpsSz x.dec
  z2 : x.exc.length ≤ 12

set_option maxRecDepth 100000 in
set_option maxHeartbeats 6400000 in
theorem dCheck_any (A0 : Option Addr) (n0 k0 : Nat) (A1 : Option Addr) (n1 k1 : Nat) (A2 : Option Addr) (n2 k2 : Nat) (x : Nrm) (w : World) (hN : NrmAt w A0 n0 A1 n1 A2 n2 x) (hz : NrmSz x) (hL : Laid w) :
    Calls Tryd.prog 21 #[.agg #[.slice A0 n0 k0, .slice A1 n1 k1, .slice A2 n2 k2]] w (RetInt (nErr x) w) := by
  obtain ⟨ss, ms, rs⟩ := x
  obtain ⟨hS, hM, hR, rfl, rfl, rfl⟩ := hN
  dsimp only at *
  have z0 : ss.length ≤ 1048576 := hz.z0
  have z1 : ms.length ≤ 1048576 := hz.z1.n
  have CC := Lib.hid (fun W (hb : Below w.heap.size w W) => Check_any A0 ss.length k0 ss W (hS.below hb) rfl (by omega) (hL.below hb))
  have MC := Lib.hid (fun W (hb : Below w.heap.size w W) => mapCheck_any A1 ms.length k1 ms W (hM.below hb) rfl hz.z1)
  have VC := Lib.hid (fun W (hb : Below w.heap.size w W) => cpValidS_any A2 rs.length k2 rs W (hR.below hb) rfl hz.z2)
  have KC := Lib.hid (fun c W => Kind_any c W)
  have RC := Lib.hid (fun A nt kt text W (hb : Below w.heap.size w W) (hT : Ints W A text) (hnt : text.length = nt) (hbt : nt ≤ 1048576) => Runs_any A0 ss.length k0 ss A nt kt text W (hS.below hb) hT hnt rfl hbt (by omega) (hL.below hb))
  have ME := Lib.hid (fun W (hb : Below w.heap.size w W) (hst : StF ms) (hco : CodesOk ms) (hh : NoHg ms) => measure_any A0 ss.length k0 A1 ms.length k1 A2 rs.length k2 ms W (hM.below hb) rfl hst hco hh z1)
  have N0 := Lib.hid (fun h => nErr_c (x := ⟨ss, ms, rs⟩) h)
  have N1 := Lib.hid (fun h1 h2 => nErr_m (x := ⟨ss, ms, rs⟩) h1 h2)
  have N2 := Lib.hid (fun h1 h2 h3 => nErr_s (x := ⟨ss, ms, rs⟩) h1 h2 h3)
  have N3 := Lib.hid (fun (c : Ck3 ⟨ss, ms, rs⟩) h => c.twice h)
  have N4 := Lib.hid (fun (c : Ck4 ⟨ss, ms, rs⟩) h => c.kind h)
  have N5 := Lib.hid (fun (c : Ck5 ⟨ss, ms, rs⟩) h => c.data h)
  have N6 := Lib.hid (fun (c : Ck6 ⟨ss, ms, rs⟩) => c.rest)
  dsimp only at N0 N1 N2 N3 N4 N5 N6
  generalize nErr ⟨ss, ms, rs⟩ = r at *
  have HM := Lib.hid hM
  clear hM hS hR hz hL
  have B0 : Below w.heap.size w (w.alloc (.cells #[.slice A0 ss.length k0, .slice A1 ms.length k1, .slice A2 rs.length k2] 35)) := (Below.refl _ _).alloc (Nat.le_refl _) _
  have X0 : Box (w.alloc (.cells #[.slice A0 ss.length k0, .slice A1 ms.length k1, .slice A2 rs.length k2] 35)) w.heap.size 35 [.slice A0 ss.length k0, .slice A1 ms.length k1, .slice A2 rs.length k2] := Box.new _ _ _ rfl
  have W0E : ∃ W0, (w.alloc (.cells #[.slice A0 ss.length k0, .slice A1 ms.length k1, .slice A2 rs.length k2] 35)) = W0 := ⟨_, rfl⟩
  go_enter Tryd.func21, Tryd.ntmps21
  go_wp2_with fail
  obtain ⟨W0, hW0⟩ := W0E
  rw [hW0] at B0 X0 ⊢
  clear hW0
  have s0 : w.heap.size < W0.heap.size := X0.lt
  have Q := Lib.hid (fun W (hb : Below W0.heap.size W0 W) => show W.cell? ⟨w.heap.size, 0, none⟩ = some (.slice A0 ss.length k0) ∧ W.cell? ⟨w.heap.size, 1, none⟩ = some (.slice A1 ms.length k1) ∧ W.cell? ⟨w.heap.size, 2, none⟩ = some (.slice A2 rs.length k2) from
    have X := X0.below hb s0
    ⟨X.cell rfl, X.cell rfl, X.cell rfl⟩)
  have BB := Lib.hid (fun W (hb : Below W0.heap.size W0 W) => B0.trans (hb.mono B0.size))
  clear X0
  with_reducible refine (CC.out _ B0).mono ?_
  rintro e W1 ⟨rfl, hb1⟩
  obtain ⟨q0, q1, q2⟩ := Q.out W1 hb1
  generalize hc : chk ss = c at *
  have HC := Lib.hid hc
  clear hc CC
  by_cases h0 : ¬ c = 0
  · go_wp2_with fail
    go_ret
    exact ⟨ret_int (N0.out h0).symm, BB.out _ hb1⟩
  replace h0 := Decidable.not_not.1 h0
  subst h0
  clear N0
  go_wp2_with fail
  with_reducible refine (MC.out _ (BB.out _ hb1)).mono ?_
  rintro e W2 ⟨rfl, hb2⟩
  replace hb2 := hb1.trans (hb2.mono hb1.size)
  clear q0 q1 q2 hb1 MC
  obtain ⟨q0, q1, q2⟩ := Q.out W2 hb2
  generalize hc : mapErr ms = c at *
  have HMC := Lib.hid hc
  clear hc
  by_cases h0 : ¬ c = 0
  · go_wp2_with fail
    go_ret
    exact ⟨ret_int (N1.out (by trivial) h0).symm, BB.out _ hb2⟩
  replace h0 := Decidable.not_not.1 h0
  subst h0
  clear N1
  go_wp2_with fail
  with_reducible refine (VC.out _ (BB.out _ hb2)).mono ?_
  rintro e W3 ⟨rfl, hb3⟩
  replace hb3 := hb2.trans (hb3.mono hb2.size)
  clear q0 q1 q2 hb2 VC
  obtain ⟨q0, q1, q2⟩ := Q.out W3 hb3
  generalize hc : setOk rs = c at *
  have HSC := Lib.hid hc
  clear hc
  cases c with
  | false =>
    go_wp2_with fail
    go_ret
    exact ⟨ret_int (N2.out (by trivial) (by trivial) (by trivial)).symm, BB.out _ hb3⟩
  | true =>
  have C3 := Lib.hid (show Ck3 ⟨ss, ms, rs⟩ from ⟨HC.out, HMC.out, HSC.out⟩)
  clear N2 HC HSC
  go_wp2_with fail
  clear q0 q1 q2
  go_loopw [5] (fun u wr => ∃ i : Nat, i ≤ ms.length ∧ u = .int .i64 ((i : Int) + 1) ∧ (∀ t, (ht : t + 1 < ms.length) → t < i → ¬ ms[t + 1].frm = ms[t].frm) ∧ Below W0.heap.size W0 wr) (fun u _ => ms.length + 1 - (intOf u).toNat)
  case atStart => exact ⟨0, Nat.zero_le _, rfl, fun t _ h => absurd h (Nat.not_lt_zero _), hb3⟩
  case round =>
    obtain ⟨i, hi, rfl, h1, hb⟩ := hrel
    have H1 := Lib.hid h1
    clear h1
    obtain ⟨q0, q1, q2⟩ := Q.out wr hb
    by_cases hlt : i + 1 < ms.length
    · obtain ⟨b, o, rfl, _, hcell⟩ := (HM.out.below (BB.out _ hb)).at hlt
      obtain ⟨E, d, c1, c2, c3, _, _⟩ := hcell i (by omega)
      obtain ⟨E', d', c1', c2', c3', _, _⟩ := hcell (i + 1) hlt
      clear hcell
      have hi0 : i < ms.length := by omega
      have HS := Lib.hid (fun (h : ms[i + 1].frm = ms[i].frm) => stB_no hi0 hlt (Nat.lt_succ_self i) h)
      have HN := Lib.hid (fun (h : ¬ ms[i + 1].frm = ms[i].frm) => show ∀ t, (ht : t + 1 < ms.length) → t < i + 1 → ¬ ms[t + 1].frm = ms[t].frm from fun t ht g => by
        by_cases e : t = i
        · subst e; exact h
        · exact H1.out t ht (by omega))
      generalize ms[i].frm = f at *
      generalize ms[i].to.length = tl at *
      generalize ms[i].tag = tg at *
      generalize ms[i + 1].frm = f' at *
      generalize ms[i + 1].to.length = tl' at *
      generalize ms[i + 1].tag = tg' at *
      clear HM
      by_cases heq : f' = f
      · have HR := Lib.hid (N3.out C3.out (HS.out heq))
        go_wp2_with fail
        go_region
        all_goals
          go_wp2_with fail
          go_ret
          exact ⟨ret_int HR.out.symm, BB.out _ hb.drew⟩
      · have HR := Lib.hid (HN.out heq)
        go_wp2_with fail
        go_region
        all_goals
          go_wp2_with fail
          go_roundw
          case rel => exact ⟨i + 1, by omega, by go_num, HR.out, hb.drew⟩
          case measure => simp [intOf]; omega
    · have hst := Lib.hid (show stB ms = true from stB_of HMC.out (fun k hk => H1.out k hk (by omega)))
      have C4 := Lib.hid (show Ck4 ⟨ss, ms, rs⟩ from ⟨C3.out, hst.out⟩)
      clear N3 C3 H1 hst
      go_wp2_with fail
      clear q0 q1 q2
      go_loopw [53] (fun u wr => ∃ i : Nat, i ≤ ms.length ∧ u = .int .i64 i ∧ (∀ t, (ht : t < ms.length) → t < i → kindB ms[t] = false) ∧ Below W0.heap.size W0 wr) (fun u _ => ms.length - (intOf u).toNat)
      case atStart => exact ⟨0, Nat.zero_le _, rfl, fun t _ h => absurd h (Nat.not_lt_zero _), hb⟩
      case round =>
        clear hb
        obtain ⟨i, hi, rfl, hno, hb⟩ := hrel
        have HNO := Lib.hid hno
        clear hno
        obtain ⟨q0, q1, q2⟩ := Q.out wr hb
        by_cases hlt : i < ms.length
        · obtain ⟨b1, o1, rfl, hbl, hcell⟩ := (HM.out.below (BB.out _ hb)).at hlt
          obtain ⟨C, cc, c0, c1, c2, hcc, hC⟩ := hcell i hlt
          have HB := Lib.hid (fun h => N4.out C4.out (anyT hlt h))
          have HN := Lib.hid (fun h => all_up (P := fun m => kindB m = false) hlt HNO.out h)
          clear hcell hC
          generalize ms[i] = mi at *
          have K1 := Lib.hid (fun (h : ¬ mi.tag.size = 0) => show kindB mi = false from by simp [kindB, h])
          have K2 := Lib.hid (fun (h : mi.to.length = 1) => show kindB mi = false from by simp [kindB, h])
          have K3 := Lib.hid (fun (h : mi.to.length = 2) => show kindB mi = false from by simp [kindB, h])
          have K4 := Lib.hid (fun (h : mi.tag.size = 0) (h1 : ¬ mi.to.length = 1) (h2 : ¬ mi.to.length = 2) => show kindB mi = true from by simp [kindB, h, h1, h2])
          generalize kindB mi = kb at *
          obtain ⟨mf, mt, mg⟩ := mi
          dsimp only at *
          clear HM
          have hb2 := hb.trans (((Below.refl wr.heap.size wr).alloc (Nat.le_refl _) (.cells #[.int .i64 mf, .slice C mt.length cc, .string mg] 40)).mono hb.size)
          by_cases hg : mg.size = 0
          · have g0 : mg.toList = [] := str_nil hg
            by_cases h1 : mt.length = 1
            · have HQ := Lib.hid (HN.out (K2.out h1))
              have d1 : (mt.length : Int) = 1 := by omega
              clear h1
              go_wp2_with fail
              go_roundw
              case rel => exact ⟨i + 1, by omega, by go_num, HQ.out, hb2⟩
              case measure => simp [intOf]; omega
            · have d1 : ((mt.length : Int) != 1) = true := by simp; omega
              by_cases h2 : mt.length = 2
              · have HQ := Lib.hid (HN.out (K3.out h2))
                have d2 : ((mt.length : Int) != 2) = false := by simp; omega
                have hb2' := Lib.hid hb2
                clear h2
                go_wp2_with fail
                go_roundw
                case rel => exact ⟨i + 1, by omega, by go_num, HQ.out, hb2⟩
                case measure => simp [intOf]; omega
              · have HR := Lib.hid (HB.out (K4.out hg h1 h2))
                have d2 : ((mt.length : Int) != 2) = true := by simp; omega
                go_wp2_with fail
                go_ret
                exact ⟨ret_int HR.out.symm, BB.out _ hb2⟩
          · have g0 : ¬ mg.toList = [] := str_cons hg
            have g1 : mg.toList.isEmpty = false := by simpa using g0
            have HQ := Lib.hid (HN.out (K1.out hg))
            go_wp2_with fail
            go_roundw
            case rel => exact ⟨i + 1, by omega, by go_num, HQ.out, hb2⟩
            case measure => simp [intOf]; omega
        · have C5 := Lib.hid (show Ck5 ⟨ss, ms, rs⟩ from ⟨C4.out, show ms.any kindB = false from anyF (fun t ht => HNO.out t ht (by omega))⟩)
          have C4' := Lib.hid (show Ck4 ⟨ss, ms, rs⟩ from C4.out)
          clear C4 N4 HNO
          have N5' := Lib.hid (fun h => N5.out C5.out h)
          clear N5
          go_wp2_with fail
          clear q0 q1 q2
          have B1 : W0.heap.size ≤ W0.heap.size := Nat.le_refl _
          go_loopw [8, 76] (fun v u wr => ∃ (i c : Nat) (B : Option Addr), i ≤ ms.length ∧ u = .int .i64 i ∧ v = .slice B (taggedM (ms.take i)).length c ∧ wr.ownsRow W0.heap.size 3 1 (.slice B (taggedM (ms.take i)).length c) (taggedM (ms.take i)).length ((taggedM (ms.take i)).map (Value.int .i64)) ∧
            (∀ t, (ht : t < ms.length) → t < i → Hg.kind ms[t].frm = 0) ∧ Below W0.heap.size W0 wr) (fun _ u _ => ms.length - (intOf u).toNat)
          case atStart => exact ⟨0, 0, none, Nat.zero_le _, rfl, rfl, World.ownsRow_nil _ _ _ _, fun t _ h => absurd h (Nat.not_lt_zero _), hb⟩
          case round =>
            clear hb
            obtain ⟨i, c, B, hi, rfl, rfl, hown, hno, hb⟩ := hrel
            have HNO := Lib.hid hno
            have HOWN := Lib.hid hown
            clear hno hown
            obtain ⟨q0, q1, q2⟩ := Q.out wr hb
            by_cases hlt : i < ms.length
            · obtain ⟨b1, o1, rfl, hbl, hcell⟩ := (HM.out.below (BB.out _ hb)).at hlt
              obtain ⟨C, cc, c0, c1, c2, hcc, hC⟩ := hcell i hlt
              have HB := Lib.hid (fun h => N5'.out (datB_kind hlt h))
              have HN := Lib.hid (fun h => all_up (P := fun m => Hg.kind m.frm = 0) hlt HNO.out h)
              have HT := Lib.hid (taggedM_take hlt)
              have hTL := taggedM_len (ms.take i)
              rw [List.length_take] at hTL
              clear hcell hC
              generalize ms[i] = mi at *
              obtain ⟨mf, mt, mg⟩ := mi
              dsimp only at *
              clear HM
              have hb2 := hb.trans (((Below.refl wr.heap.size wr).alloc (Nat.le_refl _) (.cells #[.int .i64 mf, .slice C mt.length cc, .string mg] 40)).mono hb.size)
              have HOWNa := Lib.hid (own_keep HOWN.out ((Below.refl wr.heap.size wr).alloc (Nat.le_refl _) (.cells #[.int .i64 mf, .slice C mt.length cc, .string mg] 40)))
              generalize hka : Hg.kind mf = ka at *
              have HK := Lib.hid hka
              clear hka
              have KF := Lib.hid (KC.out mf)
              rw [HK.out] at KF
              by_cases hk0 : ka = 0
              · have HQ := Lib.hid (HN.out hk0)
                subst hk0
                by_cases hg : mg.size = 0
                · have g0 : mg.toList = [] := str_nil hg
                  have hT := HT.out
                  rw [if_pos hg, List.append_nil] at hT
                  have HT2 := Lib.hid hT
                  clear hT
                  go_wp2_with (go_at_call 17; refine (KF.out _).mono ?_; rintro e w' ⟨rfl, rfl⟩)
                  go_roundw
                  case rel => exact ⟨i + 1, c, B, by omega, by go_num, by rw [HT2.out], by rw [HT2.out]; exact HOWNa.out, HQ.out, hb2⟩
                  case measure => simp [intOf]; omega
                · have g0 : ¬ mg.toList = [] := str_cons hg
                  have g1 : mg.toList.isEmpty = false := by simpa using g0
                  have hT := HT.out
                  rw [if_neg hg] at hT
                  have HT2 := Lib.hid hT
                  clear hT
                  go_wp2_with (first | (go_at_call 17; refine (KF.out _).mono ?_; rintro e w' ⟨rfl, rfl⟩) | (at_builtin; (refine wpList_app _ _ 24 3 (.int .i64 0) 1 8 rfl rfl Tryd.underlying24 info_int rfl (by decide) (by decide) rfl (HOWNa.out.alloc _) rfl (Sl_new (wr.alloc (.cells #[.int .i64 mf, .slice C mt.length cc, .string mg] 40)) [.int .i64 mf] 3 (by simp)) (by simp) (oneCell_ints [mf]) (by omega) (by have := hb2.size; simp at this ⊢; omega) ?_); intro B1 c1' w1 hown1 hc1' hb1 hg1 hB1))
                  have hb3 := hb2.trans ((((Below.refl _ _).alloc (Nat.le_refl _) _).mono hb2.size).trans hb1)
                  go_roundw
                  case rel =>
                    refine ⟨i + 1, c1', B1, by omega, by go_num, ?_, ?_, HQ.out, hb3⟩
                    · rw [HT2.out, List.length_append]; rfl
                    · rw [HT2.out, List.length_append, List.map_append]; exact hown1
                  case measure => simp [intOf]; omega
              · have HR := Lib.hid (HB.out hk0)
                go_wp2_with (go_at_call 17; refine (KF.out _).mono ?_; rintro e w' ⟨rfl, rfl⟩)
                go_ret
                exact ⟨ret_int HR.out.symm, BB.out _ hb2⟩
            · obtain rfl : i = ms.length := by omega
              have hT : taggedM (ms.take ms.length) = taggedM ms := by rw [List.take_length]
              have hTL := taggedM_len ms
              have HI : Ints wr B (taggedM ms) := by rw [hT] at HOWN; exact Sl.of_own HOWN.out
              rw [hT]
              have HA := Lib.hid (fun (h : rns (clz ss) (taggedM ms) 0 none = []) => show Ck6 ⟨ss, ms, rs⟩ from ⟨C5.out, show ms.any (datB ss) = false from datB_of (fun t ht => HNO.out t ht ht) h⟩)
              have HD := Lib.hid (fun (h : ¬ rns (clz ss) (taggedM ms) 0 none = []) => N5'.out (datB_yes h))
              have RR := Lib.hid (RC.out B (taggedM ms).length c (taggedM ms) wr (BB.out _ hb) HI rfl (by omega))
              clear HI HOWN hT
              generalize taggedM ms = tg at *
              generalize rns (clz ss) tg 0 none = rr at *
              go_wp2_with fail
              with_reducible refine RR.out.mono ?_
              rintro e W4 ⟨A4, c4, rfl, hc4, hA4, hb4⟩
              replace hb4 := hb.trans (hb4.mono hb.size)
              clear q0 q1 q2
              obtain ⟨q0, q1, q2⟩ := Q.out W4 hb4
              by_cases hr0 : rr = []
              · have C6 := Lib.hid (HA.out hr0)
                have hl : rr.length = 0 := by rw [hr0]; rfl
                have MM := Lib.hid (ME.out W4 (BB.out _ hb4) (StF_of C4'.out.t) (mapErr_codes C4'.out.m) (NoHg_of C6.out.d))
                have FIN := Lib.hid (fun cyc lng (h : MeasOk ms cyc lng) => show r = if cyc = true then 12 else if lng = true then 13 else 0 from by
                  have h1 := h.cyc (StF_of C4'.out.t) (NoHg_of C6.out.d)
                  rw [N6.out C6.out]
                  cases he : endB ms with
                  | false => rw [he] at h1; subst h1; rfl
                  | true => rw [he] at h1; subst h1; rw [h.lng (StF_of C4'.out.t) (NoHg_of C6.out.d) he]; simp)
                clear hr0
                rw [hl]
                go_wp2_with fail
                with_reducible refine MM.out.mono ?_
                rintro e W5 ⟨cyc, lng, rfl, hok, hb5⟩
                replace hb5 := hb4.trans (hb5.mono hb4.size)
                have HF := Lib.hid (FIN.out cyc lng hok)
                clear q0 q1 q2 hok FIN MM
                cases cyc with
                | true =>
                  go_wp2_with fail
                  go_ret
                  exact ⟨ret_int HF.out.symm, BB.out _ hb5⟩
                | false =>
                  cases lng with
                  | true =>
                    go_wp2_with fail
                    go_ret
                    exact ⟨ret_int HF.out.symm, BB.out _ hb5⟩
                  | false =>
                    go_wp2_with fail
                    go_ret
                    exact ⟨ret_int HF.out.symm, BB.out _ hb5⟩
              · have HR := Lib.hid (HD.out hr0)
                have hl : 0 < rr.length := List.length_pos_iff.2 hr0
                have hl2 : decide ((0 : Int) < (rr.length : Int)) = true := by simp; omega
                go_wp2_with fail
                go_ret
                exact ⟨ret_int HR.out.symm, BB.out _ hb4⟩
end Go.Proofs.YtjglanjfgbipmaaDoor
/- Contracts of the reference's find and ends over mappings. -/
namespace Go.Proofs.YtjglanjfgbipmaaDoor
open Go.RowKit Go.Maps Go.WideMaps

/-- the index of a number's mapping, or -1 -/
def fndV (ms : List Mp) (compat : Bool) (c : Int) : Int := match fndM ms compat c with | some i => (i : Int) | none => -1
def hitM (compat : Bool) (c : Int) (m : Mp) : Bool := decide (m.frm = c) && (compat || decide (m.tag.size = 0))
theorem fnd_hit {ms : List Mp} {compat : Bool} {c : Int} {i : Nat} (hi : i < ms.length) (h : hitM compat c ms[i] = true) (hno : ∀ t, (ht : t < ms.length) → t < i → hitM compat c ms[t] = false) : fndV ms compat c = i := by
  have : fndM ms compat c = some i := by
    unfold fndM
    rw [List.findIdx?_eq_some_iff_getElem]
    exact ⟨hi, h, fun j hj => by have := hno j (by omega) hj; unfold hitM at this; rw [Bool.not_eq_true]; exact this⟩
  unfold fndV
  rw [this]
theorem fnd_miss {ms : List Mp} {compat : Bool} {c : Int} (hno : ∀ t, (ht : t < ms.length) → hitM compat c ms[t] = false) : fndV ms compat c = -1 := by
  have : fndM ms compat c = none := by
    unfold fndM
    rw [List.findIdx?_eq_none_iff]
    intro m hm
    obtain ⟨i, hi, rfl⟩ := List.getElem_of_mem hm
    exact hno i hi
  unfold fndV
  rw [this]
theorem fndV_bd {ms : List Mp} (compat : Bool) (c : Int) : -1 ≤ fndV ms compat c ∧ fndV ms compat c < ms.length := by
  unfold fndV
  cases h : fndM ms compat c with
  | none => dsimp only; omega
  | some i => obtain ⟨hi, _⟩ := fndM_at h; dsimp only; omega

/-! ends -/
theorem info_bool : (Tryd.prog.info? 4).map (fun i => (i.zero, i.size, i.bytes)) = some (some (.bool false), 1, 1) := by kernel_rfl
/-- n times v -/
def repV (n : Nat) (v : Value) : List Value := List.replicate n v
theorem made_rep (v : Value) (hv : v.cells = #[v]) (n : Nat) : madeCells v.cells n = (repV n v).toArray := by
  rw [hv]
  unfold repV
  apply Array.ext
  · simp [madeCells]
  · intro i h1 h2
    simp [madeCells, Nat.mod_one]
theorem mk_ints (n : Nat) (hn : n ≤ 1048576) (W : World) : (Instr.makeSlice 24 (.int .i64 n) (.int .i64 n)).run Tryd.prog W = .ok (.slice (some ⟨W.heap.size, 0, none⟩) n n) (W.alloc (.cells (repV n (Value.int .i64 0)).toArray 3)) := by
  obtain ⟨i, hi, hz, hsize, hbytes⟩ := info_parts info_int
  have := run_make (P := Tryd.prog) W 24 3 i (.int .i64 0) Tryd.underlying24 hi hz .i64 .i64 n n (by omega) (by omega) (by rw [hbytes]; omega) (by omega)
  rw [this, hsize]
  simp only [Int.toNat_natCast, Nat.mul_one, made_rep (.int .i64 0) rfl]
/-- a slice of these booleans is returned -/
def RetBools (T : List Bool) (w : World) (e : Ending) (w' : World) : Prop := ∃ A c, e = .returned (.slice A T.length c) ∧ T.length ≤ c ∧ Sl w' A (T.map Value.bool) ∧ Below w.heap.size w w'
theorem Box.sl {w : World} {b : Nat} {t : TypeId} {cs : List Value} (h : Box w b t cs) : Sl w (some ⟨b, 0, none⟩) cs := fun _ => ⟨b, 0, rfl, fun j u hu => by rw [Nat.zero_add]; exact h.cell hu⟩
theorem endFold_len (to : Nat → List Int) (fnd : Int → Option Nat) (s : List Nat) : ∀ T : List Bool, (s.foldl (endStep to fnd) T).length = T.length := by
  induction s with
  | nil => intro T; rfl
  | cons x s ih => intro T; exact (ih _).trans (by simp [endStep])
theorem endE_k {to : List Int} {fnd : Int → Option Nat} {T : List Bool} {k : Nat} (hk : k < to.length) : (to.take (k + 1)).all (fun e => match fnd e with | none => true | some m => T.getD m false) = ((to.take k).all (fun e => match fnd e with | none => true | some m => T.getD m false) && (match fnd to[k] with | none => true | some m => T.getD m false)) := by
  rw [List.take_succ_eq_append_getElem hk, List.all_append]
  simp
end Go.Proofs.YtjglanjfgbipmaaDoor
/- Contracts of the reference's ends and lengths of mappings. -/
namespace Go.Proofs.YtjglanjfgbipmaaDoor
open Go.RowKit Go.Maps Go.WideMaps

theorem fndV_cases (ms : List Mp) (compat : Bool) (c : Int) : (fndM ms compat c = none ∧ fndV ms compat c = -1) ∨ ∃ m : Nat, m < ms.length ∧ fndM ms compat c = some m ∧ fndV ms compat c = (m : Int) := by
  unfold fndV
  cases h : fndM ms compat c with
  | none => exact .inl ⟨rfl, rfl⟩
  | some i => obtain ⟨hi, _⟩ := fndM_at h; exact .inr ⟨i, hi, rfl, rfl⟩
def allE (fnd : Int → Option Nat) (T : List Bool) (l : List Int) : Bool := l.all (fun e => match fnd e with | none => true | some m => T.getD m false)

end Go.Proofs.YtjglanjfgbipmaaDoor
/- The contract of the reference's lengths of mappings. -/
namespace Go.Proofs.YtjglanjfgbipmaaDoor
open Go.RowKit Go.Maps Go.WideMaps

/-- a slice of ints is returned -/
def LenB (L : List Int) : Prop := ∀ x ∈ L, 0 ≤ x ∧ x ≤ 65
theorem LenB.getD {L : List Int} (h : LenB L) (i : Nat) : 0 ≤ L.getD i 0 ∧ L.getD i 0 ≤ 65 := by
  by_cases hi : i < L.length
  · have := h _ (List.getElem_mem hi)
    simpa [List.getD, hi] using this
  · simp [List.getD, Nat.le_of_not_lt hi]
theorem dlM_bd (e : Int) : 0 ≤ dlM e ∧ dlM e ≤ 3 := by
  unfold dlM
  by_cases h4 : 4 ≤ Hg.kind e
  · have := (decomp_kids h4).1; omega
  · rw [decomp_no (by omega)]; simp
theorem lenE_bd {L : List Int} (h : LenB L) (fnd : Int → Option Nat) (e : Int) : 0 ≤ lenE fnd dlM L e ∧ lenE fnd dlM L e ≤ 65 := by
  unfold lenE
  cases fnd e with
  | none => have := dlM_bd e; dsimp only; omega
  | some m => exact h.getD m
theorem lenV_bd {L : List Int} {to : Nat → List Int} {fnd : Int → Option Nat} (i : Nat) : 0 ≤ lenV to fnd dlM capE L i ∧ lenV to fnd dlM capE L i ≤ 65 := by unfold lenV capE; omega
theorem LenB.step {L : List Int} (h : LenB L) (to : Nat → List Int) (fnd : Int → Option Nat) (skip : Nat → Bool) (i : Nat) : LenB (lenStep to fnd dlM capE skip L i) := by
  intro x hx
  unfold lenStep at hx
  rcases List.mem_or_eq_of_mem_set hx with hx | hx
  · exact h x hx
  · subst hx
    split
    · omega
    · exact lenV_bd i
theorem LenB.fold (to : Nat → List Int) (fnd : Int → Option Nat) (skip : Nat → Bool) (s : List Nat) : ∀ {L : List Int}, LenB L → LenB (s.foldl (lenStep to fnd dlM capE skip) L) := by
  induction s with
  | nil => intro L h; exact h
  | cons x s ih => intro L h; exact ih (h.step to fnd skip x)
theorem lenFold_len (to : Nat → List Int) (fnd : Int → Option Nat) (skip : Nat → Bool) (s : List Nat) : ∀ L : List Int, (s.foldl (lenStep to fnd dlM capE skip) L).length = L.length := by
  induction s with
  | nil => intro T; rfl
  | cons x s ih => intro T; exact (ih _).trans (by simp [lenStep])
theorem lnds_ok (ms : List Mp) (compat : Bool) (r : Nat) : (lnds ms compat r).length = ms.length ∧ LenB (lnds ms compat r) := by
  induction r with
  | zero => exact ⟨by simp [lnds], fun x hx => by rw [List.eq_of_mem_replicate hx]; omega⟩
  | succ r ih => exact ⟨by rw [lnds, lenFold_len, ih.1], ih.2.fold _ _ _ _⟩
def sumE (fnd : Int → Option Nat) (L : List Int) (l : List Int) : Int := (l.map (lenE fnd dlM L)).sum
theorem sumE_k {to : List Int} {fnd : Int → Option Nat} {L : List Int} {k : Nat} (hk : k < to.length) : sumE fnd L (to.take (k + 1)) = sumE fnd L (to.take k) + lenE fnd dlM L to[k] := by
  unfold sumE
  rw [List.take_succ_eq_append_getElem hk, List.map_append, List.sum_append]
  simp
theorem sumE_bd {L : List Int} (h : LenB L) (fnd : Int → Option Nat) (l : List Int) : 0 ≤ sumE fnd L l ∧ sumE fnd L l ≤ 65 * l.length := by
  unfold sumE
  induction l with
  | nil => simp
  | cons x l ih =>
    have := lenE_bd h fnd x
    rw [List.map_cons, List.sum_cons, List.length_cons]
    omega

end Go.Proofs.YtjglanjfgbipmaaDoor
/- The contract of the reference's Check of normalization data. Written by gen_rdcheck.py. -/
namespace Go.Proofs.YtjglanjfgbipmaaDoor
open Go.RowKit Go.Maps Go.WideMaps

theorem fndV_le {ms : List Mp} {c : Int} {j : Nat} (hj : j < ms.length) (h : ms[j].frm = c) : 0 ≤ fndV ms true c ∧ fndV ms true c ≤ j := by
  unfold fndV
  cases hf : fndM ms true c with
  | none => exact absurd hf (by
      unfold fndM
      rw [List.findIdx?_eq_none_iff]
      intro g
      have := g _ (List.getElem_mem hj)
      simp [h] at this)
  | some i =>
    refine ⟨by dsimp only; omega, ?_⟩
    unfold fndM at hf
    rw [List.findIdx?_eq_some_iff_getElem] at hf
    obtain ⟨hi, _, h3⟩ := hf
    dsimp only
    rcases Nat.lt_or_ge j i with g | g
    · have := h3 j g; simp [h] at this
    · omega
theorem stB_found {ms : List Mp} {i : Nat} (hi : i < ms.length) (h : fndV ms true ms[i].frm < i) : stB ms = false := by
  rcases fndV_cases ms true ms[i].frm with ⟨h1, h2⟩ | ⟨m, hm, h1, h2⟩
  · have := (fndV_le hi rfl).1; omega
  · obtain ⟨_, g, _⟩ := fndM_at h1
    exact stB_no hm hi (by omega) g.symm
theorem stB_notfound {ms : List Mp} (h : mapErr ms = 0) (hno : ∀ t, (ht : t < ms.length) → ¬ fndV ms true ms[t].frm < t) : stB ms = true :=
  stB_of h (fun k hk g => by
    have h1 := hno (k + 1) hk
    have h2 := (fndV_le (j := k) (c := ms[k + 1].frm) (by omega) g.symm).2
    omega)

end Go.Proofs.YtjglanjfgbipmaaDoor
/- Contracts of usable, of the reference's Data and Counted: the data where it is valid, else empty data. -/
namespace Go.Proofs.YtjglanjfgbipmaaDoor
open Go.RowKit Go.Maps Go.WideMaps

/-- data of normalization is returned -/
def RetNrm (x : Nrm) (w : World) (e : Ending) (w' : World) : Prop := ∃ A0 k0 A1 k1 A2 k2, e = .returned (.agg #[.slice A0 x.cls.length k0, .slice A1 x.dec.length k1, .slice A2 x.exc.length k2]) ∧ NrmAt w' A0 x.cls.length A1 x.dec.length A2 x.exc.length x ∧ Below w.heap.size w w'
theorem results_nrm {fn : Func} (hr : fn.results = #[.cell 2 35]) (tmps : Array Value) (w : World) {b : Nat} {v0 v1 v2 : Value} (ha : tmps.getD 2 undef = .pointer (some ⟨b, 0, none⟩))
    (c0 : w.cell? ⟨b, 0, none⟩ = some v0) (c1 : w.cell? ⟨b, 1, none⟩ = some v1) (c2 : w.cell? ⟨b, 2, none⟩ = some v2) :
    (results fn tmps).run Tryd.prog w = .ok (.agg #[v0, v1, v2]) w := by
  unfold results
  rw [hr]
  simp only [ha, List.mapM_toArray, List.mapM_cons, List.mapM_nil, asAddr]
  go_simp
theorem NrmAt.empty (w : World) : NrmAt w none 0 none 0 none 0 ⟨[], [], []⟩ := ⟨Sl.nil _ _, Mps.nil _ _, Sl.nil _ _, rfl, rfl, rfl⟩
theorem usN_bad {x : Nrm} (h : ¬ nErr x = 0) : usN x = ⟨[], [], []⟩ := if_neg h
theorem usN_good {x : Nrm} (h : nErr x = 0) : usN x = x := if_pos h
/-- what usable returns -/
def usV (x : Nrm) (A0 : Option Addr) (k0 : Nat) (A1 : Option Addr) (k1 : Nat) (A2 : Option Addr) (k2 : Nat) : Value := if nErr x = 0 then .agg #[.slice A0 x.cls.length k0, .slice A1 x.dec.length k1, .slice A2 x.exc.length k2] else .agg #[.slice none 0 0, .slice none 0 0, .slice none 0 0]
theorem usV_bad {x : Nrm} (A0 : Option Addr) (k0 : Nat) (A1 : Option Addr) (k1 : Nat) (A2 : Option Addr) (k2 : Nat) (h : ¬ nErr x = 0) : usV x A0 k0 A1 k1 A2 k2 = .agg #[.slice none 0 0, .slice none 0 0, .slice none 0 0] := if_neg h
theorem usV_good {x : Nrm} (A0 : Option Addr) (k0 : Nat) (A1 : Option Addr) (k1 : Nat) (A2 : Option Addr) (k2 : Nat) (h : nErr x = 0) : usV x A0 k0 A1 k1 A2 k2 = .agg #[.slice A0 x.cls.length k0, .slice A1 x.dec.length k1, .slice A2 x.exc.length k2] := if_pos h
theorem usV_at {w : World} {A0 : Option Addr} {n0 : Nat} {A1 : Option Addr} {n1 : Nat} {A2 : Option Addr} {n2 : Nat} {x : Nrm} (h : NrmAt w A0 n0 A1 n1 A2 n2 x) (k0 k1 k2 : Nat) : ∃ B0 c0 B1 c1 B2 c2, usV x A0 k0 A1 k1 A2 k2 = .agg #[.slice B0 (usN x).cls.length c0, .slice B1 (usN x).dec.length c1, .slice B2 (usN x).exc.length c2] ∧
    ∀ W, Below w.heap.size w W → NrmAt W B0 (usN x).cls.length B1 (usN x).dec.length B2 (usN x).exc.length (usN x) := by
  by_cases hc : nErr x = 0
  · rw [usN_good hc, usV_good _ _ _ _ _ _ hc]
    exact ⟨_, _, _, _, _, _, rfl, fun W hb => ⟨h.s0.below hb, h.s1.below hb, h.s2.below hb, rfl, rfl, rfl⟩⟩
  · rw [usN_bad hc, usV_bad _ _ _ _ _ _ hc]
    exact ⟨none, 0, none, 0, none, 0, rfl, fun W _ => NrmAt.empty W⟩
theorem NrmSz.us {x : Nrm} (h : NrmSz x) : NrmSz (usN x) := by
  unfold usN
  split
  · exact h
  · exact ⟨by simp, ⟨by simp, fun i hi => by simp at hi⟩, by simp⟩

set_option maxRecDepth 100000 in
set_option maxHeartbeats 1600000 in
theorem cpUsable_eq (A0 : Option Addr) (n0 k0 : Nat) (A1 : Option Addr) (n1 k1 : Nat) (A2 : Option Addr) (n2 k2 : Nat) (x : Nrm) (w : World) (hN : NrmAt w A0 n0 A1 n1 A2 n2 x) (hz : NrmSz x) (hL : Laid w) :
    Calls Tryd.prog 13 #[.agg #[.slice A0 n0 k0, .slice A1 n1 k1, .slice A2 n2 k2]] w (fun e w' => e = .returned (usV x A0 k0 A1 k1 A2 k2) ∧ Below w.heap.size w w') := by
  obtain ⟨hS, hM, hR, rfl, rfl, rfl⟩ := hN
  have B0 : Below w.heap.size w ((w.alloc (.cells #[.slice A0 x.cls.length k0, .slice A1 x.dec.length k1, .slice A2 x.exc.length k2] 35)).alloc (.cells #[.slice none 0 0, .slice none 0 0, .slice none 0 0] 35)) := ((Below.refl _ _).alloc (Nat.le_refl _) _).alloc (by simp) _
  have X0 : Box ((w.alloc (.cells #[.slice A0 x.cls.length k0, .slice A1 x.dec.length k1, .slice A2 x.exc.length k2] 35)).alloc (.cells #[.slice none 0 0, .slice none 0 0, .slice none 0 0] 35)) w.heap.size 35 [.slice A0 x.cls.length k0, .slice A1 x.dec.length k1, .slice A2 x.exc.length k2] :=
    (Box.new w _ [.slice A0 x.cls.length k0, .slice A1 x.dec.length k1, .slice A2 x.exc.length k2] rfl).below (B := w.heap.size + 1) ((Below.refl _ _).alloc (by simp) _) (by omega)
  have X1 : Box ((w.alloc (.cells #[.slice A0 x.cls.length k0, .slice A1 x.dec.length k1, .slice A2 x.exc.length k2] 35)).alloc (.cells #[.slice none 0 0, .slice none 0 0, .slice none 0 0] 35)) (w.heap.size + 1) 35 [.slice none 0 0, .slice none 0 0, .slice none 0 0] := Box.new _ _ _ (by simp)
  have W0E : ∃ W0, ((w.alloc (.cells #[.slice A0 x.cls.length k0, .slice A1 x.dec.length k1, .slice A2 x.exc.length k2] 35)).alloc (.cells #[.slice none 0 0, .slice none 0 0, .slice none 0 0] 35)) = W0 := ⟨_, rfl⟩
  have hN : ∀ W, Below w.heap.size w W → NrmAt W A0 x.cls.length A1 x.dec.length A2 x.exc.length x := fun W hb => ⟨hS.below hb, hM.below hb, hR.below hb, rfl, rfl, rfl⟩
  have CC := Lib.hid (fun W (hb : Below w.heap.size w W) => dCheck_any A0 x.cls.length k0 A1 x.dec.length k1 A2 x.exc.length k2 x W (hN W hb) hz (hL.below hb))
  have UB := Lib.hid (usV_bad (x := x) A0 k0 A1 k1 A2 k2)
  have UG := Lib.hid (usV_good (x := x) A0 k0 A1 k1 A2 k2)
  clear hN hS hM hR hz
  generalize hu : usV x A0 k0 A1 k1 A2 k2 = y at *
  generalize hc : nErr x = c at *
  clear hu hc
  go_enter Tryd.func13, Tryd.ntmps13
  go_wp2_with fail
  obtain ⟨W0, hW0⟩ := W0E
  rw [hW0] at B0 X0 X1 ⊢
  clear hW0
  have s0 := X0.lt
  have s1 := X1.lt
  have c0 := X0.cell (i := 0) rfl
  have c1 := X0.cell (i := 1) rfl
  have c2 := X0.cell (i := 2) rfl
  go_wp2_with fail
  with_reducible refine (CC.out _ B0).mono ?_
  rintro e W1 ⟨rfl, hb1⟩
  have Y0 := X0.below hb1 s0
  have Y1 := X1.below hb1 s1
  have B1 := B0.trans (hb1.mono B0.size)
  clear c0 c1 c2 X0 X1 B0 hb1
  have c0 := Y0.cell (i := 0) rfl
  have c1 := Y0.cell (i := 1) rfl
  have c2 := Y0.cell (i := 2) rfl
  have d0 := Y1.cell (i := 0) rfl
  have d1 := Y1.cell (i := 1) rfl
  have d2 := Y1.cell (i := 2) rfl
  have f0 := Y1.free 0
  have f1 := Y1.free 1
  have f2 := Y1.free 2
  have HB := Lib.hid (fun (u0 u1 u2 : Value) => show Below w.heap.size w (((W1.setCell ⟨w.heap.size + 1, 0, none⟩ u0).setCell ⟨w.heap.size + 1, 1, none⟩ u1).setCell ⟨w.heap.size + 1, 2, none⟩ u2) from ((B1.setCell (by simp) _).setCell (by simp) _).setCell (by simp) _)
  by_cases h0 : c = 0
  · have HY := Lib.hid (UG.out h0)
    subst h0
    go_wp2_with fail
    (try simp only [Exit.inBlock, Exit.then]); refine bodyPost_ret (results_nrm rfl _ _ (b := w.heap.size + 1) (v0 := .slice A0 x.cls.length k0) (v1 := .slice A1 x.dec.length k1) (v2 := .slice A2 x.exc.length k2) rfl (by go_simp) (by go_simp) (by go_simp)) rfl ?_
    exact ⟨by rw [HY.out], HB.out _ _ _⟩
  · have HY := Lib.hid (UB.out h0)
    have h1 : (c != 0) = true := by simpa using h0
    go_wp2_with fail
    (try simp only [Exit.inBlock, Exit.then]); refine bodyPost_ret (results_nrm rfl _ _ (b := w.heap.size + 1) (v0 := .slice none 0 0) (v1 := .slice none 0 0) (v2 := .slice none 0 0) rfl (by go_simp) (by go_simp) (by go_simp)) rfl ?_
    exact ⟨by rw [HY.out], HB.out _ _ _⟩

theorem cpUsable_any (A0 : Option Addr) (n0 k0 : Nat) (A1 : Option Addr) (n1 k1 : Nat) (A2 : Option Addr) (n2 k2 : Nat) (x : Nrm) (w : World) (hN : NrmAt w A0 n0 A1 n1 A2 n2 x) (hz : NrmSz x) (hL : Laid w) :
    Calls Tryd.prog 13 #[.agg #[.slice A0 n0 k0, .slice A1 n1 k1, .slice A2 n2 k2]] w (RetNrm (usN x) w) := by
  obtain ⟨B0, c0, B1, c1, B2, c2, h1, h2⟩ := usV_at hN k0 k1 k2
  refine (cpUsable_eq A0 n0 k0 A1 n1 k1 A2 n2 k2 x w hN hz hL).mono ?_
  rintro e w' ⟨rfl, hb⟩
  exact ⟨B0, c0, B1, c1, B2, c2, by rw [h1], h2 w' hb, hb⟩

end Go.Proofs.YtjglanjfgbipmaaDoor
/- Ranging over a map that is known asq a partial function; maps whose keys are pairs of ints. -/
namespace Go.Proofs.YtjglanjfgbipmaaDoor
open Go.RowKit Go.Maps Go.WideMaps

/-- a loop over the map in block b is under way; the keys x with L x are still to come -/
def MRange {κ : Type} (P : Program) (k : TypeId) (kl : κ → Lit) (ok : κ → Prop) (w : World) (b r n : Nat) (f : κ → Option Value) (L : κ → Prop) (cnt : Nat) : Prop :=
  ∃ (D : DataW Value) (left : Lit → Bool), w.ranges P k elemV b r n D left cnt ∧ (∀ x, ok x → Maps.has D (kl x) = (f x).isSome ∧ ∀ z, D.atKey (kl x) (.held z) = .held ((f x).getD z)) ∧ ∀ x, ok x → (left (kl x) = true ↔ L x)

section
variable {κ : Type} {P : Program} {k : TypeId} {kl : κ → Lit} {ok : κ → Prop} {w w' : World} {b r n cnt : Nat} {f : κ → Option Value} {L : κ → Prop}
theorem MRange.kept {row : Option Nat} (h : MRange P k kl ok w b r n f L cnt) (hg : w.grownBy w' row) (hb : some b ≠ row) (hr : some r ≠ row) : MRange P k kl ok w' b r n f L cnt := by
  obtain ⟨D, left, h1, h2⟩ := h
  exact ⟨D, left, h1.kept hg hb hr, h2⟩
theorem grown_of_below (hb : Below w.heap.size w w') : w.grownBy w' none := ⟨hb.os, hb.tape, hb.output, hb.size, fun k hk _ => hb.block k hk⟩
theorem MRange.below (h : MRange P k kl ok w b r n f L cnt) (hb : Below w.heap.size w w') : MRange P k kl ok w' b r n f L cnt := h.kept (grown_of_below hb) (by simp) (by simp)
theorem MRange.left_eq (h : MRange P k kl ok w b r n f L cnt) : w.rangeLeft b r = cnt := by
  obtain ⟨D, left, h1, _⟩ := h
  exact h1.left_eq
theorem MRange.cnt_le (h : MRange P k kl ok w b r n f L cnt) : cnt ≤ n := by
  obtain ⟨D, left, ⟨es, clock, since, seen, c0, _, _, hs, _, _, _, hc, _⟩, _⟩ := h
  rw [← hc]
  exact Nat.le_trans (by unfold leftOf; exact Array.size_filter_le) hs
theorem MRange.lt (h : MRange P k kl ok w b r n f L cnt) : r < w.heap.size ∧ b < w.heap.size := by
  obtain ⟨D, left, h1, _⟩ := h
  exact ⟨h1.lt, h1.owns.lt⟩
end
section
variable {κ : Type} {P : Program} {w : World} {ops : Array Oper} {rest : List Oper} {o : Oper} {a : Act} {Q : Exit → Act → World → Prop}
variable {k : TypeId} {kl : κ → Lit} {ok : κ → Prop} {b n : Nat} {f : κ → Option Value}
theorem wpList_mrange (hg : o.guard = none) (m : Operand) (t : TypeId) (hop : o.op = Op.range t m) {e : TypeId} (h : MapIs P k kl ok w b n f) (K : Keyed P k) (ht : P.underlying t = some (.map k e)) (hm : a.eval m = .map (some b))
    (hK : ∀ w' cnt, MRange P k kl ok w' b w.heap.size n f (fun x => (f x).isSome = true) cnt → w.grownBy w' none → w'.heap.size = w.heap.size + 1 → wpList P ops Q rest (a.put o.dst (.pointer (some ⟨w.heap.size, 0, none⟩))) w') :
    wpList P ops Q (o :: rest) a w := by
  obtain ⟨D, h1, h2⟩ := h
  refine wpList_range_own w hg m t hop k e K ht elemV b n D hm h1 (fun w' r1 r2 r3 => hK w' _ ⟨D, _, r1, h2, fun x hx => ?_⟩ r2 r3)
  rw [(h2 x hx).1]
theorem wpList_mnext {mkK : κ → Value} (hg : o.guard = none) (it : Operand) (hop : o.op = Op.next it false) {r cnt : Nat} {L : κ → Prop} (h : MRange P k kl ok w b r n f L cnt) (K : Keyed P k)
    (inv : ∀ key l, keyOf P k key = some l → ∃ x, ok x ∧ key = mkK x ∧ l = kl x) (hinj : ∀ x y, ok x → ok y → kl x = kl y → x = y) (hL : ∀ x, ok x → L x → (f x).isSome = true) (hit : a.eval it = .pointer (some ⟨r, 0, none⟩))
    (hDone : cnt = 0 → (∀ x, ok x → ¬ L x) → wpList P ops Q rest (a.put o.dst (.tuple #[.bool false])) w)
    (hMore : ∀ x v w' cnt', ok x → L x → f x = some v → MRange P k kl ok w' b r n f (fun y => L y ∧ y ≠ x) cnt' → cnt' < cnt → w.grownBy w' (some r) → w'.heap.size = w.heap.size → (Instr.entry (.pointer (some ⟨r, 0, none⟩))).run P w' = .ok (.tuple #[mkK x, v]) w' →
      wpList P ops Q rest (a.put o.dst (.tuple #[.bool true, mkK x, v])) w') : wpList P ops Q (o :: rest) a w := by
  obtain ⟨D, left, h1, h2, h3⟩ := h
  refine wpList_plain hg fun K' hK' => ?_
  unfold Oper.wp
  rcases h1.next K o.type with ⟨h0, hl, hrun⟩ | ⟨key, v, l, y, w', cnt', hkey, hlk, hv, hat, hrun, hrg, hlt, hgr, hsz, hen⟩
  · simp [execOp, hop, hit, hrun, Result.andThen]
    exact hK' _ _ (hDone h0 (fun x hx hLx => by have := (h3 x hx).2 hLx; rw [hl] at this; cases this))
  · obtain ⟨x, hx, rfl, rfl⟩ := inv key l hkey
    have hLx := (h3 x hx).1 hlk
    have hfx : f x = some v := by
      have e1 := (h2 x hx).2 v
      rw [hat] at e1
      have e2 : y = (.held v, []) := by unfold elemV at hv; injection hv with hv; exact hv.symm
      rw [e2] at e1
      dsimp only at e1
      have hs := hL x hx hLx
      cases hf : f x with
      | none => rw [hf] at hs; cases hs
      | some u => 
        have e3 := (h2 x hx).2 (.bool true)
        rw [hat, e2, hf] at e3
        injection e3 with e3
        rw [e3]; rfl
    simp [execOp, hop, hit, hrun, Result.andThen]
    refine hK' _ _ (hMore x v w' cnt' hx hLx hfx ⟨D, _, hrg, h2, fun z hz => ?_⟩ hlt hgr hsz hen)
    rw [Bool.and_eq_true, h3 z hz]
    refine and_congr_right fun _ => ?_
    rw [Bool.not_eq_true']
    constructor
    · intro hs e
      subst e
      rw [WideAt.sameKey_self (K.key hkey)] at hs
      cases hs
    · intro hne
      cases hs : (kl z).sameKey (kl x) with
      | false => rfl
      | true => exact absurd (hinj z x hz hx (WideAt.sameKey_eq hs)) hne
end
end Go.Proofs.YtjglanjfgbipmaaDoor
