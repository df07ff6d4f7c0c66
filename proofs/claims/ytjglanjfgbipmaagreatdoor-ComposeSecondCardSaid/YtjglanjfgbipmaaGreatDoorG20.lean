/- Texts that are merged into one file: RDCheck. -/
import Derived.Test.YtjglanjfgbipmaaGreatDoorG08
import Derived.Test.YtjglanjfgbipmaaGreatDoorG17
import Derived.Test.YtjglanjfgbipmaaGreatDoorG18
import Derived.Test.YtjglanjfgbipmaaGreatDoorG19
/- The contract of the reference's Check of normalization data. Written by gen_rdcheck.py. -/
namespace Go.Proofs.YtjglanjfgbipmaaGreatDoor
open Go.RowKit Go.Maps Go.WideMaps

theorem fndV_le {ms : List Mp} {c : Int} {j : Nat} (hj : j < ms.length) (h : ms[j].frm = c) : 0 ≤ fndV ms true c ∧ fndV ms true c ≤ j := by
  unfold fndV
  cases hf : fndM ms true c with
  | none => exact absurd hf (by
      unfold fndM
      rw [List.findIdx?_eq_none_iff]
      intro g
      have := g _ (List.getElem_mem hj)
      simp [h] at this)
  | some i =>
    refine ⟨by dsimp only; omega, ?_⟩
    unfold fndM at hf
    rw [List.findIdx?_eq_some_iff_getElem] at hf
    obtain ⟨hi, _, h3⟩ := hf
    dsimp only
    rcases Nat.lt_or_ge j i with g | g
    · have := h3 j g; simp [h] at this
    · omega
theorem stB_found {ms : List Mp} {i : Nat} (hi : i < ms.length) (h : fndV ms true ms[i].frm < i) : stB ms = false := by
  rcases fndV_cases ms true ms[i].frm with ⟨h1, h2⟩ | ⟨m, hm, h1, h2⟩
  · have := (fndV_le hi rfl).1; omega
  · obtain ⟨_, g, _⟩ := fndM_at h1
    exact stB_no hm hi (by omega) g.symm
theorem stB_notfound {ms : List Mp} (h : mapErr ms = 0) (hno : ∀ t, (ht : t < ms.length) → ¬ fndV ms true ms[t].frm < t) : stB ms = true :=
  stB_of h (fun k hk g => by
    have h1 := hno (k + 1) hk
    have h2 := (fndV_le (j := k) (c := ms[k + 1].frm) (by omega) g.symm).2
    omega)

set_option maxRecDepth 100000 in
set_option maxHeartbeats 12800000 in
theorem rdCheck_any (A0 : Option Addr) (n0 k0 : Nat) (A1 : Option Addr) (n1 k1 : Nat) (A2 : Option Addr) (n2 k2 : Nat) (x : Nrm) (w : World) (hN : NrmAt w A0 n0 A1 n1 A2 n2 x) (hz : NrmSz x) :
    Calls Tryz.prog 42 #[.agg #[.slice A0 n0 k0, .slice A1 n1 k1, .slice A2 n2 k2]] w (RetInt (nErr x) w) := by
  obtain ⟨ss, ms, rs⟩ := x
  obtain ⟨hS, hM, hR, rfl, rfl, rfl⟩ := hN
  dsimp only at *
  have z0 : ss.length ≤ 1048576 := hz.z0
  have z1 : ms.length ≤ 1048576 := hz.z1.n
  have ze := Lib.hid hz.z1.e
  have z2 : rs.length ≤ 12 := hz.z2
  have CC := Lib.hid (fun W (hb : Below w.heap.size w W) => refCheck_any A0 ss.length k0 ss W (hS.below hb) rfl (by omega))
  have MC := Lib.hid (fun W (hb : Below w.heap.size w W) => refMapCheck_any A1 ms.length k1 ms W (hM.below hb) rfl hz.z1)
  have VC := Lib.hid (fun W (hb : Below w.heap.size w W) => refSetValid_any A2 rs.length k2 rs W (hR.below hb) rfl (by omega))
  have KC := Lib.hid (fun c W => refKind_any c W)
  have CLC := Lib.hid (fun c W (hb : Below w.heap.size w W) => refClass_any A0 ss.length k0 ss c W (hS.below hb) rfl (by omega))
  have FC := Lib.hid (fun c W (hb : Below w.heap.size w W) => find_any A1 ms.length k1 ms c true W (hM.below hb) rfl z1)
  have EC := Lib.hid (fun W (hb : Below w.heap.size w W) => ends_any A1 ms.length k1 ms W (hM.below hb) rfl z1 (fun i hi => (ze.out i hi).1))
  have LC := Lib.hid (fun b W (hb : Below w.heap.size w W) => lengths_any A1 ms.length k1 ms b W (hM.below hb) rfl z1 (fun i hi => (ze.out i hi).1))
  have N0 := Lib.hid (fun h => nErr_c (x := ⟨ss, ms, rs⟩) h)
  have N1 := Lib.hid (fun h1 h2 => nErr_m (x := ⟨ss, ms, rs⟩) h1 h2)
  have N2 := Lib.hid (fun h1 h2 h3 => nErr_s (x := ⟨ss, ms, rs⟩) h1 h2 h3)
  have N3 := Lib.hid (fun (c : Ck3 ⟨ss, ms, rs⟩) h => c.twice h)
  have N4 := Lib.hid (fun (c : Ck4 ⟨ss, ms, rs⟩) h => c.kind h)
  have N5 := Lib.hid (fun (c : Ck5 ⟨ss, ms, rs⟩) h => c.data h)
  have N6 := Lib.hid (fun (c : Ck6 ⟨ss, ms, rs⟩) => c.rest)
  dsimp only at N0 N1 N2 N3 N4 N5 N6
  generalize nErr ⟨ss, ms, rs⟩ = r at *
  have HM := Lib.hid hM
  clear hM hS hR hz ze
  have B0 : Below w.heap.size w (w.alloc (.cells #[.slice A0 ss.length k0, .slice A1 ms.length k1, .slice A2 rs.length k2] 28)) := (Below.refl _ _).alloc (Nat.le_refl _) _
  have X0 : Box (w.alloc (.cells #[.slice A0 ss.length k0, .slice A1 ms.length k1, .slice A2 rs.length k2] 28)) w.heap.size 28 [.slice A0 ss.length k0, .slice A1 ms.length k1, .slice A2 rs.length k2] := Box.new _ _ _ rfl
  have W0E : ∃ W0, (w.alloc (.cells #[.slice A0 ss.length k0, .slice A1 ms.length k1, .slice A2 rs.length k2] 28)) = W0 := ⟨_, rfl⟩
  go_enter Tryz.func42, Tryz.ntmps42
  go_wp2_with fail
  obtain ⟨W0, hW0⟩ := W0E
  rw [hW0] at B0 X0 ⊢
  clear hW0
  have s0 : w.heap.size < W0.heap.size := X0.lt
  have Q := Lib.hid (fun W (hb : Below W0.heap.size W0 W) => show W.cell? ⟨w.heap.size, 0, none⟩ = some (.slice A0 ss.length k0) ∧ W.cell? ⟨w.heap.size, 1, none⟩ = some (.slice A1 ms.length k1) ∧ W.cell? ⟨w.heap.size, 2, none⟩ = some (.slice A2 rs.length k2) from
    have X := X0.below hb s0
    ⟨X.cell rfl, X.cell rfl, X.cell rfl⟩)
  have BB := Lib.hid (fun W (hb : Below W0.heap.size W0 W) => B0.trans (hb.mono B0.size))
  clear X0
  with_reducible refine (CC.out _ B0).mono ?_
  rintro e W1 ⟨rfl, hb1⟩
  obtain ⟨q0, q1, q2⟩ := Q.out W1 hb1
  generalize hc : chk ss = c at *
  have HC := Lib.hid hc
  clear hc CC
  by_cases h0 : ¬ c = 0
  · go_wp2_with fail
    go_ret
    exact ⟨ret_int (N0.out h0).symm, BB.out _ hb1⟩
  replace h0 := Decidable.not_not.1 h0
  subst h0
  clear N0
  go_wp2_with fail
  with_reducible refine (MC.out _ (BB.out _ hb1)).mono ?_
  rintro e W2 ⟨rfl, hb2⟩
  replace hb2 := hb1.trans (hb2.mono hb1.size)
  clear q0 q1 q2 hb1 MC
  obtain ⟨q0, q1, q2⟩ := Q.out W2 hb2
  generalize hc : mapErr ms = c at *
  have HMC := Lib.hid hc
  clear hc
  by_cases h0 : ¬ c = 0
  · go_wp2_with fail
    go_ret
    exact ⟨ret_int (N1.out (by trivial) h0).symm, BB.out _ hb2⟩
  replace h0 := Decidable.not_not.1 h0
  subst h0
  clear N1
  go_wp2_with fail
  with_reducible refine (VC.out _ (BB.out _ hb2)).mono ?_
  rintro e W3 ⟨rfl, hb3⟩
  replace hb3 := hb2.trans (hb3.mono hb2.size)
  clear q0 q1 q2 hb2 VC
  obtain ⟨q0, q1, q2⟩ := Q.out W3 hb3
  generalize hc : setOk rs = c at *
  have HSC := Lib.hid hc
  clear hc
  cases c with
  | false =>
    go_wp2_with fail
    go_ret
    exact ⟨ret_int (N2.out (by trivial) (by trivial) (by trivial)).symm, BB.out _ hb3⟩
  | true =>
  have C3 := Lib.hid (show Ck3 ⟨ss, ms, rs⟩ from ⟨HC.out, HMC.out, HSC.out⟩)
  clear N2 HC HSC
  go_wp2_with fail
  clear q0 q1 q2
  go_loopw [6] (fun u wr => ∃ i : Nat, i ≤ ms.length ∧ u = .int .i64 i ∧ (∀ t, (ht : t < ms.length) → t < i → ¬ fndV ms true ms[t].frm < t) ∧ Below W0.heap.size W0 wr) (fun u _ => ms.length - (intOf u).toNat)
  case atStart => exact ⟨0, Nat.zero_le _, rfl, fun t _ h => absurd h (Nat.not_lt_zero _), hb3⟩
  case round =>
    obtain ⟨i, hi, rfl, h1, hb⟩ := hrel
    have H1 := Lib.hid h1
    clear h1
    by_cases hlt : i < ms.length
    · obtain ⟨b, o, rfl, _, hcell⟩ := (HM.out.below (BB.out _ hb)).at hlt
      obtain ⟨E, d, c1, c2, c3, _, _⟩ := hcell i hlt
      clear hcell
      have HS := Lib.hid (fun h => stB_found hlt h)
      have HN := Lib.hid (fun (h : ¬ fndV ms true ms[i].frm < i) => show ∀ t, (ht : t < ms.length) → t < i + 1 → ¬ fndV ms true ms[t].frm < t from fun t ht g => by
        by_cases e : t = i
        · subst e; exact h
        · exact H1.out t ht (by omega))
      have FZ := Lib.hid (FC.out ms[i].frm wr (BB.out _ hb))
      generalize fndV ms true ms[i].frm = fv at *
      generalize ms[i].frm = f at *
      generalize ms[i].to.length = tl at *
      generalize ms[i].tag = tg at *
      clear HM
      by_cases heq : fv < i
      · have HR := Lib.hid (N3.out C3.out (HS.out heq))
        go_wp2_with fail
        with_reducible refine FZ.out.mono ?_
        rintro e W4 ⟨rfl, rfl⟩
        go_wp2_with fail
        go_ret
        exact ⟨ret_int HR.out.symm, BB.out _ hb⟩
      · have HR := Lib.hid (HN.out heq)
        go_wp2_with fail
        with_reducible refine FZ.out.mono ?_
        rintro e W4 ⟨rfl, rfl⟩
        go_wp2_with fail
        go_roundw
        case rel => exact ⟨i + 1, by omega, by go_num, fun t ht h => by have := HR.out t ht h; omega, hb⟩
        case measure => simp [intOf]; omega
    · have hst := Lib.hid (show stB ms = true from stB_notfound HMC.out (fun t ht => H1.out t ht (by omega)))
      have C4 := Lib.hid (show Ck4 ⟨ss, ms, rs⟩ from ⟨C3.out, hst.out⟩)
      clear N3 C3 H1 hst FC
      go_wp2_with fail
      go_loopw [7] (fun u wr => ∃ i : Nat, i ≤ ms.length ∧ u = .int .i64 i ∧ (∀ t, (ht : t < ms.length) → t < i → kindB ms[t] = false) ∧ Below W0.heap.size W0 wr) (fun u _ => ms.length - (intOf u).toNat)
      case atStart => exact ⟨0, Nat.zero_le _, rfl, fun t _ h => absurd h (Nat.not_lt_zero _), hb⟩
      case round =>
        clear hb
        obtain ⟨i, hi, rfl, hno, hb⟩ := hrel
        have HNO := Lib.hid hno
        clear hno
        by_cases hlt : i < ms.length
        · obtain ⟨b1, o1, rfl, hbl, hcell⟩ := (HM.out.below (BB.out _ hb)).at hlt
          obtain ⟨C, cc, c0, c1, c2, hcc, hC⟩ := hcell i hlt
          have HB := Lib.hid (fun h => N4.out C4.out (anyT hlt h))
          have HN := Lib.hid (fun h => all_up (P := fun m => kindB m = false) hlt HNO.out h)
          clear hcell hC
          generalize ms[i] = mi at *
          have K1 := Lib.hid (fun (h : ¬ mi.tag.size = 0) => show kindB mi = false from by simp [kindB, h])
          have K2 := Lib.hid (fun (h : mi.to.length = 1) => show kindB mi = false from by simp [kindB, h])
          have K3 := Lib.hid (fun (h : mi.to.length = 2) => show kindB mi = false from by simp [kindB, h])
          have K4 := Lib.hid (fun (h : mi.tag.size = 0) (h1 : ¬ mi.to.length = 1) (h2 : ¬ mi.to.length = 2) => show kindB mi = true from by simp [kindB, h, h1, h2])
          generalize kindB mi = kb at *
          obtain ⟨mf, mt, mg⟩ := mi
          dsimp only at *
          clear HM
          by_cases hg : mg.size = 0
          · have g0 : mg.toList = [] := str_nil hg
            by_cases h1 : mt.length = 1
            · have HQ := Lib.hid (HN.out (K2.out h1))
              have d1 : ((mt.length : Int) != 1) = false := by simp; omega
              clear h1
              go_wp2_with fail
              go_roundw
              case rel => exact ⟨i + 1, by omega, by go_num, HQ.out, hb⟩
              case measure => simp [intOf]; omega
            · have d1 : ((mt.length : Int) != 1) = true := by simp; omega
              by_cases h2 : mt.length = 2
              · have HQ := Lib.hid (HN.out (K3.out h2))
                have d2 : ((mt.length : Int) != 2) = false := by simp; omega
                clear h1 h2
                go_wp2_with fail
                go_roundw
                case rel => exact ⟨i + 1, by omega, by go_num, HQ.out, hb⟩
                case measure => simp [intOf]; omega
              · have HR := Lib.hid (HB.out (K4.out hg h1 h2))
                have d2 : ((mt.length : Int) != 2) = true := by simp; omega
                go_wp2_with fail
                go_ret
                exact ⟨ret_int HR.out.symm, BB.out _ hb⟩
          · have g0 : ¬ mg.toList = [] := str_cons hg
            have g1 : mg.toList.isEmpty = false := by simpa using g0
            have HQ := Lib.hid (HN.out (K1.out hg))
            go_wp2_with fail
            go_roundw
            case rel => exact ⟨i + 1, by omega, by go_num, HQ.out, hb⟩
            case measure => simp [intOf]; omega
        · have C5 := Lib.hid (show Ck5 ⟨ss, ms, rs⟩ from ⟨C4.out, show ms.any kindB = false from anyF (fun t ht => HNO.out t ht (by omega))⟩)
          clear C4 N4 HNO
          go_wp2_with fail
          go_loopw [8] (fun u wr => ∃ i : Nat, i ≤ ms.length ∧ u = .int .i64 i ∧ (∀ t, (ht : t < ms.length) → t < i → datB ss ms[t] = false) ∧ Below W0.heap.size W0 wr) (fun u _ => ms.length - (intOf u).toNat)
          case atStart => exact ⟨0, Nat.zero_le _, rfl, fun t _ h => absurd h (Nat.not_lt_zero _), hb⟩
          case round =>
            clear hb
            obtain ⟨i, hi, rfl, hno, hb⟩ := hrel
            have HNO := Lib.hid hno
            clear hno
            by_cases hlt : i < ms.length
            · obtain ⟨b1, o1, rfl, hbl, hcell⟩ := (HM.out.below (BB.out _ hb)).at hlt
              obtain ⟨C, cc, c0, c1, c2, hcc, hC⟩ := hcell i hlt
              have HB := Lib.hid (fun h => N5.out C5.out (anyT hlt h))
              have HN := Lib.hid (fun h => all_up (P := fun m => datB ss m = false) hlt HNO.out h)
              clear hcell hC
              generalize ms[i] = mi at *
              have K1 := Lib.hid (fun (h : ¬ Hg.kind mi.frm = 0) => show datB ss mi = true from by simp [datB, h])
              have K2 := Lib.hid (fun (h : Hg.kind mi.frm = 0) (h2 : mi.tag.size = 0) => show datB ss mi = false from by simp [datB, h, h2])
              have K3 := Lib.hid (fun (h : Hg.kind mi.frm = 0) (h3 : clz ss mi.frm = 0) => show datB ss mi = false from by simp [datB, h, h3])
              have K4 := Lib.hid (fun (h2 : ¬ mi.tag.size = 0) (h3 : ¬ clz ss mi.frm = 0) => show datB ss mi = true from by unfold datB; simp only [h2, h3, not_false_eq_true, decide_true, Bool.and_self, Bool.or_true])
              generalize datB ss mi = kb at *
              obtain ⟨mf, mt, mg⟩ := mi
              dsimp only at *
              clear HM
              have hlt' : wr.heap.size = wr.heap.size := rfl
              obtain ⟨q0, _, _⟩ := Q.out wr hb
              have SH := Lib.hid (fun W' (hb' : Below wr.heap.size wr W') => show W'.cell? ⟨w.heap.size, 0, none⟩ = some (.slice A0 ss.length k0) ∧ W'.cell? ⟨b1, o1 + i * 3, none⟩ = some (.int .i64 mf) ∧ W'.cell? ⟨b1, o1 + i * 3 + 2, none⟩ = some (.string mg) ∧ Below wr.heap.size wr W' from ⟨(hb'.cell (World.block_lt_of_cell? _ _ q0)).trans q0, (hb'.cell (World.block_lt_of_cell? _ _ c0)).trans c0, (hb'.cell (World.block_lt_of_cell? _ _ c2)).trans c2, hb'⟩)
              have KF := Lib.hid (fun W' (hb' : Below wr.heap.size wr W') => (KC.out mf W').mono (R' := fun e W' => e = .returned (.int .i64 (Hg.kind mf)) ∧ (W'.cell? ⟨w.heap.size, 0, none⟩ = some (.slice A0 ss.length k0) ∧ W'.cell? ⟨b1, o1 + i * 3, none⟩ = some (.int .i64 mf) ∧ W'.cell? ⟨b1, o1 + i * 3 + 2, none⟩ = some (.string mg) ∧ Below wr.heap.size wr W')) (fun e W'' hh => ⟨hh.1, hh.2 ▸ SH.out W' hb'⟩))
              have CF := Lib.hid (fun W' (hb' : Below wr.heap.size wr W') => (CLC.out mf W' (BB.out _ (hb.trans (hb'.mono hb.size)))).mono (R' := fun e W' => e = .returned (.int .i64 (clz ss mf)) ∧ (W'.cell? ⟨w.heap.size, 0, none⟩ = some (.slice A0 ss.length k0) ∧ W'.cell? ⟨b1, o1 + i * 3, none⟩ = some (.int .i64 mf) ∧ W'.cell? ⟨b1, o1 + i * 3 + 2, none⟩ = some (.string mg) ∧ Below wr.heap.size wr W')) (fun e W'' hh => ⟨hh.1, SH.out W'' (hb'.trans (hh.2.mono hb'.size))⟩))
              clear q0 c1
              generalize hka : Hg.kind mf = ka at *
              generalize hcl : clz ss mf = cl at *
              clear hka hcl
              by_cases hk0 : ka = 0
              · subst hk0
                by_cases hg : mg.size = 0
                · have g0 : mg.toList = [] := str_nil hg
                  have HQ := Lib.hid (HN.out (K2.out rfl hg))
                  go_wp2_with fail
                  refine wp_region_held_drew (S := fun W' => W'.cell? ⟨w.heap.size, 0, none⟩ = some (.slice A0 ss.length k0) ∧ W'.cell? ⟨b1, o1 + i * 3, none⟩ = some (.int .i64 mf) ∧ W'.cell? ⟨b1, o1 + i * 3 + 2, none⟩ = some (.string mg) ∧ Below wr.heap.size wr W') (by kernel_rfl) (SH.out _ ((Below.refl _ _).drew)) (fun hHeld => ?_)
                  refine anyH_take (i := 0) (v := ?_) (some 83) rfl rfl (by kernel_rfl) (by kernel_rfl) (by kernel_rfl) (fun _ _ _ h => h) (by rfl) (by assumption) ?_ ?_
                  rotate_left
                  · intro w hSw; (try dsimp only at hSw); go_split_ands; go_simp; try (with_reducible rfl)
                  try simp only [Act.put, List.setIfInBounds_toArray, List.set_cons_zero, List.set_cons_succ]
                  refine anyH_take (i := 1) (v := ?_) (some 84) rfl rfl (by kernel_rfl) (by kernel_rfl) (by kernel_rfl) (fun _ _ _ h => h) (by rfl) (by assumption) ?_ ?_
                  rotate_left
                  · intro w hSw; (try dsimp only at hSw); go_split_ands; go_simp; try (with_reducible rfl)
                  try simp only [Act.put, List.setIfInBounds_toArray, List.set_cons_zero, List.set_cons_succ]
                  refine anyH_take (i := 2) (v := ?_) (some 85) rfl rfl (by kernel_rfl) (by kernel_rfl) (by kernel_rfl) (fun _ _ _ h => h) (by rfl) (by assumption) ?_ ?_
                  rotate_left
                  · intro w hSw; (try dsimp only at hSw); go_split_ands; go_simp; try (with_reducible rfl)
                  try simp only [Act.put, List.setIfInBounds_toArray, List.set_cons_zero, List.set_cons_succ]
                  refine anyH_take (i := 3) (v := ?_) (some 86) rfl rfl (by kernel_rfl) (by kernel_rfl) (by kernel_rfl) (fun _ _ _ h => h) (by rfl) (by assumption) ?_ ?_
                  rotate_left
                  · intro w hSw; (try dsimp only at hSw); go_split_ands; go_simp; try (with_reducible rfl)
                  try simp only [Act.put, List.setIfInBounds_toArray, List.set_cons_zero, List.set_cons_succ]
                  refine anyH_take (i := 4) (v := ?_) (some 87) rfl rfl (by kernel_rfl) (by kernel_rfl) (by kernel_rfl) (fun _ _ _ h => h) (by rfl) (by assumption) ?_ ?_
                  rotate_left
                  · intro w hSw; (try dsimp only at hSw); go_split_ands; go_simp; try (with_reducible rfl)
                  try simp only [Act.put, List.setIfInBounds_toArray, List.set_cons_zero, List.set_cons_succ]
                  refine anyH_call (i := 5) (some 88) rfl rfl (by kernel_rfl) (by rfl) (by go_simp) (KF.out _ hHeld.2.2.2) (fun W5 hS6 => ?_)
                  clear hHeld
                  have hHeld := hS6
                  clear hS6
                  try simp only [Act.put, List.setIfInBounds_toArray, List.set_cons_zero, List.set_cons_succ]
                  refine anyH_take (i := 6) (v := ?_) (some 89) rfl rfl (by kernel_rfl) (by kernel_rfl) (by kernel_rfl) (fun _ _ _ h => h) (by rfl) (by assumption) ?_ ?_
                  rotate_left
                  · intro w hSw; (try dsimp only at hSw); go_split_ands; go_simp; try (with_reducible rfl)
                  try simp only [Act.put, List.setIfInBounds_toArray, List.set_cons_zero, List.set_cons_succ]
                  refine anyH_take (i := 7) (v := ?_) (some 90) rfl rfl (by kernel_rfl) (by kernel_rfl) (by kernel_rfl) (fun _ _ _ h => h) (by rfl) (by assumption) ?_ ?_
                  rotate_left
                  · intro w hSw; (try dsimp only at hSw); go_split_ands; go_simp; try (with_reducible rfl)
                  try simp only [Act.put, List.setIfInBounds_toArray, List.set_cons_zero, List.set_cons_succ]
                  refine anyH_take (i := 8) (v := ?_) (some 91) rfl rfl (by kernel_rfl) (by kernel_rfl) (by kernel_rfl) (fun _ _ _ h => h) (by rfl) (by assumption) ?_ ?_
                  rotate_left
                  · intro w hSw; (try dsimp only at hSw); go_split_ands; go_simp; try (with_reducible rfl)
                  try simp only [Act.put, List.setIfInBounds_toArray, List.set_cons_zero, List.set_cons_succ]
                  refine anyH_take (i := 9) (v := ?_) (some 92) rfl rfl (by kernel_rfl) (by kernel_rfl) (by kernel_rfl) (fun _ _ _ h => h) (by rfl) (by assumption) ?_ ?_
                  rotate_left
                  · intro w hSw; (try dsimp only at hSw); go_split_ands; go_simp; try (with_reducible rfl)
                  try simp only [Act.put, List.setIfInBounds_toArray, List.set_cons_zero, List.set_cons_succ]
                  refine anyH_take (i := 10) (v := ?_) (some 93) rfl rfl (by kernel_rfl) (by kernel_rfl) (by kernel_rfl) (fun _ _ _ h => h) (by rfl) (by assumption) ?_ ?_
                  rotate_left
                  · intro w hSw; (try dsimp only at hSw); go_split_ands; go_simp; try (with_reducible rfl)
                  try simp only [Act.put, List.setIfInBounds_toArray, List.set_cons_zero, List.set_cons_succ]
                  refine anyH_take (i := 11) (v := ?_) (some 94) rfl rfl (by kernel_rfl) (by kernel_rfl) (by kernel_rfl) (fun _ _ _ h => h) (by rfl) (by assumption) ?_ ?_
                  rotate_left
                  · intro w hSw; (try dsimp only at hSw); go_split_ands; go_simp; try (with_reducible rfl)
                  try simp only [Act.put, List.setIfInBounds_toArray, List.set_cons_zero, List.set_cons_succ]
                  refine anyH_take (i := 12) (v := ?_) (some 95) rfl rfl (by kernel_rfl) (by kernel_rfl) (by kernel_rfl) (fun _ _ _ h => h) (by rfl) (by assumption) ?_ ?_
                  rotate_left
                  · intro w hSw; (try dsimp only at hSw); go_split_ands; go_simp; try (with_reducible rfl)
                  try simp only [Act.put, List.setIfInBounds_toArray, List.set_cons_zero, List.set_cons_succ]
                  refine anyH_take (i := 13) (v := ?_) (some 96) rfl rfl (by kernel_rfl) (by kernel_rfl) (by kernel_rfl) (fun _ _ _ h => h) (by rfl) (by assumption) ?_ ?_
                  rotate_left
                  · intro w hSw; (try dsimp only at hSw); go_split_ands; go_simp; try (with_reducible rfl)
                  try simp only [Act.put, List.setIfInBounds_toArray, List.set_cons_zero, List.set_cons_succ]
                  refine anyH_take (i := 14) (v := ?_) (some 97) rfl rfl (by kernel_rfl) (by kernel_rfl) (by kernel_rfl) (fun _ _ _ h => h) (by rfl) (by assumption) ?_ ?_
                  rotate_left
                  · intro w hSw; (try dsimp only at hSw); go_split_ands; go_simp; try (with_reducible rfl)
                  try simp only [Act.put, List.setIfInBounds_toArray, List.set_cons_zero, List.set_cons_succ]
                  refine anyH_skip (i := 15) (some 98) rfl rfl (by kernel_rfl) (by kernel_rfl) (by kernel_rfl) (fun _ _ _ h => h) (by rfl) (by assumption) ?_
                  try simp only [Act.put, List.setIfInBounds_toArray, List.set_cons_zero, List.set_cons_succ]
                  refine anyH_skip (i := 16) (some 99) rfl rfl (by kernel_rfl) (by kernel_rfl) (by kernel_rfl) (fun _ _ _ h => h) (by rfl) (by assumption) ?_
                  try simp only [Act.put, List.setIfInBounds_toArray, List.set_cons_zero, List.set_cons_succ]
                  refine anyH_skip (i := 17) (some 100) rfl rfl (by kernel_rfl) (by kernel_rfl) (by kernel_rfl) (fun _ _ _ h => h) (by rfl) (by assumption) ?_
                  try simp only [Act.put, List.setIfInBounds_toArray, List.set_cons_zero, List.set_cons_succ]
                  refine anyH_skip (i := 18) (some 101) rfl rfl (by kernel_rfl) (by kernel_rfl) (by kernel_rfl) (fun _ _ _ h => h) (by rfl) (by assumption) ?_
                  try simp only [Act.put, List.setIfInBounds_toArray, List.set_cons_zero, List.set_cons_succ]
                  refine anyH_skip (i := 19) (some 102) rfl rfl (by kernel_rfl) (by kernel_rfl) (by kernel_rfl) (fun _ _ _ h => h) (by rfl) (by assumption) ?_
                  try simp only [Act.put, List.setIfInBounds_toArray, List.set_cons_zero, List.set_cons_succ]
                  refine anyH_skip (i := 20) (some 103) rfl rfl (by kernel_rfl) (by kernel_rfl) (by kernel_rfl) (fun _ _ _ h => h) (by rfl) (by assumption) ?_
                  try simp only [Act.put, List.setIfInBounds_toArray, List.set_cons_zero, List.set_cons_succ]
                  refine anyH_skip (i := 21) (some 104) rfl rfl (by kernel_rfl) (by kernel_rfl) (by kernel_rfl) (fun _ _ _ h => h) (by rfl) (by assumption) ?_
                  try simp only [Act.put, List.setIfInBounds_toArray, List.set_cons_zero, List.set_cons_succ]
                  refine anyH_skip (i := 22) (some 105) rfl rfl (by kernel_rfl) (by kernel_rfl) (by kernel_rfl) (fun _ _ _ h => h) (by rfl) (by assumption) ?_
                  try simp only [Act.put, List.setIfInBounds_toArray, List.set_cons_zero, List.set_cons_succ]
                  refine anyH_skip (i := 23) (some 106) rfl rfl (by kernel_rfl) (by kernel_rfl) (by kernel_rfl) (fun _ _ _ h => h) (by rfl) (by assumption) ?_
                  try simp only [Act.put, List.setIfInBounds_toArray, List.set_cons_zero, List.set_cons_succ]
                  refine anyH_take (i := 24) (v := ?_) (some 107) rfl rfl (by kernel_rfl) (by kernel_rfl) (by kernel_rfl) (fun _ _ _ h => h) (by rfl) (by assumption) ?_ ?_
                  rotate_left
                  · intro w hSw; (try dsimp only at hSw); go_split_ands; go_simp; try (with_reducible rfl)
                  try simp only [Act.put, List.setIfInBounds_toArray, List.set_cons_zero, List.set_cons_succ]
                  refine anyH_take (i := 25) (v := ?_) (some 108) rfl rfl (by kernel_rfl) (by kernel_rfl) (by kernel_rfl) (fun _ _ _ h => h) (by rfl) (by assumption) ?_ ?_
                  rotate_left
                  · intro w hSw; (try dsimp only at hSw); go_split_ands; go_simp; try (with_reducible rfl)
                  try simp only [Act.put, List.setIfInBounds_toArray, List.set_cons_zero, List.set_cons_succ]
                  refine wpAnyH_done (by kernel_rfl) ?_ _
                  have hb9 := hb.trans (hHeld.2.2.2.mono hb.size)
                  clear hHeld SH KF CF
                  go_wp2_with fail
                  go_roundw
                  case rel => exact ⟨i + 1, by omega, by go_num, HQ.out, hb9⟩
                  case measure => simp [intOf]; omega
                · have g0 : ¬ mg.toList = [] := str_cons hg
                  have g1 : mg.toList.isEmpty = false := by simpa using g0
                  by_cases hc0 : cl = 0
                  · have HQ := Lib.hid (HN.out (K3.out rfl hc0))
                    subst hc0
                    go_wp2_with fail
                    refine wp_region_held_drew (S := fun W' => W'.cell? ⟨w.heap.size, 0, none⟩ = some (.slice A0 ss.length k0) ∧ W'.cell? ⟨b1, o1 + i * 3, none⟩ = some (.int .i64 mf) ∧ W'.cell? ⟨b1, o1 + i * 3 + 2, none⟩ = some (.string mg) ∧ Below wr.heap.size wr W') (by kernel_rfl) (SH.out _ ((Below.refl _ _).drew)) (fun hHeld => ?_)
                    refine anyH_take (i := 0) (v := ?_) (some 83) rfl rfl (by kernel_rfl) (by kernel_rfl) (by kernel_rfl) (fun _ _ _ h => h) (by rfl) (by assumption) ?_ ?_
                    rotate_left
                    · intro w hSw; (try dsimp only at hSw); go_split_ands; go_simp; try (with_reducible rfl)
                    try simp only [Act.put, List.setIfInBounds_toArray, List.set_cons_zero, List.set_cons_succ]
                    refine anyH_take (i := 1) (v := ?_) (some 84) rfl rfl (by kernel_rfl) (by kernel_rfl) (by kernel_rfl) (fun _ _ _ h => h) (by rfl) (by assumption) ?_ ?_
                    rotate_left
                    · intro w hSw; (try dsimp only at hSw); go_split_ands; go_simp; try (with_reducible rfl)
                    try simp only [Act.put, List.setIfInBounds_toArray, List.set_cons_zero, List.set_cons_succ]
                    refine anyH_take (i := 2) (v := ?_) (some 85) rfl rfl (by kernel_rfl) (by kernel_rfl) (by kernel_rfl) (fun _ _ _ h => h) (by rfl) (by assumption) ?_ ?_
                    rotate_left
                    · intro w hSw; (try dsimp only at hSw); go_split_ands; go_simp; try (with_reducible rfl)
                    try simp only [Act.put, List.setIfInBounds_toArray, List.set_cons_zero, List.set_cons_succ]
                    refine anyH_take (i := 3) (v := ?_) (some 86) rfl rfl (by kernel_rfl) (by kernel_rfl) (by kernel_rfl) (fun _ _ _ h => h) (by rfl) (by assumption) ?_ ?_
                    rotate_left
                    · intro w hSw; (try dsimp only at hSw); go_split_ands; go_simp; try (with_reducible rfl)
                    try simp only [Act.put, List.setIfInBounds_toArray, List.set_cons_zero, List.set_cons_succ]
                    refine anyH_take (i := 4) (v := ?_) (some 87) rfl rfl (by kernel_rfl) (by kernel_rfl) (by kernel_rfl) (fun _ _ _ h => h) (by rfl) (by assumption) ?_ ?_
                    rotate_left
                    · intro w hSw; (try dsimp only at hSw); go_split_ands; go_simp; try (with_reducible rfl)
                    try simp only [Act.put, List.setIfInBounds_toArray, List.set_cons_zero, List.set_cons_succ]
                    refine anyH_call (i := 5) (some 88) rfl rfl (by kernel_rfl) (by rfl) (by go_simp) (KF.out _ hHeld.2.2.2) (fun W5 hS6 => ?_)
                    clear hHeld
                    have hHeld := hS6
                    clear hS6
                    try simp only [Act.put, List.setIfInBounds_toArray, List.set_cons_zero, List.set_cons_succ]
                    refine anyH_take (i := 6) (v := ?_) (some 89) rfl rfl (by kernel_rfl) (by kernel_rfl) (by kernel_rfl) (fun _ _ _ h => h) (by rfl) (by assumption) ?_ ?_
                    rotate_left
                    · intro w hSw; (try dsimp only at hSw); go_split_ands; go_simp; try (with_reducible rfl)
                    try simp only [Act.put, List.setIfInBounds_toArray, List.set_cons_zero, List.set_cons_succ]
                    refine anyH_take (i := 7) (v := ?_) (some 90) rfl rfl (by kernel_rfl) (by kernel_rfl) (by kernel_rfl) (fun _ _ _ h => h) (by rfl) (by assumption) ?_ ?_
                    rotate_left
                    · intro w hSw; (try dsimp only at hSw); go_split_ands; go_simp; try (with_reducible rfl)
                    try simp only [Act.put, List.setIfInBounds_toArray, List.set_cons_zero, List.set_cons_succ]
                    refine anyH_take (i := 8) (v := ?_) (some 91) rfl rfl (by kernel_rfl) (by kernel_rfl) (by kernel_rfl) (fun _ _ _ h => h) (by rfl) (by assumption) ?_ ?_
                    rotate_left
                    · intro w hSw; (try dsimp only at hSw); go_split_ands; go_simp; try (with_reducible rfl)
                    try simp only [Act.put, List.setIfInBounds_toArray, List.set_cons_zero, List.set_cons_succ]
                    refine anyH_take (i := 9) (v := ?_) (some 92) rfl rfl (by kernel_rfl) (by kernel_rfl) (by kernel_rfl) (fun _ _ _ h => h) (by rfl) (by assumption) ?_ ?_
                    rotate_left
                    · intro w hSw; (try dsimp only at hSw); go_split_ands; go_simp; try (with_reducible rfl)
                    try simp only [Act.put, List.setIfInBounds_toArray, List.set_cons_zero, List.set_cons_succ]
                    refine anyH_take (i := 10) (v := ?_) (some 93) rfl rfl (by kernel_rfl) (by kernel_rfl) (by kernel_rfl) (fun _ _ _ h => h) (by rfl) (by assumption) ?_ ?_
                    rotate_left
                    · intro w hSw; (try dsimp only at hSw); go_split_ands; go_simp; try (with_reducible rfl)
                    try simp only [Act.put, List.setIfInBounds_toArray, List.set_cons_zero, List.set_cons_succ]
                    refine anyH_take (i := 11) (v := ?_) (some 94) rfl rfl (by kernel_rfl) (by kernel_rfl) (by kernel_rfl) (fun _ _ _ h => h) (by rfl) (by assumption) ?_ ?_
                    rotate_left
                    · intro w hSw; (try dsimp only at hSw); go_split_ands; go_simp; try (with_reducible rfl)
                    try simp only [Act.put, List.setIfInBounds_toArray, List.set_cons_zero, List.set_cons_succ]
                    refine anyH_take (i := 12) (v := ?_) (some 95) rfl rfl (by kernel_rfl) (by kernel_rfl) (by kernel_rfl) (fun _ _ _ h => h) (by rfl) (by assumption) ?_ ?_
                    rotate_left
                    · intro w hSw; (try dsimp only at hSw); go_split_ands; go_simp; try (with_reducible rfl)
                    try simp only [Act.put, List.setIfInBounds_toArray, List.set_cons_zero, List.set_cons_succ]
                    refine anyH_take (i := 13) (v := ?_) (some 96) rfl rfl (by kernel_rfl) (by kernel_rfl) (by kernel_rfl) (fun _ _ _ h => h) (by rfl) (by assumption) ?_ ?_
                    rotate_left
                    · intro w hSw; (try dsimp only at hSw); go_split_ands; go_simp; try (with_reducible rfl)
                    try simp only [Act.put, List.setIfInBounds_toArray, List.set_cons_zero, List.set_cons_succ]
                    refine anyH_take (i := 14) (v := ?_) (some 97) rfl rfl (by kernel_rfl) (by kernel_rfl) (by kernel_rfl) (fun _ _ _ h => h) (by rfl) (by assumption) ?_ ?_
                    rotate_left
                    · intro w hSw; (try dsimp only at hSw); go_split_ands; go_simp; try (with_reducible rfl)
                    try simp only [Act.put, List.setIfInBounds_toArray, List.set_cons_zero, List.set_cons_succ]
                    refine anyH_take (i := 15) (v := ?_) (some 98) rfl rfl (by kernel_rfl) (by kernel_rfl) (by kernel_rfl) (fun _ _ _ h => h) (by rfl) (by assumption) ?_ ?_
                    rotate_left
                    · intro w hSw; (try dsimp only at hSw); go_split_ands; go_simp; try (with_reducible rfl)
                    try simp only [Act.put, List.setIfInBounds_toArray, List.set_cons_zero, List.set_cons_succ]
                    refine anyH_take (i := 16) (v := ?_) (some 99) rfl rfl (by kernel_rfl) (by kernel_rfl) (by kernel_rfl) (fun _ _ _ h => h) (by rfl) (by assumption) ?_ ?_
                    rotate_left
                    · intro w hSw; (try dsimp only at hSw); go_split_ands; go_simp; try (with_reducible rfl)
                    try simp only [Act.put, List.setIfInBounds_toArray, List.set_cons_zero, List.set_cons_succ]
                    refine anyH_take (i := 17) (v := ?_) (some 100) rfl rfl (by kernel_rfl) (by kernel_rfl) (by kernel_rfl) (fun _ _ _ h => h) (by rfl) (by assumption) ?_ ?_
                    rotate_left
                    · intro w hSw; (try dsimp only at hSw); go_split_ands; go_simp; try (with_reducible rfl)
                    try simp only [Act.put, List.setIfInBounds_toArray, List.set_cons_zero, List.set_cons_succ]
                    refine anyH_take (i := 18) (v := ?_) (some 101) rfl rfl (by kernel_rfl) (by kernel_rfl) (by kernel_rfl) (fun _ _ _ h => h) (by rfl) (by assumption) ?_ ?_
                    rotate_left
                    · intro w hSw; (try dsimp only at hSw); go_split_ands; go_simp; try (with_reducible rfl)
                    try simp only [Act.put, List.setIfInBounds_toArray, List.set_cons_zero, List.set_cons_succ]
                    refine anyH_take (i := 19) (v := ?_) (some 102) rfl rfl (by kernel_rfl) (by kernel_rfl) (by kernel_rfl) (fun _ _ _ h => h) (by rfl) (by assumption) ?_ ?_
                    rotate_left
                    · intro w hSw; (try dsimp only at hSw); go_split_ands; go_simp; try (with_reducible rfl)
                    try simp only [Act.put, List.setIfInBounds_toArray, List.set_cons_zero, List.set_cons_succ]
                    refine anyH_take (i := 20) (v := ?_) (some 103) rfl rfl (by kernel_rfl) (by kernel_rfl) (by kernel_rfl) (fun _ _ _ h => h) (by rfl) (by assumption) ?_ ?_
                    rotate_left
                    · intro w hSw; (try dsimp only at hSw); go_split_ands; go_simp; try (with_reducible rfl)
                    try simp only [Act.put, List.setIfInBounds_toArray, List.set_cons_zero, List.set_cons_succ]
                    refine anyH_take (i := 21) (v := ?_) (some 104) rfl rfl (by kernel_rfl) (by kernel_rfl) (by kernel_rfl) (fun _ _ _ h => h) (by rfl) (by assumption) ?_ ?_
                    rotate_left
                    · intro w hSw; (try dsimp only at hSw); go_split_ands; go_simp; try (with_reducible rfl)
                    try simp only [Act.put, List.setIfInBounds_toArray, List.set_cons_zero, List.set_cons_succ]
                    refine anyH_call (i := 22) (some 105) rfl rfl (by kernel_rfl) (by rfl) (by go_simp) (CF.out _ hHeld.2.2.2) (fun W6 hS6 => ?_)
                    clear hHeld
                    have hHeld := hS6
                    clear hS6
                    try simp only [Act.put, List.setIfInBounds_toArray, List.set_cons_zero, List.set_cons_succ]
                    refine anyH_take (i := 23) (v := ?_) (some 106) rfl rfl (by kernel_rfl) (by kernel_rfl) (by kernel_rfl) (fun _ _ _ h => h) (by rfl) (by assumption) ?_ ?_
                    rotate_left
                    · intro w hSw; (try dsimp only at hSw); go_split_ands; go_simp; try (with_reducible rfl)
                    try simp only [Act.put, List.setIfInBounds_toArray, List.set_cons_zero, List.set_cons_succ]
                    refine anyH_take (i := 24) (v := ?_) (some 107) rfl rfl (by kernel_rfl) (by kernel_rfl) (by kernel_rfl) (fun _ _ _ h => h) (by rfl) (by assumption) ?_ ?_
                    rotate_left
                    · intro w hSw; (try dsimp only at hSw); go_split_ands; go_simp; try (with_reducible rfl)
                    try simp only [Act.put, List.setIfInBounds_toArray, List.set_cons_zero, List.set_cons_succ]
                    refine anyH_take (i := 25) (v := ?_) (some 108) rfl rfl (by kernel_rfl) (by kernel_rfl) (by kernel_rfl) (fun _ _ _ h => h) (by rfl) (by assumption) ?_ ?_
                    rotate_left
                    · intro w hSw; (try dsimp only at hSw); go_split_ands; go_simp; try (with_reducible rfl)
                    try simp only [Act.put, List.setIfInBounds_toArray, List.set_cons_zero, List.set_cons_succ]
                    refine wpAnyH_done (by kernel_rfl) ?_ _
                    have hb9 := hb.trans (hHeld.2.2.2.mono hb.size)
                    clear hHeld SH KF CF
                    go_wp2_with fail
                    go_roundw
                    case rel => exact ⟨i + 1, by omega, by go_num, HQ.out, hb9⟩
                    case measure => simp [intOf]; omega
                  · have HR := Lib.hid (HB.out (K4.out hg hc0))
                    have hc1 : (cl != 0) = true := by simpa using hc0
                    go_wp2_with fail
                    refine wp_region_held_drew (S := fun W' => W'.cell? ⟨w.heap.size, 0, none⟩ = some (.slice A0 ss.length k0) ∧ W'.cell? ⟨b1, o1 + i * 3, none⟩ = some (.int .i64 mf) ∧ W'.cell? ⟨b1, o1 + i * 3 + 2, none⟩ = some (.string mg) ∧ Below wr.heap.size wr W') (by kernel_rfl) (SH.out _ ((Below.refl _ _).drew)) (fun hHeld => ?_)
                    refine anyH_take (i := 0) (v := ?_) (some 83) rfl rfl (by kernel_rfl) (by kernel_rfl) (by kernel_rfl) (fun _ _ _ h => h) (by rfl) (by assumption) ?_ ?_
                    rotate_left
                    · intro w hSw; (try dsimp only at hSw); go_split_ands; go_simp; try (with_reducible rfl)
                    try simp only [Act.put, List.setIfInBounds_toArray, List.set_cons_zero, List.set_cons_succ]
                    refine anyH_take (i := 1) (v := ?_) (some 84) rfl rfl (by kernel_rfl) (by kernel_rfl) (by kernel_rfl) (fun _ _ _ h => h) (by rfl) (by assumption) ?_ ?_
                    rotate_left
                    · intro w hSw; (try dsimp only at hSw); go_split_ands; go_simp; try (with_reducible rfl)
                    try simp only [Act.put, List.setIfInBounds_toArray, List.set_cons_zero, List.set_cons_succ]
                    refine anyH_take (i := 2) (v := ?_) (some 85) rfl rfl (by kernel_rfl) (by kernel_rfl) (by kernel_rfl) (fun _ _ _ h => h) (by rfl) (by assumption) ?_ ?_
                    rotate_left
                    · intro w hSw; (try dsimp only at hSw); go_split_ands; go_simp; try (with_reducible rfl)
                    try simp only [Act.put, List.setIfInBounds_toArray, List.set_cons_zero, List.set_cons_succ]
                    refine anyH_take (i := 3) (v := ?_) (some 86) rfl rfl (by kernel_rfl) (by kernel_rfl) (by kernel_rfl) (fun _ _ _ h => h) (by rfl) (by assumption) ?_ ?_
                    rotate_left
                    · intro w hSw; (try dsimp only at hSw); go_split_ands; go_simp; try (with_reducible rfl)
                    try simp only [Act.put, List.setIfInBounds_toArray, List.set_cons_zero, List.set_cons_succ]
                    refine anyH_take (i := 4) (v := ?_) (some 87) rfl rfl (by kernel_rfl) (by kernel_rfl) (by kernel_rfl) (fun _ _ _ h => h) (by rfl) (by assumption) ?_ ?_
                    rotate_left
                    · intro w hSw; (try dsimp only at hSw); go_split_ands; go_simp; try (with_reducible rfl)
                    try simp only [Act.put, List.setIfInBounds_toArray, List.set_cons_zero, List.set_cons_succ]
                    refine anyH_call (i := 5) (some 88) rfl rfl (by kernel_rfl) (by rfl) (by go_simp) (KF.out _ hHeld.2.2.2) (fun W5 hS6 => ?_)
                    clear hHeld
                    have hHeld := hS6
                    clear hS6
                    try simp only [Act.put, List.setIfInBounds_toArray, List.set_cons_zero, List.set_cons_succ]
                    refine anyH_take (i := 6) (v := ?_) (some 89) rfl rfl (by kernel_rfl) (by kernel_rfl) (by kernel_rfl) (fun _ _ _ h => h) (by rfl) (by assumption) ?_ ?_
                    rotate_left
                    · intro w hSw; (try dsimp only at hSw); go_split_ands; go_simp; try (with_reducible rfl)
                    try simp only [Act.put, List.setIfInBounds_toArray, List.set_cons_zero, List.set_cons_succ]
                    refine anyH_take (i := 7) (v := ?_) (some 90) rfl rfl (by kernel_rfl) (by kernel_rfl) (by kernel_rfl) (fun _ _ _ h => h) (by rfl) (by assumption) ?_ ?_
                    rotate_left
                    · intro w hSw; (try dsimp only at hSw); go_split_ands; go_simp; try (with_reducible rfl)
                    try simp only [Act.put, List.setIfInBounds_toArray, List.set_cons_zero, List.set_cons_succ]
                    refine anyH_take (i := 8) (v := ?_) (some 91) rfl rfl (by kernel_rfl) (by kernel_rfl) (by kernel_rfl) (fun _ _ _ h => h) (by rfl) (by assumption) ?_ ?_
                    rotate_left
                    · intro w hSw; (try dsimp only at hSw); go_split_ands; go_simp; try (with_reducible rfl)
                    try simp only [Act.put, List.setIfInBounds_toArray, List.set_cons_zero, List.set_cons_succ]
                    refine anyH_take (i := 9) (v := ?_) (some 92) rfl rfl (by kernel_rfl) (by kernel_rfl) (by kernel_rfl) (fun _ _ _ h => h) (by rfl) (by assumption) ?_ ?_
                    rotate_left
                    · intro w hSw; (try dsimp only at hSw); go_split_ands; go_simp; try (with_reducible rfl)
                    try simp only [Act.put, List.setIfInBounds_toArray, List.set_cons_zero, List.set_cons_succ]
                    refine anyH_take (i := 10) (v := ?_) (some 93) rfl rfl (by kernel_rfl) (by kernel_rfl) (by kernel_rfl) (fun _ _ _ h => h) (by rfl) (by assumption) ?_ ?_
                    rotate_left
                    · intro w hSw; (try dsimp only at hSw); go_split_ands; go_simp; try (with_reducible rfl)
                    try simp only [Act.put, List.setIfInBounds_toArray, List.set_cons_zero, List.set_cons_succ]
                    refine anyH_take (i := 11) (v := ?_) (some 94) rfl rfl (by kernel_rfl) (by kernel_rfl) (by kernel_rfl) (fun _ _ _ h => h) (by rfl) (by assumption) ?_ ?_
                    rotate_left
                    · intro w hSw; (try dsimp only at hSw); go_split_ands; go_simp; try (with_reducible rfl)
                    try simp only [Act.put, List.setIfInBounds_toArray, List.set_cons_zero, List.set_cons_succ]
                    refine anyH_take (i := 12) (v := ?_) (some 95) rfl rfl (by kernel_rfl) (by kernel_rfl) (by kernel_rfl) (fun _ _ _ h => h) (by rfl) (by assumption) ?_ ?_
                    rotate_left
                    · intro w hSw; (try dsimp only at hSw); go_split_ands; go_simp; try (with_reducible rfl)
                    try simp only [Act.put, List.setIfInBounds_toArray, List.set_cons_zero, List.set_cons_succ]
                    refine anyH_take (i := 13) (v := ?_) (some 96) rfl rfl (by kernel_rfl) (by kernel_rfl) (by kernel_rfl) (fun _ _ _ h => h) (by rfl) (by assumption) ?_ ?_
                    rotate_left
                    · intro w hSw; (try dsimp only at hSw); go_split_ands; go_simp; try (with_reducible rfl)
                    try simp only [Act.put, List.setIfInBounds_toArray, List.set_cons_zero, List.set_cons_succ]
                    refine anyH_take (i := 14) (v := ?_) (some 97) rfl rfl (by kernel_rfl) (by kernel_rfl) (by kernel_rfl) (fun _ _ _ h => h) (by rfl) (by assumption) ?_ ?_
                    rotate_left
                    · intro w hSw; (try dsimp only at hSw); go_split_ands; go_simp; try (with_reducible rfl)
                    try simp only [Act.put, List.setIfInBounds_toArray, List.set_cons_zero, List.set_cons_succ]
                    refine anyH_take (i := 15) (v := ?_) (some 98) rfl rfl (by kernel_rfl) (by kernel_rfl) (by kernel_rfl) (fun _ _ _ h => h) (by rfl) (by assumption) ?_ ?_
                    rotate_left
                    · intro w hSw; (try dsimp only at hSw); go_split_ands; go_simp; try (with_reducible rfl)
                    try simp only [Act.put, List.setIfInBounds_toArray, List.set_cons_zero, List.set_cons_succ]
                    refine anyH_take (i := 16) (v := ?_) (some 99) rfl rfl (by kernel_rfl) (by kernel_rfl) (by kernel_rfl) (fun _ _ _ h => h) (by rfl) (by assumption) ?_ ?_
                    rotate_left
                    · intro w hSw; (try dsimp only at hSw); go_split_ands; go_simp; try (with_reducible rfl)
                    try simp only [Act.put, List.setIfInBounds_toArray, List.set_cons_zero, List.set_cons_succ]
                    refine anyH_take (i := 17) (v := ?_) (some 100) rfl rfl (by kernel_rfl) (by kernel_rfl) (by kernel_rfl) (fun _ _ _ h => h) (by rfl) (by assumption) ?_ ?_
                    rotate_left
                    · intro w hSw; (try dsimp only at hSw); go_split_ands; go_simp; try (with_reducible rfl)
                    try simp only [Act.put, List.setIfInBounds_toArray, List.set_cons_zero, List.set_cons_succ]
                    refine anyH_take (i := 18) (v := ?_) (some 101) rfl rfl (by kernel_rfl) (by kernel_rfl) (by kernel_rfl) (fun _ _ _ h => h) (by rfl) (by assumption) ?_ ?_
                    rotate_left
                    · intro w hSw; (try dsimp only at hSw); go_split_ands; go_simp; try (with_reducible rfl)
                    try simp only [Act.put, List.setIfInBounds_toArray, List.set_cons_zero, List.set_cons_succ]
                    refine anyH_take (i := 19) (v := ?_) (some 102) rfl rfl (by kernel_rfl) (by kernel_rfl) (by kernel_rfl) (fun _ _ _ h => h) (by rfl) (by assumption) ?_ ?_
                    rotate_left
                    · intro w hSw; (try dsimp only at hSw); go_split_ands; go_simp; try (with_reducible rfl)
                    try simp only [Act.put, List.setIfInBounds_toArray, List.set_cons_zero, List.set_cons_succ]
                    refine anyH_take (i := 20) (v := ?_) (some 103) rfl rfl (by kernel_rfl) (by kernel_rfl) (by kernel_rfl) (fun _ _ _ h => h) (by rfl) (by assumption) ?_ ?_
                    rotate_left
                    · intro w hSw; (try dsimp only at hSw); go_split_ands; go_simp; try (with_reducible rfl)
                    try simp only [Act.put, List.setIfInBounds_toArray, List.set_cons_zero, List.set_cons_succ]
                    refine anyH_take (i := 21) (v := ?_) (some 104) rfl rfl (by kernel_rfl) (by kernel_rfl) (by kernel_rfl) (fun _ _ _ h => h) (by rfl) (by assumption) ?_ ?_
                    rotate_left
                    · intro w hSw; (try dsimp only at hSw); go_split_ands; go_simp; try (with_reducible rfl)
                    try simp only [Act.put, List.setIfInBounds_toArray, List.set_cons_zero, List.set_cons_succ]
                    refine anyH_call (i := 22) (some 105) rfl rfl (by kernel_rfl) (by rfl) (by go_simp) (CF.out _ hHeld.2.2.2) (fun W6 hS6 => ?_)
                    clear hHeld
                    have hHeld := hS6
                    clear hS6
                    try simp only [Act.put, List.setIfInBounds_toArray, List.set_cons_zero, List.set_cons_succ]
                    refine anyH_take (i := 23) (v := ?_) (some 106) rfl rfl (by kernel_rfl) (by kernel_rfl) (by kernel_rfl) (fun _ _ _ h => h) (by rfl) (by assumption) ?_ ?_
                    rotate_left
                    · intro w hSw; (try dsimp only at hSw); go_split_ands; go_simp; try (with_reducible rfl)
                    try simp only [Act.put, List.setIfInBounds_toArray, List.set_cons_zero, List.set_cons_succ]
                    refine anyH_take (i := 24) (v := ?_) (some 107) rfl rfl (by kernel_rfl) (by kernel_rfl) (by kernel_rfl) (fun _ _ _ h => h) (by rfl) (by assumption) ?_ ?_
                    rotate_left
                    · intro w hSw; (try dsimp only at hSw); go_split_ands; go_simp; try (with_reducible rfl)
                    try simp only [Act.put, List.setIfInBounds_toArray, List.set_cons_zero, List.set_cons_succ]
                    refine anyH_take (i := 25) (v := ?_) (some 108) rfl rfl (by kernel_rfl) (by kernel_rfl) (by kernel_rfl) (fun _ _ _ h => h) (by rfl) (by assumption) ?_ ?_
                    rotate_left
                    · intro w hSw; (try dsimp only at hSw); go_split_ands; go_simp; try (with_reducible rfl)
                    try simp only [Act.put, List.setIfInBounds_toArray, List.set_cons_zero, List.set_cons_succ]
                    refine wpAnyH_done (by kernel_rfl) ?_ _
                    have hb9 := hb.trans (hHeld.2.2.2.mono hb.size)
                    clear hHeld SH KF CF
                    go_wp2_with fail
                    go_ret
                    exact ⟨ret_int HR.out.symm, BB.out _ hb9⟩
              · have HR := Lib.hid (HB.out (K1.out hk0))
                have hk1 : (ka != 0) = true := by simpa using hk0
                go_wp2_with fail
                refine wp_region_held_drew (S := fun W' => W'.cell? ⟨w.heap.size, 0, none⟩ = some (.slice A0 ss.length k0) ∧ W'.cell? ⟨b1, o1 + i * 3, none⟩ = some (.int .i64 mf) ∧ W'.cell? ⟨b1, o1 + i * 3 + 2, none⟩ = some (.string mg) ∧ Below wr.heap.size wr W') (by kernel_rfl) (SH.out _ ((Below.refl _ _).drew)) (fun hHeld => ?_)
                refine anyH_take (i := 0) (v := ?_) (some 83) rfl rfl (by kernel_rfl) (by kernel_rfl) (by kernel_rfl) (fun _ _ _ h => h) (by rfl) (by assumption) ?_ ?_
                rotate_left
                · intro w hSw; (try dsimp only at hSw); go_split_ands; go_simp; try (with_reducible rfl)
                try simp only [Act.put, List.setIfInBounds_toArray, List.set_cons_zero, List.set_cons_succ]
                refine anyH_take (i := 1) (v := ?_) (some 84) rfl rfl (by kernel_rfl) (by kernel_rfl) (by kernel_rfl) (fun _ _ _ h => h) (by rfl) (by assumption) ?_ ?_
                rotate_left
                · intro w hSw; (try dsimp only at hSw); go_split_ands; go_simp; try (with_reducible rfl)
                try simp only [Act.put, List.setIfInBounds_toArray, List.set_cons_zero, List.set_cons_succ]
                refine anyH_take (i := 2) (v := ?_) (some 85) rfl rfl (by kernel_rfl) (by kernel_rfl) (by kernel_rfl) (fun _ _ _ h => h) (by rfl) (by assumption) ?_ ?_
                rotate_left
                · intro w hSw; (try dsimp only at hSw); go_split_ands; go_simp; try (with_reducible rfl)
                try simp only [Act.put, List.setIfInBounds_toArray, List.set_cons_zero, List.set_cons_succ]
                refine anyH_take (i := 3) (v := ?_) (some 86) rfl rfl (by kernel_rfl) (by kernel_rfl) (by kernel_rfl) (fun _ _ _ h => h) (by rfl) (by assumption) ?_ ?_
                rotate_left
                · intro w hSw; (try dsimp only at hSw); go_split_ands; go_simp; try (with_reducible rfl)
                try simp only [Act.put, List.setIfInBounds_toArray, List.set_cons_zero, List.set_cons_succ]
                refine anyH_take (i := 4) (v := ?_) (some 87) rfl rfl (by kernel_rfl) (by kernel_rfl) (by kernel_rfl) (fun _ _ _ h => h) (by rfl) (by assumption) ?_ ?_
                rotate_left
                · intro w hSw; (try dsimp only at hSw); go_split_ands; go_simp; try (with_reducible rfl)
                try simp only [Act.put, List.setIfInBounds_toArray, List.set_cons_zero, List.set_cons_succ]
                refine anyH_call (i := 5) (some 88) rfl rfl (by kernel_rfl) (by rfl) (by go_simp) (KF.out _ hHeld.2.2.2) (fun W5 hS6 => ?_)
                clear hHeld
                have hHeld := hS6
                clear hS6
                try simp only [Act.put, List.setIfInBounds_toArray, List.set_cons_zero, List.set_cons_succ]
                refine anyH_take (i := 6) (v := ?_) (some 89) rfl rfl (by kernel_rfl) (by kernel_rfl) (by kernel_rfl) (fun _ _ _ h => h) (by rfl) (by assumption) ?_ ?_
                rotate_left
                · intro w hSw; (try dsimp only at hSw); go_split_ands; go_simp; try (with_reducible rfl)
                try simp only [Act.put, List.setIfInBounds_toArray, List.set_cons_zero, List.set_cons_succ]
                refine anyH_take (i := 7) (v := ?_) (some 90) rfl rfl (by kernel_rfl) (by kernel_rfl) (by kernel_rfl) (fun _ _ _ h => h) (by rfl) (by assumption) ?_ ?_
                rotate_left
                · intro w hSw; (try dsimp only at hSw); go_split_ands; go_simp; try (with_reducible rfl)
                try simp only [Act.put, List.setIfInBounds_toArray, List.set_cons_zero, List.set_cons_succ]
                refine anyH_skip (i := 8) (some 91) rfl rfl (by kernel_rfl) (by kernel_rfl) (by kernel_rfl) (fun _ _ _ h => h) (by rfl) (by assumption) ?_
                try simp only [Act.put, List.setIfInBounds_toArray, List.set_cons_zero, List.set_cons_succ]
                refine anyH_skip (i := 9) (some 92) rfl rfl (by kernel_rfl) (by kernel_rfl) (by kernel_rfl) (fun _ _ _ h => h) (by rfl) (by assumption) ?_
                try simp only [Act.put, List.setIfInBounds_toArray, List.set_cons_zero, List.set_cons_succ]
                refine anyH_skip (i := 10) (some 93) rfl rfl (by kernel_rfl) (by kernel_rfl) (by kernel_rfl) (fun _ _ _ h => h) (by rfl) (by assumption) ?_
                try simp only [Act.put, List.setIfInBounds_toArray, List.set_cons_zero, List.set_cons_succ]
                refine anyH_skip (i := 11) (some 94) rfl rfl (by kernel_rfl) (by kernel_rfl) (by kernel_rfl) (fun _ _ _ h => h) (by rfl) (by assumption) ?_
                try simp only [Act.put, List.setIfInBounds_toArray, List.set_cons_zero, List.set_cons_succ]
                refine anyH_skip (i := 12) (some 95) rfl rfl (by kernel_rfl) (by kernel_rfl) (by kernel_rfl) (fun _ _ _ h => h) (by rfl) (by assumption) ?_
                try simp only [Act.put, List.setIfInBounds_toArray, List.set_cons_zero, List.set_cons_succ]
                refine anyH_skip (i := 13) (some 96) rfl rfl (by kernel_rfl) (by kernel_rfl) (by kernel_rfl) (fun _ _ _ h => h) (by rfl) (by assumption) ?_
                try simp only [Act.put, List.setIfInBounds_toArray, List.set_cons_zero, List.set_cons_succ]
                refine anyH_skip (i := 14) (some 97) rfl rfl (by kernel_rfl) (by kernel_rfl) (by kernel_rfl) (fun _ _ _ h => h) (by rfl) (by assumption) ?_
                try simp only [Act.put, List.setIfInBounds_toArray, List.set_cons_zero, List.set_cons_succ]
                refine anyH_skip (i := 15) (some 98) rfl rfl (by kernel_rfl) (by kernel_rfl) (by kernel_rfl) (fun _ _ _ h => h) (by rfl) (by assumption) ?_
                try simp only [Act.put, List.setIfInBounds_toArray, List.set_cons_zero, List.set_cons_succ]
                refine anyH_skip (i := 16) (some 99) rfl rfl (by kernel_rfl) (by kernel_rfl) (by kernel_rfl) (fun _ _ _ h => h) (by rfl) (by assumption) ?_
                try simp only [Act.put, List.setIfInBounds_toArray, List.set_cons_zero, List.set_cons_succ]
                refine anyH_skip (i := 17) (some 100) rfl rfl (by kernel_rfl) (by kernel_rfl) (by kernel_rfl) (fun _ _ _ h => h) (by rfl) (by assumption) ?_
                try simp only [Act.put, List.setIfInBounds_toArray, List.set_cons_zero, List.set_cons_succ]
                refine anyH_skip (i := 18) (some 101) rfl rfl (by kernel_rfl) (by kernel_rfl) (by kernel_rfl) (fun _ _ _ h => h) (by rfl) (by assumption) ?_
                try simp only [Act.put, List.setIfInBounds_toArray, List.set_cons_zero, List.set_cons_succ]
                refine anyH_skip (i := 19) (some 102) rfl rfl (by kernel_rfl) (by kernel_rfl) (by kernel_rfl) (fun _ _ _ h => h) (by rfl) (by assumption) ?_
                try simp only [Act.put, List.setIfInBounds_toArray, List.set_cons_zero, List.set_cons_succ]
                refine anyH_skip (i := 20) (some 103) rfl rfl (by kernel_rfl) (by kernel_rfl) (by kernel_rfl) (fun _ _ _ h => h) (by rfl) (by assumption) ?_
                try simp only [Act.put, List.setIfInBounds_toArray, List.set_cons_zero, List.set_cons_succ]
                refine anyH_skip (i := 21) (some 104) rfl rfl (by kernel_rfl) (by kernel_rfl) (by kernel_rfl) (fun _ _ _ h => h) (by rfl) (by assumption) ?_
                try simp only [Act.put, List.setIfInBounds_toArray, List.set_cons_zero, List.set_cons_succ]
                refine anyH_skip (i := 22) (some 105) rfl rfl (by kernel_rfl) (by kernel_rfl) (by kernel_rfl) (fun _ _ _ h => h) (by rfl) (by assumption) ?_
                try simp only [Act.put, List.setIfInBounds_toArray, List.set_cons_zero, List.set_cons_succ]
                refine anyH_skip (i := 23) (some 106) rfl rfl (by kernel_rfl) (by kernel_rfl) (by kernel_rfl) (fun _ _ _ h => h) (by rfl) (by assumption) ?_
                try simp only [Act.put, List.setIfInBounds_toArray, List.set_cons_zero, List.set_cons_succ]
                refine anyH_skip (i := 24) (some 107) rfl rfl (by kernel_rfl) (by kernel_rfl) (by kernel_rfl) (fun _ _ _ h => h) (by rfl) (by assumption) ?_
                try simp only [Act.put, List.setIfInBounds_toArray, List.set_cons_zero, List.set_cons_succ]
                refine anyH_take (i := 25) (v := ?_) (some 108) rfl rfl (by kernel_rfl) (by kernel_rfl) (by kernel_rfl) (fun _ _ _ h => h) (by rfl) (by assumption) ?_ ?_
                rotate_left
                · intro w hSw; (try dsimp only at hSw); go_split_ands; go_simp; try (with_reducible rfl)
                try simp only [Act.put, List.setIfInBounds_toArray, List.set_cons_zero, List.set_cons_succ]
                refine wpAnyH_done (by kernel_rfl) ?_ _
                have hb9 := hb.trans (hHeld.2.2.2.mono hb.size)
                clear hHeld SH KF CF
                go_wp2_with fail
                go_ret
                exact ⟨ret_int HR.out.symm, BB.out _ hb9⟩
            · have C6 := Lib.hid (show Ck6 ⟨ss, ms, rs⟩ from ⟨C5.out, show ms.any (datB ss) = false from anyF (fun t ht => HNO.out t ht (by omega))⟩)
              have HFI := Lib.hid (N6.out C6.out)
              clear C5 N5 HNO C6 N6
              have E9 := Lib.hid (fun W (hb : Below W0.heap.size W0 W) => EC.out W (BB.out _ hb))
              have L9 := Lib.hid (fun b W (hb : Below W0.heap.size W0 W) => LC.out b W (BB.out _ hb))
              clear EC LC KC CLC HM
              have HTL := Lib.hid (rnds_ok ms.length (toM ms) (fndM ms true) ms.length).1
              have HEB := Lib.hid (show endB ms = (rnds ms.length (toM ms) (fndM ms true) ms.length).all id from rfl)
              have HLL := Lib.hid (fun b => (lnds_ok ms b ms.length).1)
              have HLB := Lib.hid (show longB ms = (List.range ms.length).any (fun i => decide (64 < (lensM ms false).getD i 0) || decide (64 < (lensM ms true).getD i 0)) from rfl)
              generalize rnds ms.length (toM ms) (fndM ms true) ms.length = T at *
              have hl0 : (lensM ms false).length = ms.length := HLL.out false
              have hl1 : (lensM ms true).length = ms.length := HLL.out true
              generalize hln0 : lensM ms false = l0 at *
              generalize hln1 : lensM ms true = l1 at *
              have HL0 := Lib.hid hl0; have HL1 := Lib.hid hl1; have HN0 := Lib.hid hln0; have HN1 := Lib.hid hln1
              clear hl0 hl1 hln0 hln1 HLL
              go_wp2_with fail
              with_reducible refine (E9.out _ hb).mono ?_
              rintro e W4 ⟨A4, c4, rfl, hc4, hA4, hb4⟩
              replace hb4 := hb.trans (hb4.mono hb.size)
              have htl := HTL.out
              have HA4 := Lib.hid hA4
              clear hA4 E9
              go_wp2_with fail
              go_loop [10] (fun u => ∃ i : Nat, i ≤ ms.length ∧ u = .int .i64 i ∧ (∀ t, (ht : t < T.length) → t < i → T[t] = true)) (fun u => ms.length - (intOf u).toNat)
              case atStart => exact ⟨0, Nat.zero_le _, rfl, fun t _ h => absurd h (Nat.not_lt_zero _)⟩
              case round =>
                obtain ⟨i, hi, rfl, hno⟩ := hrel
                have HNO := Lib.hid hno
                clear hno
                by_cases hlt : i < ms.length
                · obtain ⟨b4, o4, rfl, hcell⟩ := HA4.out.at (k := i) (by simp [htl, hlt])
                  have c0 := hcell i (.bool (T[i]'(by omega))) (by simp [htl, hlt])
                  have HB := Lib.hid (fun (h : T[i]'(by omega) = false) => show r = 12 from by
                    rw [HFI.out, if_pos]
                    rw [HEB.out]
                    rw [← Bool.not_eq_true, List.all_eq_true]
                    intro g
                    have := g _ (List.getElem_mem (show i < T.length by omega))
                    rw [id, h] at this
                    cases this)
                  have hiT : i < T.length := by omega
                  have HN := Lib.hid (fun (h : T[i]'(by omega) = true) => all_up (P := fun b => b = true) hiT HNO.out h)
                  clear hcell
                  generalize T[i]'(by omega) = tb at *
                  cases tb with
                  | true =>
                    have HQ := Lib.hid (HN.out rfl)
                    go_wp2_with fail
                    go_round
                    case rel => exact ⟨i + 1, by omega, by go_num, HQ.out⟩
                    case measure => simp [intOf]; omega
                  | false =>
                    have HR := Lib.hid (HB.out rfl)
                    go_wp2_with fail
                    go_ret
                    exact ⟨ret_int HR.out.symm, BB.out _ hb4⟩
                · have HEN := Lib.hid (show endB ms = true from by
                    rw [HEB.out, List.all_eq_true]
                    intro b hb
                    obtain ⟨t, ht, rfl⟩ := List.getElem_of_mem hb
                    exact HNO.out t ht (by omega))
                  have HFJ := Lib.hid (show r = if longB ms = true then 13 else 0 from by rw [HFI.out, if_neg (by rw [HEN.out]; simp)])
                  clear HFI HEN HEB HNO
                  go_wp2_with fail
                  with_reducible refine (L9.out false _ hb4).mono ?_
                  rintro e W5 ⟨A5, c5, rfl, hc5, hA5, hb5⟩
                  rw [HN0.out] at hA5 hc5 ⊢
                  have h5 := hb4.trans (hb5.mono hb4.size)
                  have HA5 := Lib.hid hA5
                  clear hA5 hb5
                  go_wp2_with fail
                  with_reducible refine (L9.out true _ h5).mono ?_
                  rintro e W6 ⟨A6, c6, rfl, hc6, hA6, hb6⟩
                  rw [HN1.out] at hA6 hc6 ⊢
                  have h6 := h5.trans (hb6.mono h5.size)
                  have HA5' := Lib.hid (HA5.out.below hb6)
                  have HA6 := Lib.hid hA6
                  have e5 := HL0.out
                  have e6 := HL1.out
                  clear hA6 hb6 HA5 L9
                  go_wp2_with fail
                  go_loop [13] (fun u => ∃ i : Nat, i ≤ ms.length ∧ u = .int .i64 i ∧ (∀ t, t < ms.length → t < i → ¬ 64 < l0.getD t 0 ∧ ¬ 64 < l1.getD t 0)) (fun u => ms.length - (intOf u).toNat)
                  case atStart => exact ⟨0, Nat.zero_le _, rfl, fun t _ h => absurd h (Nat.not_lt_zero _)⟩
                  case round =>
                    obtain ⟨i, hi, rfl, hno⟩ := hrel
                    have HNO := Lib.hid hno
                    clear hno
                    by_cases hlt : i < ms.length
                    · obtain ⟨b5, o5, rfl, hcell5⟩ := HA5'.out.at (k := i) (by omega)
                      obtain ⟨b6, o6, rfl, hcell6⟩ := HA6.out.at (k := i) (by omega)
                      have c0 := hcell5 i (by omega)
                      have c1 := hcell6 i (by omega)
                      have g0 : l0.getD i 0 = l0[i]'(by omega) := by simp [List.getD, e5, hlt]
                      have g1 : l1.getD i 0 = l1[i]'(by omega) := by simp [List.getD, e6, hlt]
                      have HB := Lib.hid (fun (h : 64 < l0.getD i 0 ∨ 64 < l1.getD i 0) => show r = 13 from by
                        rw [HFJ.out, if_pos]
                        rw [HLB.out, List.any_eq_true]
                        exact ⟨i, List.mem_range.2 hlt, by rw [Bool.or_eq_true, decide_eq_true_eq, decide_eq_true_eq]; exact h⟩)
                      have HN := Lib.hid (fun (h : ¬ 64 < l0.getD i 0 ∧ ¬ 64 < l1.getD i 0) => show ∀ t, t < ms.length → t < i + 1 → ¬ 64 < l0.getD t 0 ∧ ¬ 64 < l1.getD t 0 from fun t ht g => by
                        by_cases e : t = i
                        · subst e; exact h
                        · exact HNO.out t ht (by omega))
                      rw [g0, g1] at HB HN
                      clear hcell5 hcell6 g0 g1
                      generalize l0[i]'(by omega) = x0 at *
                      generalize l1[i]'(by omega) = x1 at *
                      by_cases h0 : 64 < x0
                      · have HR := Lib.hid (HB.out (.inl h0))
                        go_wp2_with fail
                        go_ret
                        exact ⟨ret_int HR.out.symm, BB.out _ h6⟩
                      · by_cases h1 : 64 < x1
                        · have HR := Lib.hid (HB.out (.inr h1))
                          go_wp2_with fail
                          go_ret
                          exact ⟨ret_int HR.out.symm, BB.out _ h6⟩
                        · have HQ := Lib.hid (HN.out ⟨h0, h1⟩)
                          go_wp2_with fail
                          go_round
                          case rel => exact ⟨i + 1, by omega, by go_num, HQ.out⟩
                          case measure => simp [intOf]; omega
                    · have HR := Lib.hid (show r = 0 from by
                        rw [HFJ.out, if_neg]
                        rw [HLB.out, Bool.not_eq_true, List.any_eq_false]
                        intro t ht
                        have h1 := List.mem_range.1 ht
                        obtain ⟨g1, g2⟩ := HNO.out t h1 (by omega)
                        rw [Bool.or_eq_true, decide_eq_true_eq, decide_eq_true_eq]
                        omega)
                      go_wp2_with fail
                      go_ret
                      exact ⟨ret_int HR.out.symm, BB.out _ h6⟩
end Go.Proofs.YtjglanjfgbipmaaGreatDoor
