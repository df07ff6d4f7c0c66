/- Texts that are merged into one file: SlAsk. -/
import Derived.Test.YtpfbnikbebccjaaGreatDoorG19
import Derived.Test.YtpfbnikbebccjaaGreatDoorG24
import Derived.Test.YtpfbnikbebccjaaGreatDoorG26
/- Contracts of a sorted list's Lookup and Between. Written by gen_slask.py. -/
namespace Go.Proofs.YtpfbnikbebccjaaGreatDoor
open Go.RowKit Go.Maps Go.WideMaps Srl

theorem look_ids {K : List Int → List Int} {L : Its} (h : Srt K L) (t : List Int) : ((idsL L).take (fle (kL K L) (K t))).drop (frm (kL K L) (K t)) = idsL (lookL K L t) := by
  rw [← look_cut h t]
  unfold idsL
  rw [List.map_drop, List.map_take]
theorem kL_ids0 {K : List Int → List Int} (L : Its) : (kL K L).map Prod.snd = idsL L := by unfold kL idsL; rw [List.map_map]; rfl
theorem btw_ids {K : List Int → List Int} {L : Its} (h : Srt K L) {a b : List Int} (hab : frm (kL K L) (K a) ≤ frm (kL K L) (K b)) : ((idsL L).take (frm (kL K L) (K b))).drop (frm (kL K L) (K a)) = idsL (btwL K L a b) := by
  have h1 := btw_cut h.asc hab
  have h2 := congrArg (List.map Prod.snd) h1
  rw [List.map_drop, List.map_take, kL_ids0] at h2
  rw [h2]
  unfold btw btwL idsL kL
  rw [List.filter_map, List.map_map]
  rfl
theorem btw_none {K : List Int → List Int} {L : Its} {a b : List Int} (hab : frm (kL K L) (K b) < frm (kL K L) (K a)) : btwL K L a b = [] := by
  unfold btwL
  rw [List.filter_eq_nil_iff]
  intro p hp hq
  simp only [Bool.and_eq_true, decide_eq_true_eq] at hq
  have h1 : cmpL (K a) (K b) < 0 := by
    rcases Int.lt_or_eq_of_le hq.1 with g | g
    · exact cmpL_lt_trans (by rw [Pk.cmp_neg]; omega) hq.2
    · have := (cmpL_eq_zero _ _).1 g.symm
      rw [← this]; exact hq.2
  have := frm_mono (l := kL K L) (a := K a) (b := K b) (by omega)
  omega

set_option maxRecDepth 100000 in
set_option maxHeartbeats 12800000 in
theorem slLookup_own {w : World} {l bs : Nat} {V : LsV} {mb : Nat} {O : Option Addr} {oc cnt : Nat} {x : Nrm} {c : Col} {o : Opt} {f : Int → Option Value} {L : Its} (h : Lst w l bs V mb O oc cnt x c o f L) (D : Option Addr) (dk : Nat) (t : List Int) (hD : Ints w D t) (ht : t.length ≤ 16384) (hio : ∀ z ∈ t, iok z) :
    Calls Tryz.prog 24 #[.pointer (some ⟨l, 0, none⟩), .slice D t.length dk] w (RetOwnI (idsL (lookL (kyN x c o) L t)) w) := by
  have X0 := h.box
  unfold lsC at X0
  have l0 := X0.lt
  have c12 := X0.cell (i := 12) rfl
  have NM : ∀ W, (binOp .eql 78 (.map (some mb)) (.map none)).run Tryz.prog W = .ok (.bool false) W := eql_map mb
  have KC := Lib.hid (slKey_own h D t.length dk t hD rfl ht hio)
  have HH := Lib.hid h
  have hkl := kyN_len x c o t
  have EI := Lib.hid (look_ids h.srt t)
  have HS1 := Lib.hid (fun i (hi : i < L.length) => fle_iff h.srt.asc (kyN x c o t) i (by rw [kL_len]; exact hi))
  have HS2 := Lib.hid (fun i (hi : i < L.length) => frm_iff h.srt.asc (kyN x c o t) i (by rw [kL_len]; exact hi))
  have hlf := frm_fle (kL (kyN x c o) L) (kyN x c o t)
  have hfl : fle (kL (kyN x c o) L) (kyN x c o t) ≤ L.length := by unfold fle; exact Nat.le_trans (cnt_le _) (by rw [kL_len]; exact Nat.le_refl _)
  have hlo := own_le h.row
  have hL100 := h.len
  have HQ := Lib.hid (fun i (hi : i < L.length) (hf : frm (kL (kyN x c o) L) (kyN x c o t) ≤ i) => show decide (kyN x c o L[i].2 = kyN x c o t) = decide (i < fle (kL (kyN x c o) L) (kyN x c o t)) by
    have h1 := HS1.out i hi
    have h2 := HS2.out i hi
    rw [kL_get i hi] at h1 h2
    dsimp only at h1 h2
    have h3 := cmpL_eq_zero (kyN x c o L[i].2) (kyN x c o t)
    rw [Bool.eq_iff_iff]
    simp only [decide_eq_true_eq]
    rw [← h3, ← h1]
    omega)
  unfold RetOwnI at KC ⊢
  have FC := Lib.hid (fun (W : World) K kk (hW : Lst W l bs V mb O oc cnt x c o f L) (hK : Ints W K (kyN x c o t)) => slFrom_any hW K kk (kyN x c o t) hK (by omega))
  have hil := idsL_len (L := L)
  rw [← EI.out]
  have HIL := Lib.hid hil
  clear EI
  generalize fle (kL (kyN x c o) L) (kyN x c o t) = hi at *
  generalize frm (kL (kyN x c o) L) (kyN x c o t) = lo at *
  generalize hkg : kyN x c o t = k at *
  clear h hD hio X0 HS1 HS2 hil hkg
  go_enter Tryz.func24, Tryz.ntmps24
  go_wp2_with fail
  with_reducible refine KC.out.mono ?_
  rintro e W1 ⟨K1, kk1, rfl, hK, hb1⟩
  have HK := Lib.hid hK
  have FC1 := Lib.hid (FC.out W1 K1 kk1 (HH.out.below hb1) (Sl.of_own hK))
  clear KC FC hK c12
  go_wp2_with fail
  with_reducible refine FC1.out.mono ?_
  rintro e W2 ⟨rfl, hb2⟩
  have hb02 := hb1.trans (hb2.mono hb1.size)
  have HB2 := Lib.hid hb2
  clear FC1 hb2 hb1
  go_upto_region 6 with (fail)
  go_loopw [7] (fun u wr => ∃ e : Nat, lo ≤ e ∧ e ≤ hi ∧ u = .int .i64 e ∧ Below W2.heap.size W2 wr) (fun u _ => hi - (intOf u).toNat)
  case atStart => exact ⟨lo, Nat.le_refl _, hlf, rfl, Below.refl _ _⟩
  case round =>
    obtain ⟨e, hle, heh, rfl, hbr⟩ := hrel
    have hbw := hb02.trans (hbr.mono hb02.size)
    have Hr := Lib.hid (HH.out.below hbw)
    have HBR := Lib.hid hbr
    have Xr := Hr.out.box
    unfold lsC at Xr
    have lr := Xr.lt
    clear hbr
    have LAST := Lib.hid (fun (he : e = hi) W (hb : Below wr.heap.size wr W) => show Calls Tryz.prog 47 #[.slice (subA O oc lo) (hi - lo) (oc - lo)] W (RetOwnI (((idsL L).take hi).drop lo) W) from
      cloneI_any (subA O oc lo) (hi - lo) (oc - lo) (((idsL L).take hi).drop lo) W ((Ints.sub (Hr.out.ids.below hb) hlf (by rw [HIL.out]; omega) (by rw [HIL.out]; omega))) (by simp [HIL.out]; omega) (by omega))
    have hlen : (((idsL L).take hi).drop lo).length = hi - lo := by simp [HIL.out]; omega
    have HLN := Lib.hid hlen
    clear hlen
    by_cases hlt : e < L.length
    · have d1 : decide ((e : Int) < (L.length : Int)) = true := by simp; omega
      have LAST' := LAST
      have Hr' := Hr
      obtain ⟨g, hO, hg1, hg2, hcell⟩ := Hr.out.at hlt
      obtain ⟨T, tk, K, kk, hf, hT, hK'⟩ := Hr.out.get hlt
      have hid' := (Hr.out.ok _ (List.getElem_mem hlt)).1
      have hkl' := kyN_len x c o L[e].2
      have htl := (Hr.out.ok _ (List.getElem_mem hlt)).2.1
      have HQe := HQ.out e hlt hle
      have HM := Lib.hid (fun W (hb : Below wr.heap.size wr W) => (Hr.out.map.is.below hb : MapI W mb cnt f))
      have SHX := Lib.hid (fun W' (hb' : Below wr.heap.size wr W') => show W'.cell? ⟨l, 12, none⟩ = some (.map (some mb)) ∧ W'.cell? ⟨l, 13, none⟩ = some (.slice O L.length oc) ∧ W'.cell? ⟨g, e, none⟩ = some (.int .i64 L[e].1) ∧ Below wr.heap.size wr W' from ⟨(Xr.below hb' lr).cell (i := 12) rfl, (Xr.below hb' lr).cell (i := 13) rfl, (hb'.cell (p := ⟨g, e, none⟩) hg2).trans hcell, hb'⟩)
      subst hO
      have SH := SHX
      have TC0 := Lib.hid (fun W (hb' : Below wr.heap.size wr W) => cpEqual_any K K1 (kyN x c o L[e].2).length k.length kk kk1 (kyN x c o L[e].2) k W (hK'.1.below hb') ((((Sl.of_own HK.out : Ints W1 K1 k).below HB2.out).below HBR.out).below hb') rfl rfl (by omega) (by omega))
      rw [HQe] at TC0
      generalize kyN x c o L[e].2 = ky at *
      generalize L[e].2.length = tl at *
      generalize L[e].1 = id' at *
      have TC1 := Lib.hid (fun W (hb' : Below wr.heap.size wr W) => (TC0.out W hb').mono (R' := fun e' W' => e' = .returned (.bool (decide (e < hi))) ∧ (W'.cell? ⟨l, 12, none⟩ = some (.map (some mb)) ∧ W'.cell? ⟨l, 13, none⟩ = some (.slice (some ⟨g, 0, none⟩) L.length oc) ∧ W'.cell? ⟨g, e, none⟩ = some (.int .i64 id') ∧ Below wr.heap.size wr W')) (fun e' W' hh => ⟨hh.1, SH.out W' (hb'.trans (hh.2.below.mono hb'.size))⟩))
      have HID := Lib.hid hid'
      have HF := Lib.hid hf
      by_cases heq : e < hi
      · rw [decide_eq_true heq] at TC1
        clear hT hK' hf hid' hkl' htl hcell TC0 HQe LAST LAST' Xr SHX
        go_upto_region 6 with (fail)
        refine wp_region_held_drew (S := fun W' => W'.cell? ⟨l, 12, none⟩ = some (.map (some mb)) ∧ W'.cell? ⟨l, 13, none⟩ = some (.slice (some ⟨g, 0, none⟩) L.length oc) ∧ W'.cell? ⟨g, e, none⟩ = some (.int .i64 id') ∧ Below wr.heap.size wr W') (by kernel_rfl) (SH.out _ ((Below.refl _ _).drew)) (fun hHeld => ?_)
        refine anyH_take (i := 0) (v := ?_) (some 24) rfl rfl (by kernel_rfl) (by kernel_rfl) (by kernel_rfl) (fun _ _ _ h => h) (by rfl) (by assumption) ?_ ?_
        rotate_left
        · intro w hSw; (try dsimp only at hSw); go_split_ands; go_simp; try (with_reducible rfl)
        try simp only [Act.put, List.setIfInBounds_toArray, List.set_cons_zero, List.set_cons_succ]
        refine anyH_take (i := 1) (v := ?_) (some 25) rfl rfl (by kernel_rfl) (by kernel_rfl) (by kernel_rfl) (fun _ _ _ h => h) (by rfl) (by assumption) ?_ ?_
        rotate_left
        · intro w hSw; (try dsimp only at hSw); go_split_ands; go_simp; try (with_reducible rfl)
        try simp only [Act.put, List.setIfInBounds_toArray, List.set_cons_zero, List.set_cons_succ]
        refine anyH_take (i := 2) (v := ?_) (some 26) rfl rfl (by kernel_rfl) (by kernel_rfl) (by kernel_rfl) (fun _ _ _ h => h) (by rfl) (by assumption) ?_ ?_
        rotate_left
        · intro w hSw; (try dsimp only at hSw); go_split_ands; go_simp; try (with_reducible rfl)
        try simp only [Act.put, List.setIfInBounds_toArray, List.set_cons_zero, List.set_cons_succ]
        refine anyH_take (i := 3) (v := ?_) (some 27) rfl rfl (by kernel_rfl) (by kernel_rfl) (by kernel_rfl) (fun _ _ _ h => h) (by rfl) (by assumption) ?_ ?_
        rotate_left
        · intro w hSw; (try dsimp only at hSw); go_split_ands; go_simp; try (with_reducible rfl)
        try simp only [Act.put, List.setIfInBounds_toArray, List.set_cons_zero, List.set_cons_succ]
        refine anyH_take (i := 4) (v := ?_) (some 28) rfl rfl (by kernel_rfl) (by kernel_rfl) (by kernel_rfl) (fun _ _ _ h => h) (by rfl) (by assumption) ?_ ?_
        rotate_left
        · intro w hSw; (try dsimp only at hSw); go_split_ands; go_simp; try (with_reducible rfl)
        try simp only [Act.put, List.setIfInBounds_toArray, List.set_cons_zero, List.set_cons_succ]
        refine anyH_take (i := 5) (v := ?_) (some 29) rfl rfl (by kernel_rfl) (by kernel_rfl) (by kernel_rfl) (fun _ _ _ h => h) (by rfl) (by assumption) ?_ ?_
        rotate_left
        · intro w hSw; (try dsimp only at hSw); go_split_ands; go_simp; try (with_reducible rfl)
        try simp only [Act.put, List.setIfInBounds_toArray, List.set_cons_zero, List.set_cons_succ]
        refine anyH_take (i := 6) (v := ?_) (some 30) rfl rfl (by kernel_rfl) (by kernel_rfl) (by kernel_rfl) (fun _ _ _ h => h) (by rfl) (by assumption) ?_ ?_
        rotate_left
        · intro w hSw; (try dsimp only at hSw); go_split_ands; go_simp; try (with_reducible rfl)
        try simp only [Act.put, List.setIfInBounds_toArray, List.set_cons_zero, List.set_cons_succ]
        refine anyH_take (i := 7) (v := ?_) (some 31) rfl rfl (by kernel_rfl) (by kernel_rfl) (by kernel_rfl) (fun _ _ _ h => h) (by rfl) (by assumption) ?_ ?_
        rotate_left
        · intro w hSw; (try dsimp only at hSw); go_split_ands; go_simp; try (with_reducible rfl)
        try simp only [Act.put, List.setIfInBounds_toArray, List.set_cons_zero, List.set_cons_succ]
        refine anyH_take (i := 8) (v := ?_) (some 32) rfl rfl (by kernel_rfl) (by kernel_rfl) (by kernel_rfl) (fun _ _ _ h => h) (by rfl) (by assumption) ?_ ?_
        rotate_left
        · intro w hSw; (try dsimp only at hSw); go_split_ands; go_simp; try (with_reducible rfl)
        try simp only [Act.put, List.setIfInBounds_toArray, List.set_cons_zero, List.set_cons_succ]
        refine anyH_take (i := 9) (v := ?_) (some 33) rfl rfl (by kernel_rfl) (by kernel_rfl) (by kernel_rfl) (fun _ _ _ h => h) (by rfl) (by assumption) ?_ ?_
        rotate_left
        · intro w hSw; (try dsimp only at hSw); go_split_ands; go_simp; try (with_reducible rfl)
        try simp only [Act.put, List.setIfInBounds_toArray, List.set_cons_zero, List.set_cons_succ]
        refine anyH_take (i := 10) (v := ?_) (some 34) rfl rfl (by kernel_rfl) (by kernel_rfl) (by kernel_rfl) (fun _ _ _ h => h) (by rfl) (by assumption) ?_ ?_
        rotate_left
        · intro w hSw; (try dsimp only at hSw); go_split_ands; go_simp; try (with_reducible rfl)
        try simp only [Act.put, List.setIfInBounds_toArray, List.set_cons_zero, List.set_cons_succ]
        refine anyH_take (i := 11) (v := ?_) (some 35) rfl rfl (by kernel_rfl) (by kernel_rfl) (by kernel_rfl) (fun _ _ _ h => h) (by rfl) (by assumption) ?_ ?_
        rotate_left
        · intro w hSw; (try dsimp only at hSw); go_split_ands; go_simp; try (with_reducible rfl)
        try simp only [Act.put, List.setIfInBounds_toArray, List.set_cons_zero, List.set_cons_succ]
        refine anyH_take (i := 12) (v := ?_) (some 36) rfl rfl (by kernel_rfl) (by kernel_rfl) (by kernel_rfl) (fun _ _ _ h => h) (by rfl) (by assumption) ?_ ?_
        rotate_left
        · intro w hSw; (try dsimp only at hSw); go_split_ands; go_simp; try (with_reducible rfl)
        try simp only [Act.put, List.setIfInBounds_toArray, List.set_cons_zero, List.set_cons_succ]
        refine anyH_take (i := 13) (v := ?_) (some 37) rfl rfl (by kernel_rfl) (by kernel_rfl) (by kernel_rfl) (fun _ _ _ h => h) (by rfl) (by assumption) ?_ ?_
        rotate_left
        · intro w hSw; (try dsimp only at hSw); go_split_ands; go_simp; try (with_reducible rfl)
        try simp only [Act.put, List.setIfInBounds_toArray, List.set_cons_zero, List.set_cons_succ]
        refine anyH_take (i := 14) (v := ?_) (some 38) rfl rfl (by kernel_rfl) (by kernel_rfl) (by kernel_rfl) (fun _ _ _ h => h) (by rfl) (by assumption) ?_ ?_
        rotate_left
        · intro w hSw; (try dsimp only at hSw); go_split_ands; go_simp; try (with_reducible rfl)
        try simp only [Act.put, List.setIfInBounds_toArray, List.set_cons_zero, List.set_cons_succ]
        refine anyH_take (i := 15) (v := ?_) (some 39) rfl rfl (by kernel_rfl) (by kernel_rfl) (by kernel_rfl) (fun _ _ _ h => h) (by rfl) (by assumption) ?_ ?_
        rotate_left
        · intro w hSw; (try dsimp only at hSw); go_split_ands; go_simp; try (with_reducible rfl)
        try simp only [Act.put, List.setIfInBounds_toArray, List.set_cons_zero, List.set_cons_succ]
        refine anyH_take (i := 16) (v := ?_) (some 40) rfl rfl (by kernel_rfl) (by kernel_rfl) (by kernel_rfl) (fun _ _ _ h => h) (by rfl) (by assumption) ?_ ?_
        rotate_left
        · intro w hSw; (try dsimp only at hSw); go_split_ands; go_simp; try (with_reducible rfl)
        try simp only [Act.put, List.setIfInBounds_toArray, List.set_cons_zero, List.set_cons_succ]
        refine anyH_take (i := 17) (v := ?_) (some 41) rfl rfl (by kernel_rfl) (by kernel_rfl) (by kernel_rfl) (fun _ _ _ h => h) (by rfl) (by assumption) ?_ ?_
        rotate_left
        · intro w hSw; (try dsimp only at hSw); go_split_ands; go_simp; try (with_reducible rfl)
        try simp only [Act.put, List.setIfInBounds_toArray, List.set_cons_zero, List.set_cons_succ]
        refine anyH_take (i := 18) (v := ?_) (some 42) rfl rfl (by kernel_rfl) (by kernel_rfl) (by kernel_rfl) (fun _ _ _ h => h) (by rfl) (by assumption) ?_ ?_
        rotate_left
        · intro w hSw; (try dsimp only at hSw); go_split_ands; go_simp; try (with_reducible rfl)
        try simp only [Act.put, List.setIfInBounds_toArray, List.set_cons_zero, List.set_cons_succ]
        refine anyH_look (i := 19) (v := .agg #[.slice T tl tk, .slice K ky.length kk]) (some 43) rfl rfl (by kernel_rfl) (by kernel_rfl) (by kernel_rfl) (fun _ _ _ h => h) (by rfl) (by assumption) _ _ 78 rfl (fun W hS => HM.out W hS.2.2.2) law_int Tryz.underlying78 zero_item rfl rfl HID.out (key_int HID.out) (by rw [HF.out]; rfl) ?_
        try simp only [Act.put, List.setIfInBounds_toArray, List.set_cons_zero, List.set_cons_succ]
        refine anyH_take (i := 20) (v := .slice K ky.length kk) (some 44) rfl rfl (by kernel_rfl) (by kernel_rfl) (by kernel_rfl) (fun _ _ _ h => h) (by rfl) (by assumption) (fun W _ => fld1 _ _ W) ?_
        try simp only [Act.put, List.setIfInBounds_toArray, List.set_cons_zero, List.set_cons_succ]
        refine anyH_take (i := 21) (v := ?_) (some 45) rfl rfl (by kernel_rfl) (by kernel_rfl) (by kernel_rfl) (fun _ _ _ h => h) (by rfl) (by assumption) ?_ ?_
        rotate_left
        · intro w hSw; (try dsimp only at hSw); go_split_ands; go_simp; try (with_reducible rfl)
        try simp only [Act.put, List.setIfInBounds_toArray, List.set_cons_zero, List.set_cons_succ]
        refine anyH_call (i := 22) (some 46) rfl rfl (by kernel_rfl) (by rfl) (by go_simp) (TC1.out _ hHeld.2.2.2) (fun W5 hS6 => ?_)
        clear hHeld
        have hHeld := hS6
        clear hS6
        try simp only [Act.put, List.setIfInBounds_toArray, List.set_cons_zero, List.set_cons_succ]
        refine anyH_take (i := 23) (v := ?_) (some 47) rfl rfl (by kernel_rfl) (by kernel_rfl) (by kernel_rfl) (fun _ _ _ h => h) (by rfl) (by assumption) ?_ ?_
        rotate_left
        · intro w hSw; (try dsimp only at hSw); go_split_ands; go_simp; try (with_reducible rfl)
        try simp only [Act.put, List.setIfInBounds_toArray, List.set_cons_zero, List.set_cons_succ]
        refine wpAnyH_done (by kernel_rfl) ?_ _
        have hbf := hHeld.2.2.2
        have HBF := Lib.hid (HBR.out.trans (hbf.mono HBR.out.size))
        clear hHeld SH TC1 hbf Hr' HM
        go_wp2_with fail
        go_roundw
        case rel => exact ⟨e + 1, by omega, by omega, by go_num, HBF.out⟩
        case measure => simp [intOf]; omega
      · rw [decide_eq_false heq] at TC1
        obtain rfl : e = hi := by omega
        clear hT hK' hf hid' hkl' htl hcell TC0 HQe LAST SHX
        go_upto_region 6 with (fail)
        refine wp_region_held_drew (S := fun W' => W'.cell? ⟨l, 12, none⟩ = some (.map (some mb)) ∧ W'.cell? ⟨l, 13, none⟩ = some (.slice (some ⟨g, 0, none⟩) L.length oc) ∧ W'.cell? ⟨g, e, none⟩ = some (.int .i64 id') ∧ Below wr.heap.size wr W') (by kernel_rfl) (SH.out _ ((Below.refl _ _).drew)) (fun hHeld => ?_)
        refine anyH_take (i := 0) (v := ?_) (some 24) rfl rfl (by kernel_rfl) (by kernel_rfl) (by kernel_rfl) (fun _ _ _ h => h) (by rfl) (by assumption) ?_ ?_
        rotate_left
        · intro w hSw; (try dsimp only at hSw); go_split_ands; go_simp; try (with_reducible rfl)
        try simp only [Act.put, List.setIfInBounds_toArray, List.set_cons_zero, List.set_cons_succ]
        refine anyH_take (i := 1) (v := ?_) (some 25) rfl rfl (by kernel_rfl) (by kernel_rfl) (by kernel_rfl) (fun _ _ _ h => h) (by rfl) (by assumption) ?_ ?_
        rotate_left
        · intro w hSw; (try dsimp only at hSw); go_split_ands; go_simp; try (with_reducible rfl)
        try simp only [Act.put, List.setIfInBounds_toArray, List.set_cons_zero, List.set_cons_succ]
        refine anyH_take (i := 2) (v := ?_) (some 26) rfl rfl (by kernel_rfl) (by kernel_rfl) (by kernel_rfl) (fun _ _ _ h => h) (by rfl) (by assumption) ?_ ?_
        rotate_left
        · intro w hSw; (try dsimp only at hSw); go_split_ands; go_simp; try (with_reducible rfl)
        try simp only [Act.put, List.setIfInBounds_toArray, List.set_cons_zero, List.set_cons_succ]
        refine anyH_take (i := 3) (v := ?_) (some 27) rfl rfl (by kernel_rfl) (by kernel_rfl) (by kernel_rfl) (fun _ _ _ h => h) (by rfl) (by assumption) ?_ ?_
        rotate_left
        · intro w hSw; (try dsimp only at hSw); go_split_ands; go_simp; try (with_reducible rfl)
        try simp only [Act.put, List.setIfInBounds_toArray, List.set_cons_zero, List.set_cons_succ]
        refine anyH_take (i := 4) (v := ?_) (some 28) rfl rfl (by kernel_rfl) (by kernel_rfl) (by kernel_rfl) (fun _ _ _ h => h) (by rfl) (by assumption) ?_ ?_
        rotate_left
        · intro w hSw; (try dsimp only at hSw); go_split_ands; go_simp; try (with_reducible rfl)
        try simp only [Act.put, List.setIfInBounds_toArray, List.set_cons_zero, List.set_cons_succ]
        refine anyH_take (i := 5) (v := ?_) (some 29) rfl rfl (by kernel_rfl) (by kernel_rfl) (by kernel_rfl) (fun _ _ _ h => h) (by rfl) (by assumption) ?_ ?_
        rotate_left
        · intro w hSw; (try dsimp only at hSw); go_split_ands; go_simp; try (with_reducible rfl)
        try simp only [Act.put, List.setIfInBounds_toArray, List.set_cons_zero, List.set_cons_succ]
        refine anyH_take (i := 6) (v := ?_) (some 30) rfl rfl (by kernel_rfl) (by kernel_rfl) (by kernel_rfl) (fun _ _ _ h => h) (by rfl) (by assumption) ?_ ?_
        rotate_left
        · intro w hSw; (try dsimp only at hSw); go_split_ands; go_simp; try (with_reducible rfl)
        try simp only [Act.put, List.setIfInBounds_toArray, List.set_cons_zero, List.set_cons_succ]
        refine anyH_take (i := 7) (v := ?_) (some 31) rfl rfl (by kernel_rfl) (by kernel_rfl) (by kernel_rfl) (fun _ _ _ h => h) (by rfl) (by assumption) ?_ ?_
        rotate_left
        · intro w hSw; (try dsimp only at hSw); go_split_ands; go_simp; try (with_reducible rfl)
        try simp only [Act.put, List.setIfInBounds_toArray, List.set_cons_zero, List.set_cons_succ]
        refine anyH_take (i := 8) (v := ?_) (some 32) rfl rfl (by kernel_rfl) (by kernel_rfl) (by kernel_rfl) (fun _ _ _ h => h) (by rfl) (by assumption) ?_ ?_
        rotate_left
        · intro w hSw; (try dsimp only at hSw); go_split_ands; go_simp; try (with_reducible rfl)
        try simp only [Act.put, List.setIfInBounds_toArray, List.set_cons_zero, List.set_cons_succ]
        refine anyH_take (i := 9) (v := ?_) (some 33) rfl rfl (by kernel_rfl) (by kernel_rfl) (by kernel_rfl) (fun _ _ _ h => h) (by rfl) (by assumption) ?_ ?_
        rotate_left
        · intro w hSw; (try dsimp only at hSw); go_split_ands; go_simp; try (with_reducible rfl)
        try simp only [Act.put, List.setIfInBounds_toArray, List.set_cons_zero, List.set_cons_succ]
        refine anyH_take (i := 10) (v := ?_) (some 34) rfl rfl (by kernel_rfl) (by kernel_rfl) (by kernel_rfl) (fun _ _ _ h => h) (by rfl) (by assumption) ?_ ?_
        rotate_left
        · intro w hSw; (try dsimp only at hSw); go_split_ands; go_simp; try (with_reducible rfl)
        try simp only [Act.put, List.setIfInBounds_toArray, List.set_cons_zero, List.set_cons_succ]
        refine anyH_take (i := 11) (v := ?_) (some 35) rfl rfl (by kernel_rfl) (by kernel_rfl) (by kernel_rfl) (fun _ _ _ h => h) (by rfl) (by assumption) ?_ ?_
        rotate_left
        · intro w hSw; (try dsimp only at hSw); go_split_ands; go_simp; try (with_reducible rfl)
        try simp only [Act.put, List.setIfInBounds_toArray, List.set_cons_zero, List.set_cons_succ]
        refine anyH_take (i := 12) (v := ?_) (some 36) rfl rfl (by kernel_rfl) (by kernel_rfl) (by kernel_rfl) (fun _ _ _ h => h) (by rfl) (by assumption) ?_ ?_
        rotate_left
        · intro w hSw; (try dsimp only at hSw); go_split_ands; go_simp; try (with_reducible rfl)
        try simp only [Act.put, List.setIfInBounds_toArray, List.set_cons_zero, List.set_cons_succ]
        refine anyH_take (i := 13) (v := ?_) (some 37) rfl rfl (by kernel_rfl) (by kernel_rfl) (by kernel_rfl) (fun _ _ _ h => h) (by rfl) (by assumption) ?_ ?_
        rotate_left
        · intro w hSw; (try dsimp only at hSw); go_split_ands; go_simp; try (with_reducible rfl)
        try simp only [Act.put, List.setIfInBounds_toArray, List.set_cons_zero, List.set_cons_succ]
        refine anyH_take (i := 14) (v := ?_) (some 38) rfl rfl (by kernel_rfl) (by kernel_rfl) (by kernel_rfl) (fun _ _ _ h => h) (by rfl) (by assumption) ?_ ?_
        rotate_left
        · intro w hSw; (try dsimp only at hSw); go_split_ands; go_simp; try (with_reducible rfl)
        try simp only [Act.put, List.setIfInBounds_toArray, List.set_cons_zero, List.set_cons_succ]
        refine anyH_take (i := 15) (v := ?_) (some 39) rfl rfl (by kernel_rfl) (by kernel_rfl) (by kernel_rfl) (fun _ _ _ h => h) (by rfl) (by assumption) ?_ ?_
        rotate_left
        · intro w hSw; (try dsimp only at hSw); go_split_ands; go_simp; try (with_reducible rfl)
        try simp only [Act.put, List.setIfInBounds_toArray, List.set_cons_zero, List.set_cons_succ]
        refine anyH_take (i := 16) (v := ?_) (some 40) rfl rfl (by kernel_rfl) (by kernel_rfl) (by kernel_rfl) (fun _ _ _ h => h) (by rfl) (by assumption) ?_ ?_
        rotate_left
        · intro w hSw; (try dsimp only at hSw); go_split_ands; go_simp; try (with_reducible rfl)
        try simp only [Act.put, List.setIfInBounds_toArray, List.set_cons_zero, List.set_cons_succ]
        refine anyH_take (i := 17) (v := ?_) (some 41) rfl rfl (by kernel_rfl) (by kernel_rfl) (by kernel_rfl) (fun _ _ _ h => h) (by rfl) (by assumption) ?_ ?_
        rotate_left
        · intro w hSw; (try dsimp only at hSw); go_split_ands; go_simp; try (with_reducible rfl)
        try simp only [Act.put, List.setIfInBounds_toArray, List.set_cons_zero, List.set_cons_succ]
        refine anyH_take (i := 18) (v := ?_) (some 42) rfl rfl (by kernel_rfl) (by kernel_rfl) (by kernel_rfl) (fun _ _ _ h => h) (by rfl) (by assumption) ?_ ?_
        rotate_left
        · intro w hSw; (try dsimp only at hSw); go_split_ands; go_simp; try (with_reducible rfl)
        try simp only [Act.put, List.setIfInBounds_toArray, List.set_cons_zero, List.set_cons_succ]
        refine anyH_look (i := 19) (v := .agg #[.slice T tl tk, .slice K ky.length kk]) (some 43) rfl rfl (by kernel_rfl) (by kernel_rfl) (by kernel_rfl) (fun _ _ _ h => h) (by rfl) (by assumption) _ _ 78 rfl (fun W hS => HM.out W hS.2.2.2) law_int Tryz.underlying78 zero_item rfl rfl HID.out (key_int HID.out) (by rw [HF.out]; rfl) ?_
        try simp only [Act.put, List.setIfInBounds_toArray, List.set_cons_zero, List.set_cons_succ]
        refine anyH_take (i := 20) (v := .slice K ky.length kk) (some 44) rfl rfl (by kernel_rfl) (by kernel_rfl) (by kernel_rfl) (fun _ _ _ h => h) (by rfl) (by assumption) (fun W _ => fld1 _ _ W) ?_
        try simp only [Act.put, List.setIfInBounds_toArray, List.set_cons_zero, List.set_cons_succ]
        refine anyH_take (i := 21) (v := ?_) (some 45) rfl rfl (by kernel_rfl) (by kernel_rfl) (by kernel_rfl) (fun _ _ _ h => h) (by rfl) (by assumption) ?_ ?_
        rotate_left
        · intro w hSw; (try dsimp only at hSw); go_split_ands; go_simp; try (with_reducible rfl)
        try simp only [Act.put, List.setIfInBounds_toArray, List.set_cons_zero, List.set_cons_succ]
        refine anyH_call (i := 22) (some 46) rfl rfl (by kernel_rfl) (by rfl) (by go_simp) (TC1.out _ hHeld.2.2.2) (fun W5 hS6 => ?_)
        clear hHeld
        have hHeld := hS6
        clear hS6
        try simp only [Act.put, List.setIfInBounds_toArray, List.set_cons_zero, List.set_cons_succ]
        refine anyH_take (i := 23) (v := ?_) (some 47) rfl rfl (by kernel_rfl) (by kernel_rfl) (by kernel_rfl) (fun _ _ _ h => h) (by rfl) (by assumption) ?_ ?_
        rotate_left
        · intro w hSw; (try dsimp only at hSw); go_split_ands; go_simp; try (with_reducible rfl)
        try simp only [Act.put, List.setIfInBounds_toArray, List.set_cons_zero, List.set_cons_succ]
        refine wpAnyH_done (by kernel_rfl) ?_ _
        have hbf := hHeld.2.2.2
        have c13 := (Xr.below hbf lr).cell (i := 13) rfl
        have LC := Lib.hid (LAST'.out rfl _ hbf)
        have rc := run_cut (some ⟨g, 0, none⟩) L.length oc lo e hlf (by omega)
        have HBF := Lib.hid (hbw.trans (hbf.mono hbw.size))
        unfold RetOwnI at LC
        rw [HLN.out] at LC
        clear hHeld SH TC1 hbf Hr' HM Xr
        go_wp2_with fail
        with_reducible refine LC.out.mono ?_
        rintro e' W9 ⟨E9, d9, rfl, hE9, hb9⟩
        go_wp2_with fail
        go_ret
        rw [HLN.out]
        exact ⟨E9, d9, rfl, own_mono hE9 HBF.out.size, HBF.out.trans (hb9.mono HBF.out.size)⟩
    · have d1 : decide ((e : Int) < (L.length : Int)) = false := by simp; omega
      obtain rfl : e = hi := by omega
      have SH := Lib.hid (fun W' (hb' : Below wr.heap.size wr W') => show W'.cell? ⟨l, 13, none⟩ = some (.slice O L.length oc) ∧ Below wr.heap.size wr W' from ⟨(Xr.below hb' lr).cell (i := 13) rfl, hb'⟩)
      go_upto_region 6 with (fail)
      refine wp_region_held_drew (S := fun W' => W'.cell? ⟨l, 13, none⟩ = some (.slice O L.length oc) ∧ Below wr.heap.size wr W') (by kernel_rfl) (SH.out _ ((Below.refl _ _).drew)) (fun hHeld => ?_)
      refine anyH_take (i := 0) (v := ?_) (some 24) rfl rfl (by kernel_rfl) (by kernel_rfl) (by kernel_rfl) (fun _ _ _ h => h) (by rfl) (by assumption) ?_ ?_
      rotate_left
      · intro w hSw; (try dsimp only at hSw); go_split_ands; go_simp; try (with_reducible rfl)
      try simp only [Act.put, List.setIfInBounds_toArray, List.set_cons_zero, List.set_cons_succ]
      refine anyH_take (i := 1) (v := ?_) (some 25) rfl rfl (by kernel_rfl) (by kernel_rfl) (by kernel_rfl) (fun _ _ _ h => h) (by rfl) (by assumption) ?_ ?_
      rotate_left
      · intro w hSw; (try dsimp only at hSw); go_split_ands; go_simp; try (with_reducible rfl)
      try simp only [Act.put, List.setIfInBounds_toArray, List.set_cons_zero, List.set_cons_succ]
      refine anyH_take (i := 2) (v := ?_) (some 26) rfl rfl (by kernel_rfl) (by kernel_rfl) (by kernel_rfl) (fun _ _ _ h => h) (by rfl) (by assumption) ?_ ?_
      rotate_left
      · intro w hSw; (try dsimp only at hSw); go_split_ands; go_simp; try (with_reducible rfl)
      try simp only [Act.put, List.setIfInBounds_toArray, List.set_cons_zero, List.set_cons_succ]
      refine anyH_take (i := 3) (v := ?_) (some 27) rfl rfl (by kernel_rfl) (by kernel_rfl) (by kernel_rfl) (fun _ _ _ h => h) (by rfl) (by assumption) ?_ ?_
      rotate_left
      · intro w hSw; (try dsimp only at hSw); go_split_ands; go_simp; try (with_reducible rfl)
      try simp only [Act.put, List.setIfInBounds_toArray, List.set_cons_zero, List.set_cons_succ]
      refine anyH_take (i := 4) (v := ?_) (some 28) rfl rfl (by kernel_rfl) (by kernel_rfl) (by kernel_rfl) (fun _ _ _ h => h) (by rfl) (by assumption) ?_ ?_
      rotate_left
      · intro w hSw; (try dsimp only at hSw); go_split_ands; go_simp; try (with_reducible rfl)
      try simp only [Act.put, List.setIfInBounds_toArray, List.set_cons_zero, List.set_cons_succ]
      refine anyH_take (i := 5) (v := ?_) (some 29) rfl rfl (by kernel_rfl) (by kernel_rfl) (by kernel_rfl) (fun _ _ _ h => h) (by rfl) (by assumption) ?_ ?_
      rotate_left
      · intro w hSw; (try dsimp only at hSw); go_split_ands; go_simp; try (with_reducible rfl)
      try simp only [Act.put, List.setIfInBounds_toArray, List.set_cons_zero, List.set_cons_succ]
      refine anyH_take (i := 6) (v := ?_) (some 30) rfl rfl (by kernel_rfl) (by kernel_rfl) (by kernel_rfl) (fun _ _ _ h => h) (by rfl) (by assumption) ?_ ?_
      rotate_left
      · intro w hSw; (try dsimp only at hSw); go_split_ands; go_simp; try (with_reducible rfl)
      try simp only [Act.put, List.setIfInBounds_toArray, List.set_cons_zero, List.set_cons_succ]
      refine anyH_take (i := 7) (v := ?_) (some 31) rfl rfl (by kernel_rfl) (by kernel_rfl) (by kernel_rfl) (fun _ _ _ h => h) (by rfl) (by assumption) ?_ ?_
      rotate_left
      · intro w hSw; (try dsimp only at hSw); go_split_ands; go_simp; try (with_reducible rfl)
      try simp only [Act.put, List.setIfInBounds_toArray, List.set_cons_zero, List.set_cons_succ]
      refine anyH_skip (i := 8) (some 32) rfl rfl (by kernel_rfl) (by kernel_rfl) (by kernel_rfl) (fun _ _ _ h => h) (by rfl) (by assumption) ?_
      try simp only [Act.put, List.setIfInBounds_toArray, List.set_cons_zero, List.set_cons_succ]
      refine anyH_skip (i := 9) (some 33) rfl rfl (by kernel_rfl) (by kernel_rfl) (by kernel_rfl) (fun _ _ _ h => h) (by rfl) (by assumption) ?_
      try simp only [Act.put, List.setIfInBounds_toArray, List.set_cons_zero, List.set_cons_succ]
      refine anyH_skip (i := 10) (some 34) rfl rfl (by kernel_rfl) (by kernel_rfl) (by kernel_rfl) (fun _ _ _ h => h) (by rfl) (by assumption) ?_
      try simp only [Act.put, List.setIfInBounds_toArray, List.set_cons_zero, List.set_cons_succ]
      refine anyH_skip (i := 11) (some 35) rfl rfl (by kernel_rfl) (by kernel_rfl) (by kernel_rfl) (fun _ _ _ h => h) (by rfl) (by assumption) ?_
      try simp only [Act.put, List.setIfInBounds_toArray, List.set_cons_zero, List.set_cons_succ]
      refine anyH_skip (i := 12) (some 36) rfl rfl (by kernel_rfl) (by kernel_rfl) (by kernel_rfl) (fun _ _ _ h => h) (by rfl) (by assumption) ?_
      try simp only [Act.put, List.setIfInBounds_toArray, List.set_cons_zero, List.set_cons_succ]
      refine anyH_skip (i := 13) (some 37) rfl rfl (by kernel_rfl) (by kernel_rfl) (by kernel_rfl) (fun _ _ _ h => h) (by rfl) (by assumption) ?_
      try simp only [Act.put, List.setIfInBounds_toArray, List.set_cons_zero, List.set_cons_succ]
      refine anyH_skip (i := 14) (some 38) rfl rfl (by kernel_rfl) (by kernel_rfl) (by kernel_rfl) (fun _ _ _ h => h) (by rfl) (by assumption) ?_
      try simp only [Act.put, List.setIfInBounds_toArray, List.set_cons_zero, List.set_cons_succ]
      refine anyH_skip (i := 15) (some 39) rfl rfl (by kernel_rfl) (by kernel_rfl) (by kernel_rfl) (fun _ _ _ h => h) (by rfl) (by assumption) ?_
      try simp only [Act.put, List.setIfInBounds_toArray, List.set_cons_zero, List.set_cons_succ]
      refine anyH_skip (i := 16) (some 40) rfl rfl (by kernel_rfl) (by kernel_rfl) (by kernel_rfl) (fun _ _ _ h => h) (by rfl) (by assumption) ?_
      try simp only [Act.put, List.setIfInBounds_toArray, List.set_cons_zero, List.set_cons_succ]
      refine anyH_skip (i := 17) (some 41) rfl rfl (by kernel_rfl) (by kernel_rfl) (by kernel_rfl) (fun _ _ _ h => h) (by rfl) (by assumption) ?_
      try simp only [Act.put, List.setIfInBounds_toArray, List.set_cons_zero, List.set_cons_succ]
      refine anyH_skip (i := 18) (some 42) rfl rfl (by kernel_rfl) (by kernel_rfl) (by kernel_rfl) (fun _ _ _ h => h) (by rfl) (by assumption) ?_
      try simp only [Act.put, List.setIfInBounds_toArray, List.set_cons_zero, List.set_cons_succ]
      refine anyH_skip (i := 19) (some 43) rfl rfl (by kernel_rfl) (by kernel_rfl) (by kernel_rfl) (fun _ _ _ h => h) (by rfl) (by assumption) ?_
      try simp only [Act.put, List.setIfInBounds_toArray, List.set_cons_zero, List.set_cons_succ]
      refine anyH_skip (i := 20) (some 44) rfl rfl (by kernel_rfl) (by kernel_rfl) (by kernel_rfl) (fun _ _ _ h => h) (by rfl) (by assumption) ?_
      try simp only [Act.put, List.setIfInBounds_toArray, List.set_cons_zero, List.set_cons_succ]
      refine anyH_skip (i := 21) (some 45) rfl rfl (by kernel_rfl) (by kernel_rfl) (by kernel_rfl) (fun _ _ _ h => h) (by rfl) (by assumption) ?_
      try simp only [Act.put, List.setIfInBounds_toArray, List.set_cons_zero, List.set_cons_succ]
      refine anyH_skip (i := 22) (some 46) rfl rfl (by kernel_rfl) (by kernel_rfl) (by kernel_rfl) (fun _ _ _ h => h) (by rfl) (by assumption) ?_
      try simp only [Act.put, List.setIfInBounds_toArray, List.set_cons_zero, List.set_cons_succ]
      refine anyH_take (i := 23) (v := ?_) (some 47) rfl rfl (by kernel_rfl) (by kernel_rfl) (by kernel_rfl) (fun _ _ _ h => h) (by rfl) (by assumption) ?_ ?_
      rotate_left
      · intro w hSw; (try dsimp only at hSw); go_split_ands; go_simp; try (with_reducible rfl)
      try simp only [Act.put, List.setIfInBounds_toArray, List.set_cons_zero, List.set_cons_succ]
      refine wpAnyH_done (by kernel_rfl) ?_ _
      have hbf := hHeld.2
      have c13 := (Xr.below hbf lr).cell (i := 13) rfl
      have LC := Lib.hid (LAST.out rfl _ hbf)
      have rc := run_cut O L.length oc lo e hlf (by omega)
      have HBF := Lib.hid (hbw.trans (hbf.mono hbw.size))
      unfold RetOwnI at LC
      rw [HLN.out] at LC
      clear hHeld SH hbf Hr Xr LAST
      go_wp2_with fail
      with_reducible refine LC.out.mono ?_
      rintro e' W9 ⟨E9, d9, rfl, hE9, hb9⟩
      go_wp2_with fail
      go_ret
      rw [HLN.out]
      exact ⟨E9, d9, rfl, own_mono hE9 HBF.out.size, HBF.out.trans (hb9.mono HBF.out.size)⟩

set_option maxRecDepth 100000 in
set_option maxHeartbeats 12800000 in
theorem slBetween_own {w : World} {l bs : Nat} {V : LsV} {mb : Nat} {O : Option Addr} {oc cnt : Nat} {x : Nrm} {c : Col} {o : Opt} {f : Int → Option Value} {L : Its} (h : Lst w l bs V mb O oc cnt x c o f L) (D : Option Addr) (dk : Nat) (t : List Int) (D' : Option Addr) (dk' : Nat) (t' : List Int) (hD : Ints w D t) (hD' : Ints w D' t') (ht : t.length ≤ 16384) (ht' : t'.length ≤ 16384) (hio : ∀ z ∈ t, iok z) (hio' : ∀ z ∈ t', iok z) :
    Calls Tryz.prog 26 #[.pointer (some ⟨l, 0, none⟩), .slice D t.length dk, .slice D' t'.length dk'] w (fun e w' => ∃ A k, e = .returned (.slice A (idsL (btwL (kyN x c o) L t t')).length k) ∧ Ints w' A (idsL (btwL (kyN x c o) L t t')) ∧ (∀ q, blk A = some q → w.heap.size ≤ q) ∧ Below w.heap.size w w') := by
  have X0 := h.box
  unfold lsC at X0
  have l0 := X0.lt
  have c12 := X0.cell (i := 12) rfl
  have NM : ∀ W, (binOp .eql 78 (.map (some mb)) (.map none)).run Tryz.prog W = .ok (.bool false) W := eql_map mb
  have KC := Lib.hid (slKey_own h D t.length dk t hD rfl ht hio)
  have HH := Lib.hid h
  have KC2 := Lib.hid (fun W (hb : Below w.heap.size w W) => slKey_own (h.below hb) D' t'.length dk' t' (hD'.below hb) rfl ht' hio')
  have hkl := kyN_len x c o t
  have hkl' := kyN_len x c o t'
  have hlo := own_le h.row
  have hL100 := h.len
  have FC := Lib.hid (fun (W : World) K kk (hW : Lst W l bs V mb O oc cnt x c o f L) (hK : Ints W K (kyN x c o t)) => slFrom_any hW K kk (kyN x c o t) hK (by omega))
  have FC2 := Lib.hid (fun (W : World) K kk (hW : Lst W l bs V mb O oc cnt x c o f L) (hK : Ints W K (kyN x c o t')) => slFrom_any hW K kk (kyN x c o t') hK (by omega))
  have hf1 : frm (kL (kyN x c o) L) (kyN x c o t') ≤ L.length := by unfold frm; exact Nat.le_trans (cnt_le _) (by rw [kL_len]; exact Nat.le_refl _)
  have HN := Lib.hid (btw_none (K := kyN x c o) (L := L) (a := t) (b := t'))
  have HI := Lib.hid (btw_ids (K := kyN x c o) (L := L) h.srt (a := t) (b := t'))
  have hil := idsL_len (L := L)
  have HIL := Lib.hid hil
  unfold RetOwnI at KC KC2
  generalize btwL (kyN x c o) L t t' = R at *
  generalize frm (kL (kyN x c o) L) (kyN x c o t) = lo at *
  generalize frm (kL (kyN x c o) L) (kyN x c o t') = hi at *
  generalize kyN x c o t = k at *
  generalize kyN x c o t' = k' at *
  clear h hD hD' hio hio' X0 hil
  go_enter Tryz.func26, Tryz.ntmps26
  go_wp2_with fail
  with_reducible refine KC.out.mono ?_
  rintro e W1 ⟨K1, kk1, rfl, hK, hb1⟩
  have FC1 := Lib.hid (FC.out W1 K1 kk1 (HH.out.below hb1) (Sl.of_own hK))
  clear KC FC hK c12
  go_wp2_with fail
  with_reducible refine FC1.out.mono ?_
  rintro e W2 ⟨rfl, hb2⟩
  have hb02 := hb1.trans (hb2.mono hb1.size)
  clear FC1 hb2 hb1
  go_wp2_with fail
  with_reducible refine (KC2.out W2 hb02).mono ?_
  rintro e W3 ⟨K2, kk2, rfl, hK2, hb3⟩
  have hb03 := hb02.trans (hb3.mono hb02.size)
  have FC3 := Lib.hid (FC2.out W3 K2 kk2 (HH.out.below hb03) (Sl.of_own hK2))
  clear KC2 FC2 hK2 hb3 hb02
  go_wp2_with fail
  with_reducible refine FC3.out.mono ?_
  rintro e W4 ⟨rfl, hb4⟩
  have hb04 := hb03.trans (hb4.mono hb03.size)
  have H4 := Lib.hid (HH.out.below hb04)
  have X4 := H4.out.box
  unfold lsC at X4
  have c13 := X4.cell (i := 13) rfl
  clear FC3 hb4 hb03 X4
  by_cases hlt : hi < lo
  · have HR := Lib.hid (HN.out hlt)
    have d1 : decide ((hi : Int) < (lo : Int)) = true := by simp; omega
    clear HN HI
    go_wp2_with fail
    go_ret
    rw [HR.out]
    exact ⟨none, 0, rfl, Sl.nil _ _, (fun q hq => by cases hq), hb04⟩
  · have d1 : decide ((hi : Int) < (lo : Int)) = false := by simp; omega
    have hle : lo ≤ hi := by omega
    have HR := Lib.hid (HI.out hle)
    have rc := run_cut O L.length oc lo hi hle (by omega)
    have hlen : (((idsL L).take hi).drop lo).length = hi - lo := by simp [HIL.out]; omega
    have LC := Lib.hid (cloneI_any (subA O oc lo) (hi - lo) (oc - lo) (((idsL L).take hi).drop lo) W4 ((Ints.sub H4.out.ids hle (by rw [HIL.out]; omega) (by rw [HIL.out]; omega))) hlen (by omega))
    unfold RetOwnI at LC
    rw [hlen] at LC
    have HLN := Lib.hid hlen
    clear HN HI hlt hlen
    go_wp2_with fail
    with_reducible refine LC.out.mono ?_
    rintro e' W9 ⟨E9, d9, rfl, hE9, hb9⟩
    have HE := Lib.hid hE9
    clear LC hE9 rc c13
    go_wp2_with fail
    go_ret
    rw [← HR.out, HLN.out]
    exact ⟨E9, d9, rfl, Sl.of_own HE.out, fun q hq => Nat.le_trans hb04.size (own_blk HE.out hq).1, hb04.trans (hb9.mono hb04.size)⟩
end Go.Proofs.YtpfbnikbebccjaaGreatDoor

