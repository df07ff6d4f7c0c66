/- The contract of mapping.Get. Written by gen_mapget.py. -/
import Derived.Test.YtpamkbbmbeeheaaSetF
import Derived.Test.YtpamkbbmbeeheaaClone
namespace Go.Proofs.Ytpamkbbmbeeheaa
open Go.RowKit Go.Maps Go.WideMaps

theorem RetGet.none (w : World) (w' : World) (h : Below w.heap.size w w') : RetGet none w (.returned (.tuple #[.slice .none 0 0, .bool false])) w' := ⟨.none, 0, rfl, Nat.le_refl _, Sl.nil _ _, h⟩
set_option maxRecDepth 100000 in
set_option maxHeartbeats 6400000 in
theorem mapGet_any (A : Option Addr) (n a : Nat) (ms : List Mp) (x : Int) (tag : ByteArray) (w : World) (hA : Mps w A ms) (hn : ms.length = n) (hz : MpsSz ms) :
    Calls Try.prog 49 #[.slice A n a, .int .i64 x, .string tag] w (RetGet (getV ms x tag) w) := by
  subst hn
  have CK := Lib.hid (mapCheck_any A ms.length a ms w hA rfl hz)
  have HA := Lib.hid hA
  have hnz := hz.n
  have HZ := Lib.hid hz.e
  have V0 := Lib.hid (fun (h : ¬ mapErr ms = 0) => show getV ms x tag = none from if_neg h)
  have V1 := Lib.hid (fun (h : mapErr ms = 0) => show getV ms x tag = getM ms x tag from if_pos h)
  have G1 := Lib.hid (fun k hk h hb => getM_at (ms := ms) (x := x) (tag := tag) (k := k) hk h hb)
  have G0 := Lib.hid (getM_none (ms := ms) (x := x) (tag := tag))
  generalize getM ms x tag = r at *
  generalize getV ms x tag = rv at *
  generalize mapErr ms = me at *
  clear hA hz
  go_enter Try.func49, Try.ntmps49
  go_wp2_with fail
  with_reducible refine CK.out.mono ?_
  rintro e W1 ⟨rfl, hb1⟩
  clear CK
  by_cases hme : me = 0
  rotate_left
  · have q1 : (me != 0) = true := by simpa using hme
    obtain rfl := V0.out hme
    clear V0 V1 hme
    go_wp2_with fail
    go_ret2
    exact RetGet.none _ _ hb1
  have q1 : (me != 0) = false := by simpa using hme
  obtain rfl := V1.out hme
  clear V0 V1 hme
  have Bk : Below W1.heap.size W1 (W1.alloc (.cells #[.int .i64 x, .string tag] 80)) := (Below.refl _ _).alloc (Nat.le_refl _) _
  have kx0 : (W1.alloc (.cells #[.int .i64 x, .string tag] 80)).cell? ⟨W1.heap.size, 0, none⟩ = some (.int .i64 x) := by simp
  have kx1 : (W1.alloc (.cells #[.int .i64 x, .string tag] 80)).cell? ⟨W1.heap.size, 1, none⟩ = some (.string tag) := by simp
  have sk : (W1.alloc (.cells #[.int .i64 x, .string tag] 80)).heap.size = W1.heap.size + 1 := by simp
  have WkE : ∃ Wk, (W1.alloc (.cells #[.int .i64 x, .string tag] 80)) = Wk := ⟨_, rfl⟩
  go_wp2_with fail
  obtain ⟨Wk, hWk⟩ := WkE
  rw [hWk] at Bk kx0 kx1 sk ⊢
  clear hWk
  have hbk := hb1.trans (Bk.mono hb1.size)
  have hxk : W1.heap.size < Wk.heap.size := by omega
  go_loopw [19] (fun u wr => ∃ i : Nat, i ≤ ms.length ∧ u = .int .i64 i ∧ (∀ t, (ht : t < ms.length) → t < i → keyM ms[t] ≠ (x, tag)) ∧ Below Wk.heap.size Wk wr) (fun u _ => ms.length - (intOf u).toNat)
  case atStart => exact ⟨0, Nat.zero_le _, rfl, fun t _ h => by omega, Below.refl _ _⟩
  case round =>
    obtain ⟨i, hi, rfl, hno, hbr⟩ := hrel
    have HNO := Lib.hid hno
    clear hno
    have hbw := hbk.trans (hbr.mono hbk.size)
    by_cases hlt : i < ms.length
    · obtain ⟨b1, o1, rfl, hbl, hcell⟩ := (HA.out.below hbw).at hlt
      obtain ⟨C, cc, c0, c1, c2, hcc, hC⟩ := hcell i hlt
      obtain ⟨z1, z2⟩ := HZ.out i hlt
      have HY := Lib.hid (fun h => G1.out i hlt h HNO.out)
      have HN := Lib.hid (fun h => all_up (P := fun m : Mp => keyM m ≠ (x, tag)) hlt HNO.out h)
      have KO := Lib.hid (fun W => mapKeyOf_any ms[i] (.slice C ms[i].to.length cc) W)
      have HK := Lib.hid (show keyM ms[i] = (ms[i].frm, ms[i].tag) from rfl)
      clear hcell
      generalize ms[i] = mi at *
      generalize keyM mi = kx at *
      obtain ⟨mf, mt, mg⟩ := mi
      dsimp only at *
      obtain rfl := HK.out
      clear HK
      obtain ⟨bb, hbb⟩ : ∃ bb, decide ((mf, mg) = (x, tag)) = bb := ⟨_, rfl⟩
      have NR1 : ∀ W, (binOp .eql 80 (.agg #[.int .i64 mf, .string mg]) (.agg #[.int .i64 x, .string tag])).run Try.prog W = .ok (.bool bb) W := fun W => by rw [eql_mkey mf x mg tag W, hbb]
      have HBB := Lib.hid hbb
      clear hbb
      have NR := Lib.hid NR1
      clear NR1
      have Ba : Below wr.heap.size wr (wr.alloc (.cells #[.int .i64 mf, .slice C mt.length cc, .string mg] 38)) := (Below.refl _ _).alloc (Nat.le_refl _) _
      have x0 : (wr.alloc (.cells #[.int .i64 mf, .slice C mt.length cc, .string mg] 38)).cell? ⟨wr.heap.size, 0, none⟩ = some (.int .i64 mf) := by simp
      have x1 : (wr.alloc (.cells #[.int .i64 mf, .slice C mt.length cc, .string mg] 38)).cell? ⟨wr.heap.size, 1, none⟩ = some (.slice C mt.length cc) := by simp
      have x2 : (wr.alloc (.cells #[.int .i64 mf, .slice C mt.length cc, .string mg] 38)).cell? ⟨wr.heap.size, 2, none⟩ = some (.string mg) := by simp
      have sa : (wr.alloc (.cells #[.int .i64 mf, .slice C mt.length cc, .string mg] 38)).heap.size = wr.heap.size + 1 := by simp
      have HCa := Lib.hid (hC.below Ba)
      have hba := hbr.trans (Ba.mono hbr.size)
      have y0 := (hba.cell (p := ⟨W1.heap.size, 0, none⟩) hxk).trans kx0
      have y1 := (hba.cell (p := ⟨W1.heap.size, 1, none⟩) hxk).trans kx1
      have WaE : ∃ Wa, (wr.alloc (.cells #[.int .i64 mf, .slice C mt.length cc, .string mg] 38)) = Wa := ⟨_, rfl⟩
      clear hC
      go_wp2_with fail
      obtain ⟨Wa, hWa⟩ := WaE
      rw [hWa] at Ba x0 x1 x2 sa HCa hba y0 y1 ⊢
      clear hWa c0 c1 c2
      have hxa : wr.heap.size < Wa.heap.size := by omega
      have hya : W1.heap.size < Wa.heap.size := by have := hba.size; omega
      have KS := Lib.hid (show ∀ W', Below Wa.heap.size Wa W' → W'.cell? ⟨wr.heap.size, 0, none⟩ = some (.int .i64 mf) ∧ W'.cell? ⟨wr.heap.size, 1, none⟩ = some (.slice C mt.length cc) ∧ W'.cell? ⟨wr.heap.size, 2, none⟩ = some (.string mg) ∧ W'.cell? ⟨W1.heap.size, 0, none⟩ = some (.int .i64 x) ∧ W'.cell? ⟨W1.heap.size, 1, none⟩ = some (.string tag) ∧ Below Wa.heap.size Wa W' from fun W' hb => ⟨(hb.cell (p := ⟨wr.heap.size, 0, none⟩) hxa).trans x0, (hb.cell (p := ⟨wr.heap.size, 1, none⟩) hxa).trans x1, (hb.cell (p := ⟨wr.heap.size, 2, none⟩) hxa).trans x2, (hb.cell (p := ⟨W1.heap.size, 0, none⟩) hya).trans y0, (hb.cell (p := ⟨W1.heap.size, 1, none⟩) hya).trans y1, hb⟩)
      have KO1 := Lib.hid (fun W' (hb : Below Wa.heap.size Wa W') => (KO.out W').mono (R' := fun e W' => e = .returned (.agg #[.int .i64 mf, .string mg]) ∧ (W'.cell? ⟨wr.heap.size, 0, none⟩ = some (.int .i64 mf) ∧ W'.cell? ⟨wr.heap.size, 1, none⟩ = some (.slice C mt.length cc) ∧ W'.cell? ⟨wr.heap.size, 2, none⟩ = some (.string mg) ∧ W'.cell? ⟨W1.heap.size, 0, none⟩ = some (.int .i64 x) ∧ W'.cell? ⟨W1.heap.size, 1, none⟩ = some (.string tag) ∧ Below Wa.heap.size Wa W')) (fun e w' ⟨he, hb'⟩ => ⟨he, KS.out w' (hb.trans (hb'.mono hb.size))⟩))
      clear x0 x1 x2 y0 y1 KO
      refine wp_region_held_drew (S := fun W' => W'.cell? ⟨wr.heap.size, 0, none⟩ = some (.int .i64 mf) ∧ W'.cell? ⟨wr.heap.size, 1, none⟩ = some (.slice C mt.length cc) ∧ W'.cell? ⟨wr.heap.size, 2, none⟩ = some (.string mg) ∧ W'.cell? ⟨W1.heap.size, 0, none⟩ = some (.int .i64 x) ∧ W'.cell? ⟨W1.heap.size, 1, none⟩ = some (.string tag) ∧ Below Wa.heap.size Wa W') (by kernel_rfl) (KS.out _ (Below.refl _ _).drew) (fun hHeld => ?_)
      refine anyH_take (i := 0) (v := ?_) (some 23) rfl rfl (by kernel_rfl) (by kernel_rfl) (by kernel_rfl) (fun _ _ _ h => h) (by rfl) (by assumption) ?_ ?_
      rotate_left
      · intro w hSw; (try dsimp only at hSw); go_split_ands; go_simp; try (with_reducible rfl)
      try simp only [Act.put, List.setIfInBounds_toArray, List.set_cons_zero, List.set_cons_succ]
      refine anyH_take (i := 2) (v := ?_) (some 25) rfl rfl (by kernel_rfl) (by kernel_rfl) (by kernel_rfl) (fun _ _ _ h => h) (by rfl) (by assumption) ?_ ?_
      rotate_left
      · intro w hSw; (try dsimp only at hSw); go_split_ands; go_simp; try (with_reducible rfl)
      try simp only [Act.put, List.setIfInBounds_toArray, List.set_cons_zero, List.set_cons_succ]
      refine anyH_call (i := 1) (some 24) rfl rfl (by kernel_rfl) (by rfl) (by go_simp) (KO1.out _ hHeld.2.2.2.2.2) (fun W3 hS6 => ?_)
      clear hHeld
      have hHeld := hS6
      clear hS6
      try simp only [Act.put, List.setIfInBounds_toArray, List.set_cons_zero, List.set_cons_succ]
      have NR1 := NR.out
      clear NR
      refine anyH_take (i := 3) (v := ?_) (some 26) rfl rfl (by kernel_rfl) (by kernel_rfl) (by kernel_rfl) (fun _ _ _ h => h) (by rfl) (by assumption) ?_ ?_
      rotate_left
      · intro w hSw; (try dsimp only at hSw); go_split_ands; go_simp; try (with_reducible rfl)
      try simp only [Act.put, List.setIfInBounds_toArray, List.set_cons_zero, List.set_cons_succ]
      refine wpAnyH_done (by kernel_rfl) ?_ _
      obtain ⟨u0, u1, u2, _, _, Bp⟩ := hHeld
      have hb2 := hba.trans (Bp.mono hba.size)
      have HCp := Lib.hid (HCa.out.below Bp)
      have hb3 := hbk.trans (hb2.mono hbk.size)
      clear KS KO1 NR1 HCa
      cases bb with
      | true =>
        have he := of_decide_eq_true HBB.out
        obtain rfl := HY.out he
        have CL := Lib.hid (cloneI_any C mt.length cc mt W3 HCp.out rfl z1)
        clear HY HN he HBB
        go_wp2_with fail
        with_reducible refine CL.out.mono ?_
        intro e W4 hR
        obtain ⟨E, d, rfl, hd, hE, hb4⟩ := hR.is
        have hb5 := hb3.trans (hb4.mono hb3.size)
        have HE := Lib.hid hE
        clear hE hR CL u0 u1 u2
        go_wp2_with fail
        go_ret2
        exact ⟨E, d, rfl, hd, HE.out, hb5⟩
      | false =>
        have he := of_decide_eq_false HBB.out
        have HQ := Lib.hid (HN.out he)
        clear HY HN he HBB
        go_wp2_with fail
        go_roundw
        case rel => exact ⟨i + 1, by omega, by go_num, HQ.out, hb2⟩
        case measure => simp [intOf]; omega
    · obtain rfl := G0.out (fun t ht => HNO.out t ht (by omega))
      go_wp2_with fail
      go_ret2
      exact RetGet.none _ _ hbw

end Go.Proofs.Ytpamkbbmbeeheaa
