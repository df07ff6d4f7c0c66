/- The walk of the law CasemapParts. Written by gen_claws.py. -/
import Derived.Test.YtpamkbbmbeeheaaCaseV
import Derived.Test.YtpamkbbmbeeheaaCaseTt
import Derived.Test.YtpamkbbmbeeheaaCaseRd
namespace Go.Proofs.Ytpamkbbmbeeheaa
open Go.RowKit Go.Maps Go.WideMaps

theorem Ints.kept {w w' : World} {A : Option Addr} {l : List Int} {r : Option Nat} (h : Ints w A l) (hg : w.grownBy w' r) (hne : ∀ b o, A = some ⟨b, o, none⟩ → some b ≠ r) : Ints w' A l := by
  intro hl
  obtain ⟨b, o, rfl, hc⟩ := h hl
  refine ⟨b, o, rfl, fun j u hu => ?_⟩
  have h1 := hc j u hu
  exact (World.cell?_of_block (hg.block b (World.block_lt_of_cell? w _ h1) (hne b o rfl))).trans h1
theorem info_rng : (Try.prog.info? 48).map (fun i => (i.zero, i.size, i.bytes)) = some (some (.agg #[.int .i64 0, .int .i64 0]), 2, 16) := by kernel_rfl
theorem run_cutR (b o n a k : Nat) (h1 : k < n) (h2 : n ≤ a) (W : World) : (Instr.sliceAt 23 (.slice (some ⟨b, o, none⟩) n a) (some (.int .i64 k)) (some (.int .i64 ((k : Int) + 1))) none).run Try.prog W = .ok (.slice (some ⟨b, o + k * 2, none⟩) 1 (a - k)) W := by
  have hu := Try.underlying23
  have he : Try.prog.elem 23 = 48 := by kernel_rfl
  obtain ⟨i, hi', _, hs, _⟩ := info_parts info_rng
  rw [run_sliceAt_slice (h := by rw [he]; exact hu), run_slice_lh (ht := by rw [he]; exact hu) (h0 := by omega) (h1 := by omega) (h2 := by omega)]
  have e2 : ¬ a = k := by omega
  have e3 : (⟨b, o, none⟩ : Addr).add (k * 2) = ⟨b, o + k * 2, none⟩ := by
    unfold Addr.add
    split
    · next h0 => rw [h0]; rfl
    · rfl
  simp [sizeOf, typeInfo, he, hi', hs, sliced, e2, e3]
/-- one part: how the text that Title gives for it is made of pieces -/
theorem one_pre {t p : List Int} {L H : Nat} (hL : L ≤ t.length) : ((t.take L ++ p ++ t.drop H).take L).drop 0 = t.take L := by
  rw [List.drop_zero, List.append_assoc, List.take_append_of_le_length (by simp; omega), List.take_take, Nat.min_self]
theorem one_post {t p : List Int} {L H : Nat} (hL : L ≤ t.length) : ((t.take L ++ p ++ t.drop H).take (t.take L ++ p ++ t.drop H).length).drop (L + p.length) = t.drop H := by
  rw [List.take_length, List.drop_append_of_le_length (by simp; omega), List.drop_of_length_le (by simp; omega)]
  rfl
theorem one_mid {t p : List Int} {L H : Nat} (hL : L ≤ t.length) : ((t.take L ++ p ++ t.drop H).take (L + p.length)).drop L = p := by
  rw [List.take_append_of_le_length (by simp; omega), List.take_of_length_le (by simp; omega), List.drop_append_of_le_length (by simp; omega), List.drop_of_length_le (by simp; omega)]
  rfl
theorem one_len {t p : List Int} {L H : Nat} (hL : L ≤ t.length) : (t.take L ++ p ++ t.drop H).length = L + p.length + (t.length - H) := by simp; omega

set_option maxRecDepth 100000 in
set_option maxHeartbeats 25600000 in
theorem CasemapParts_any (v0 v1 v2 v3 v4 v5 : Value) (C : Cse) (A : Option Addr) (n a : Nat) (t : List Int) (P : Option Addr) (np cp : Nat) (ps : List Rg) (w : World) (h : CaseAt w v0 v1 v2 v3 v4 v5 C) (hl : CaseLn C) (hA : Ints w A t) (hn : t.length = n) (hna : n ≤ a) (haz : a ≤ 9223372036854775807) (hok : ∀ x ∈ t, iok x) (hP : Rgs w P ps) (hp : ps.length = np) (hcp : np ≤ cp) (_hcz : cp ≤ 9223372036854775807) :
    Calls Try.prog 10 #[.agg #[v0, v1, v2, v3, v4, v5], .slice A n a, .slice P np cp] w (RetTrue w) := by
  subst hn
  subst hp
  obtain ⟨A0, n0, c0, rfl⟩ := h.lower.sl
  obtain ⟨A1, n1, c1, rfl⟩ := h.upper.sl
  obtain ⟨A2, n2, c2, rfl⟩ := h.title.sl
  obtain ⟨A3, n3, c3, rfl⟩ := h.fold.sl
  obtain ⟨A4, n4, c4, rfl⟩ := h.cased.sl
  obtain ⟨A5, n5, c5, rfl⟩ := h.ign.sl
  have B0 : Below w.heap.size w (w.alloc (.cells #[.slice A0 n0 c0, .slice A1 n1 c1, .slice A2 n2 c2, .slice A3 n3 c3, .slice A4 n4 c4, .slice A5 n5 c5] 27)) := (Below.refl _ _).alloc (Nat.le_refl _) _
  have X0 : Box (w.alloc (.cells #[.slice A0 n0 c0, .slice A1 n1 c1, .slice A2 n2 c2, .slice A3 n3 c3, .slice A4 n4 c4, .slice A5 n5 c5] 27)) w.heap.size 27 [.slice A0 n0 c0, .slice A1 n1 c1, .slice A2 n2 c2, .slice A3 n3 c3, .slice A4 n4 c4, .slice A5 n5 c5] := Box.new w 27 [.slice A0 n0 c0, .slice A1 n1 c1, .slice A2 n2 c2, .slice A3 n3 c3, .slice A4 n4 c4, .slice A5 n5 c5] rfl
  have W0E : ∃ W0, (w.alloc (.cells #[.slice A0 n0 c0, .slice A1 n1 c1, .slice A2 n2 c2, .slice A3 n3 c3, .slice A4 n4 c4, .slice A5 n5 c5] 27)) = W0 := ⟨_, rfl⟩
  have CA := Lib.hid (fun W (hb : Below w.heap.size w W) => h.below hb)
  have HL := Lib.hid hl
  have HA := Lib.hid (fun W (hb' : Below w.heap.size w W) => hA.below hb')
  have HOK := Lib.hid hok
  have SZ := Lib.hid (fewT_sz (C := C) (t := t))
  have HP := Lib.hid (fun W (hb' : Below w.heap.size w W) => hP.below hb')
  clear h hl hA hok hP
  have e0 := X0.cell (i := 0) rfl
  have e1 := X0.cell (i := 1) rfl
  have e2 := X0.cell (i := 2) rfl
  have e3 := X0.cell (i := 3) rfl
  have e4 := X0.cell (i := 4) rfl
  have e5 := X0.cell (i := 5) rfl
  go_enter Try.func10, Try.ntmps10
  go_wp2_with fail
  clear e0 e1 e2 e3 e4 e5
  obtain ⟨W0, hW0⟩ := W0E
  rw [hW0] at B0 X0 ⊢
  clear hW0
  have KM0 := Lib.hid (fun W (hb' : Below W0.heap.size W0 W) => few_any _ _ _ _ _ _ C A t.length a t W (CA.out W (B0.trans (hb'.mono B0.size))) HL.out rfl (by omega))
  have HX := Lib.hid X0
  clear X0
  with_reducible refine (KM0.out W0 (Below.refl _ _)).mono ?_
  rintro e W1 ⟨rfl, hb1⟩
  have hw1 := B0.trans (hb1.mono B0.size)
  clear KM0
  cases hs : fewT C t with
  | false =>
    go_wp2_with fail
    with_reducible refine (alive_any W1).mono ?_
    rintro e Wz ⟨rfl, hbz9⟩
    have hb9 := hw1.trans (hbz9.mono hw1.size)
    go_wp2_with fail
    go_ret
    exact ⟨rfl, hb9⟩
  | true =>
    by_cases hnp : 40 < ps.length
    · have q0 : decide ((40 : Int) < ps.length) = true := decide_eq_true (by omega)
      go_wp2_with fail
      with_reducible refine (alive_any W1).mono ?_
      rintro e Wz ⟨rfl, hbz9⟩
      have hb9 := hw1.trans (hbz9.mono hw1.size)
      go_wp2_with fail
      go_ret
      exact ⟨rfl, hb9⟩
    have q0 : decide ((40 : Int) < ps.length) = false := decide_eq_false (by omega)
    obtain ⟨hz, ht⟩ := SZ.out hs
    have WC := Lib.hid (Within_any P ps.length cp ps t.length W1 (HP.out W1 hw1) rfl (by omega))
    go_wp2_with fail
    with_reducible refine WC.out.mono ?_
    rintro e W2 ⟨rfl, hq⟩
    have hb3 := hb1.trans (hq.below.mono hb1.size)
    have hw2 := B0.trans (hb3.mono B0.size)
    clear WC hq
    cases hw : withinL t.length 0 ps with
    | false =>
      go_wp2_with fail
      with_reducible refine (alive_any W2).mono ?_
      rintro e Wz ⟨rfl, hbz9⟩
      have hb9 := hw2.trans (hbz9.mono hw2.size)
      go_wp2_with fail
      go_ret
      exact ⟨rfl, hb9⟩
    | true =>
      have HW := Lib.hid hw
      clear hw
      have OKD := Lib.hid (caseD_isok C)
      have TC := Lib.hid (fun W PP cc (qs : List Rg) nn (hb' : Below w.heap.size w W) (hP : Rgs W PP qs) (hp : qs.length = nn) (hpz : nn ≤ 1000) => Title_fresh _ _ _ _ _ _ C A t.length a t PP nn cc qs W (CA.out W hb') hz (HA.out W hb') rfl (by omega) hna haz HOK.out hP hp (by omega))
      have TE := Lib.hid (titleL_ok (C := caseD C) HW.out)
      have LB := Lib.hid (titleP_len OKD.out t (Nat.zero_le _) HW.out)
      have TA := Lib.hid (fun at_ k hk => titleP_at (C := caseD C) (t := t) (a := at_) (ps := ps) (k := k) hk)
      have TN := Lib.hid (fun at_ k hk => titleP_end (C := caseD C) (t := t) (a := at_) (ps := ps) (k := k) hk)
      have WA := Lib.hid (fun at_ k hk h => withinL_at (n := t.length) (a := at_) (ps := ps) (k := k) hk h)
      have HTP := Lib.hid (show titleP (caseD C) t 0 (ps.drop 0) = titleP (caseD C) t 0 ps from rfl)
      have JS := Lib.hid (fun a b hb => joinI_same (t := t) (a := a) (b := b) hb)
      have TO := Lib.hid (fun (p : Rg) h1 h2 h3 => titleL_one (C := caseD C) (t := t) (p := p) h1 h2 h3)
      generalize titleP (caseD C) t 0 ps = TP at *
      go_wp2_with fail
      go_loopw [7, 8, 9, 10, 11, 12] (fun v ua u _ _ _ wr => ∃ (k at_ : Nat) (out : List Int), k ≤ ps.length ∧ u = .int .i64 k ∧ ua = .int .i64 at_ ∧ at_ ≤ t.length ∧ withinL t.length at_ (ps.drop k) = true ∧ out ++ titleP (caseD C) t at_ (ps.drop k) = TP ∧ RowI W2.heap.size wr v out ∧ Below W2.heap.size W2 wr) (fun _ _ u _ _ _ _ => ps.length - (intOf u).toNat)
      case atStart => exact ⟨0, 0, [], Nat.zero_le _, rfl, rfl, Nat.zero_le _, HW.out, HTP.out, RowI.nil _ _, Below.refl _ _⟩
      case round =>
        obtain ⟨k, at_, out, hk, rfl, rfl, hat, hWL, hEQ, hrow, hbr⟩ := hrel
        have hwr := hw2.trans (hbr.mono hw2.size)
        have HEQ := Lib.hid hEQ
        have HWL := Lib.hid hWL
        have hol : out.length ≤ 67108864 := by
          have h1 := congrArg List.length hEQ
          have h2 := LB.out
          rw [List.length_append] at h1
          have h3 : 64 * (t.length - 0) ≤ 64 * 1048576 := Nat.mul_le_mul_left _ (by omega)
          omega
        obtain ⟨AA, cc, rfl, hown⟩ := hrow
        have HO := Lib.hid hown
        clear hown hEQ hWL
        by_cases hlt : k < ps.length
        · obtain ⟨b1, o1, hPA, hbl, hcell⟩ := (HP.out W2 hw2).at hlt
          subst hPA
          obtain ⟨p0c, p1c⟩ := hcell k hlt
          have lbp := World.block_lt_of_cell? W2 _ p0c
          have g0 := (hbr.cell (p := ⟨b1, o1 + k * 2, none⟩) lbp).trans p0c
          have g1 := (hbr.cell (p := ⟨b1, o1 + k * 2 + 1, none⟩) lbp).trans p1c
          obtain ⟨i1, i2, i3, i4⟩ := WA.out at_ k hlt HWL.out
          have TAk := Lib.hid (TA.out at_ k hlt)
          have P4 := Lib.hid i4
          have TOk := Lib.hid (TO.out ps[k] (by omega) i2 i3)
          clear hcell i4 HWL
          generalize ps[k] = pp at *
          obtain ⟨plo, phi⟩ := pp
          dsimp only at *
          obtain ⟨L, rfl⟩ : ∃ L : Nat, plo = L := ⟨plo.toNat, by omega⟩
          obtain ⟨H, rfl⟩ : ∃ H : Nat, phi = H := ⟨phi.toNat, by omega⟩
          simp only [Int.toNat_natCast] at TAk TOk
          have y1 : at_ ≤ L := by omega
          have y2 : L ≤ H := by omega
          have y3 : H ≤ t.length := by omega
          have ci0 : (0 : Int) ≤ k := by omega
          have ci1 : (k : Int) < ps.length := by omega
          have Bw : Below wr.heap.size wr (wr.alloc (.cells #[.int .i64 L, .int .i64 H] 48)) := (Below.refl _ _).alloc (Nat.le_refl _) _
          have XP := Lib.hid (Box.new wr 48 [.int .i64 L, .int .i64 H] rfl)
          have HO1 := Lib.hid (own_keep HO.out Bw)
          have hb4 := hbr.trans (Bw.mono hbr.size)
          have WpE : ∃ Wp, wr.alloc (.cells #[.int .i64 L, .int .i64 H] 48) = Wp := ⟨_, rfl⟩
          go_wp2_with fail
          obtain ⟨Wp, hWp⟩ := WpE
          rw [hWp] at XP HO1 hb4 Bw ⊢
          clear hWp g0 g1
          have hsp : wr.heap.size ≤ Wp.heap.size := Bw.size
          have hogl : ∀ q, (Value.slice AA out.length cc).ownBlock = some q → q < Wp.heap.size := fun q hq => (HO1.out.lt q hq).2
          generalize wr.heap.size = bp at *
          have hwp := hw2.trans (hb4.mono hw2.size)
          have XB := Lib.hid (HX.out.below (hb3.trans (hb4.mono hb3.size)) HX.out.lt)
          have rcP := run_cutR b1 o1 ps.length cp k hlt hcp
          have qk : IntKind.i64.wrap ((k : Int) + 1) = (k : Int) + 1 := IntWalk.i64_in _ (by omega)
          have RPk := Lib.hid (fun W (hb' : Below W2.heap.size W2 W) => show Rgs W (some ⟨b1, o1 + k * 2, none⟩) [⟨L, H⟩] from fun _ => ⟨b1, o1 + k * 2, rfl, fun j u hu => by
            have hj : j < 2 := by have := (List.getElem?_eq_some_iff.1 hu).1; simpa [flatK, Rg.cells] using this
            match j, hj, hu with
            | 0, _, hu => simp [flatK, Rg.cells] at hu; rw [← hu]; exact (hb'.cell (p := ⟨b1, o1 + k * 2, none⟩) lbp).trans p0c
            | 1, _, hu => simp [flatK, Rg.cells] at hu; rw [← hu]; exact (hb'.cell (p := ⟨b1, o1 + k * 2 + 1, none⟩) lbp).trans p1c⟩)
          have S9H := Lib.hid (fun W' (hb' : Below Wp.heap.size Wp W') => show W'.cell? ⟨w.heap.size, 0, none⟩ = some (.slice A0 n0 c0) ∧ W'.cell? ⟨w.heap.size, 1, none⟩ = some (.slice A1 n1 c1) ∧ W'.cell? ⟨w.heap.size, 2, none⟩ = some (.slice A2 n2 c2) ∧ W'.cell? ⟨w.heap.size, 3, none⟩ = some (.slice A3 n3 c3) ∧ W'.cell? ⟨w.heap.size, 4, none⟩ = some (.slice A4 n4 c4) ∧ W'.cell? ⟨w.heap.size, 5, none⟩ = some (.slice A5 n5 c5) ∧ Below Wp.heap.size Wp W' from ⟨(XB.out.below hb' XB.out.lt).cell (i := 0) rfl, (XB.out.below hb' XB.out.lt).cell (i := 1) rfl, (XB.out.below hb' XB.out.lt).cell (i := 2) rfl, (XB.out.below hb' XB.out.lt).cell (i := 3) rfl, (XB.out.below hb' XB.out.lt).cell (i := 4) rfl, (XB.out.below hb' XB.out.lt).cell (i := 5) rfl, hb'⟩)
          have KT := Lib.hid ((TC.out Wp.drew (some ⟨b1, o1 + k * 2, none⟩) (cp - k) [⟨L, H⟩] 1 hwp.drew (RPk.out _ hb4.drew) rfl (by omega)).mono (R' := fun e W' => ∃ v, e = .returned v ∧ (W'.cell? ⟨w.heap.size, 0, none⟩ = some (.slice A0 n0 c0) ∧ W'.cell? ⟨w.heap.size, 1, none⟩ = some (.slice A1 n1 c1) ∧ W'.cell? ⟨w.heap.size, 2, none⟩ = some (.slice A2 n2 c2) ∧ W'.cell? ⟨w.heap.size, 3, none⟩ = some (.slice A3 n3 c3) ∧ W'.cell? ⟨w.heap.size, 4, none⟩ = some (.slice A4 n4 c4) ∧ W'.cell? ⟨w.heap.size, 5, none⟩ = some (.slice A5 n5 c5) ∧ Below Wp.heap.size Wp W') ∧ (∃ E d, v = .slice E (titleL (caseD C) t [⟨L, H⟩]).length d ∧ ((titleL (caseD C) t [⟨L, H⟩]).length ≤ d ∧ d ≤ 9223372036854775807) ∧ Ints W' E (titleL (caseD C) t [⟨L, H⟩]) ∧ (∀ b o, E = some ⟨b, o, none⟩ → Wp.heap.size ≤ b) ∧ Below Wp.heap.size Wp W')) (fun e W' ⟨E, d, he, z1, z2, z3, z4, z5⟩ => ⟨_, he, S9H.out W' (Below.trans (Below.refl _ _).drew z5), E, d, rfl, ⟨z1, z2⟩, z3, z4, Below.trans (Below.refl _ _).drew z5⟩))
          have lpt := partT_len OKD.out t y2
          have lp3 : 64 * (H - L) ≤ 64 * 1048576 := Nat.mul_le_mul_left _ (by omega)
          rw [TOk.out] at KT
          rw [JS.out at_ L (Nat.le_trans y2 y3)] at TAk
          generalize partT (caseD C) t L H = Pt at *
          have HO1E := Lib.hid (one_len (t := t) (p := Pt) (L := L) (H := H) (by omega))
          have O1 := Lib.hid (one_pre (t := t) (p := Pt) (L := L) (H := H) (by omega))
          have O2 := Lib.hid (one_post (t := t) (p := Pt) (L := L) (H := H) (by omega))
          have O3 := Lib.hid (one_mid (t := t) (p := Pt) (L := L) (H := H) (by omega))
          generalize t.take L ++ Pt ++ t.drop H = one at *
          clear TOk p0c p1c lbp RPk
          refine wp_region_held_drew (S := fun W' => W'.cell? ⟨w.heap.size, 0, none⟩ = some (.slice A0 n0 c0) ∧ W'.cell? ⟨w.heap.size, 1, none⟩ = some (.slice A1 n1 c1) ∧ W'.cell? ⟨w.heap.size, 2, none⟩ = some (.slice A2 n2 c2) ∧ W'.cell? ⟨w.heap.size, 3, none⟩ = some (.slice A3 n3 c3) ∧ W'.cell? ⟨w.heap.size, 4, none⟩ = some (.slice A4 n4 c4) ∧ W'.cell? ⟨w.heap.size, 5, none⟩ = some (.slice A5 n5 c5) ∧ Below Wp.heap.size Wp W') (by kernel_rfl) (S9H.out _ (Below.refl _ _).drew) (fun hHeld => ?_)
          refine anyH_take (i := 0) (v := ?_) (some 40) rfl rfl (by kernel_rfl) (by kernel_rfl) (by kernel_rfl) (fun _ _ _ h => h) (by rfl) (by assumption) ?_ ?_
          rotate_left
          · intro w hSw; (try dsimp only at hSw); go_split_ands; go_simp; try (with_reducible rfl)
          try simp only [Act.put, List.setIfInBounds_toArray, List.set_cons_zero, List.set_cons_succ]
          refine anyH_take (i := 1) (v := ?_) (some 41) rfl rfl (by kernel_rfl) (by kernel_rfl) (by kernel_rfl) (fun _ _ _ h => h) (by rfl) (by assumption) ?_ ?_
          rotate_left
          · intro w hSw; (try dsimp only at hSw); go_split_ands; go_simp; try (with_reducible rfl)
          try simp only [Act.put, List.setIfInBounds_toArray, List.set_cons_zero, List.set_cons_succ]
          refine anyH_take (i := 2) (v := ?_) (some 42) rfl rfl (by kernel_rfl) (by kernel_rfl) (by kernel_rfl) (fun _ _ _ h => h) (by rfl) (by assumption) ?_ ?_
          rotate_left
          · intro w hSw; (try dsimp only at hSw); go_split_ands; go_simp; try (with_reducible rfl)
          try simp only [Act.put, List.setIfInBounds_toArray, List.set_cons_zero, List.set_cons_succ]
          refine anyH_take (i := 3) (v := ?_) (some 43) rfl rfl (by kernel_rfl) (by kernel_rfl) (by kernel_rfl) (fun _ _ _ h => h) (by rfl) (by assumption) ?_ ?_
          rotate_left
          · intro w hSw; (try dsimp only at hSw); go_split_ands; go_simp; try (with_reducible rfl)
          try simp only [Act.put, List.setIfInBounds_toArray, List.set_cons_zero, List.set_cons_succ]
          refine anyH_take (i := 4) (v := ?_) (some 44) rfl rfl (by kernel_rfl) (by kernel_rfl) (by kernel_rfl) (fun _ _ _ h => h) (by rfl) (by assumption) ?_ ?_
          rotate_left
          · intro w hSw; (try dsimp only at hSw); go_split_ands; go_simp; try (with_reducible rfl)
          try simp only [Act.put, List.setIfInBounds_toArray, List.set_cons_zero, List.set_cons_succ]
          refine anyH_take (i := 5) (v := ?_) (some 45) rfl rfl (by kernel_rfl) (by kernel_rfl) (by kernel_rfl) (fun _ _ _ h => h) (by rfl) (by assumption) ?_ ?_
          rotate_left
          · intro w hSw; (try dsimp only at hSw); go_split_ands; go_simp; try (with_reducible rfl)
          try simp only [Act.put, List.setIfInBounds_toArray, List.set_cons_zero, List.set_cons_succ]
          refine anyH_take (i := 6) (v := ?_) (some 46) rfl rfl (by kernel_rfl) (by kernel_rfl) (by kernel_rfl) (fun _ _ _ h => h) (by rfl) (by assumption) ?_ ?_
          rotate_left
          · intro w hSw; (try dsimp only at hSw); go_split_ands; go_simp; try (with_reducible rfl)
          try simp only [Act.put, List.setIfInBounds_toArray, List.set_cons_zero, List.set_cons_succ]
          refine anyH_callE (i := 7) (some 47) rfl rfl (by kernel_rfl) (by rfl) (by go_simp) KT.out ?_
          rintro _ Wq hS6 ⟨E1, d1, rfl, hd1, hI1, hfr, hb5⟩
          clear hHeld
          have hHeld := hS6
          clear hS6
          try simp only [Act.put, List.setIfInBounds_toArray, List.set_cons_zero, List.set_cons_succ]
          refine anyH_take (i := 8) (v := ?_) (some 11) rfl rfl (by kernel_rfl) (by kernel_rfl) (by kernel_rfl) (fun _ _ _ h => h) (by rfl) (by assumption) ?_ ?_
          rotate_left
          · intro w hSw; (try dsimp only at hSw); go_split_ands; go_simp; try (with_reducible rfl)
          try simp only [Act.put, List.setIfInBounds_toArray, List.set_cons_zero, List.set_cons_succ]
          refine wpAnyH_done (by kernel_rfl) ?_ _
          clear hHeld KT S9H rcP
          have hb6 := hb4.trans (hb5.mono hb4.size)
          have hwq := hw2.trans (hb6.mono hw2.size)
          have XP2 := Lib.hid (XP.out.below hb5 XP.out.lt)
          have HO2 := Lib.hid (own_keep HO1.out hb5)
          have x0 := XP2.out.cell (i := 0) rfl
          have x1 := XP2.out.cell (i := 1) rfl
          have hlx := XP2.out.lt
          obtain ⟨bh, hbh⟩ : ∃ bh : Nat, t.length - H = bh := ⟨_, rfl⟩
          obtain ⟨q, hqd⟩ : ∃ q : Nat, L + Pt.length = q := ⟨_, rfl⟩
          have hbh1 : (t.length : Int) - (H : Int) = (bh : Int) := by omega
          have hol1 : one.length = q + bh := by have := HO1E.out; omega
          have HOL := Lib.hid hol1
          have hoz : one.length ≤ 100000000 := by omega
          have HI1 := Lib.hid hI1
          have hd2 := hd1.1
          have HBH := Lib.hid hbh
          have HQD := Lib.hid hqd
          have hql : L ≤ q := by omega
          have hqo : q ≤ one.length := by omega
          have fadd : IntKind.i64.wrap ((L : Int) + (bh : Int)) = (L : Int) + (bh : Int) := IntWalk.i64_in _ (by omega)
          have flt : decide ((one.length : Int) < (L : Int) + (bh : Int)) = false := decide_eq_false (by omega)
          have fwq : IntKind.i64.wrap (q : Int) = (q : Int) := IntWalk.i64_in _ (by omega)
          have fsub0 : (one.length : Int) - (bh : Int) = (q : Int) := by omega
          have rc1 : ∀ W, (Instr.sliceAt 32 (.slice E1 one.length d1) none (some (.int .i64 L)) none).run Try.prog W = .ok (.slice (subA E1 d1 0) L d1) W := fun W => run_cutTo E1 one.length d1 L (by omega) W
          have rc2 : ∀ W, (Instr.sliceAt 32 (.slice A t.length a) none (some (.int .i64 L)) none).run Try.prog W = .ok (.slice (subA A a 0) L a) W := fun W => run_cutTo A t.length a L (by omega) W
          have rc3 : ∀ W, (Instr.sliceAt 32 (.slice E1 one.length d1) (some (.int .i64 q)) none none).run Try.prog W = .ok (.slice (subA E1 d1 q) bh (d1 - q)) W := fun W => by rw [run_cutFrom E1 one.length d1 q hqo W, show one.length - q = bh by omega]
          have rc4 : ∀ W, (Instr.sliceAt 32 (.slice A t.length a) (some (.int .i64 H)) none none).run Try.prog W = .ok (.slice (subA A a H) bh (a - H)) W := fun W => by rw [run_cutFrom A t.length a H y3 W, hbh]
          have rcA := run_cut A t.length a at_ L y1 (by omega)
          have rcB : ∀ W, (Instr.sliceAt 32 (.slice E1 one.length d1) (some (.int .i64 L)) (some (.int .i64 q)) none).run Try.prog W = .ok (.slice (subA E1 d1 L) Pt.length (d1 - L)) W := fun W => by rw [run_cut E1 one.length d1 L q hql (by omega) W, show q - L = Pt.length by omega]
          have S11H := Lib.hid (fun W' (hb' : Below Wq.heap.size Wq W') => show W'.cell? ⟨bp, 0, none⟩ = some (.int .i64 L) ∧ W'.cell? ⟨bp, 1, none⟩ = some (.int .i64 H) ∧ Below Wq.heap.size Wq W' from ⟨(XP2.out.below hb' XP2.out.lt).cell (i := 0) rfl, (XP2.out.below hb' XP2.out.lt).cell (i := 1) rfl, hb'⟩)
          have KQ1 := Lib.hid (fun W (hb' : Below Wq.heap.size Wq W) => (Equal_same (subA E1 d1 0) (subA A a 0) L d1 a (t.take L) W (by rw [← O1.out]; exact (HI1.out.below hb').sub (Nat.zero_le _) (by omega) hd2) (by have := (HA.out W (hwq.trans (hb'.mono hwq.size))).sub (lo := 0) (hi := L) (Nat.zero_le _) (by omega) hna; rwa [List.drop_zero] at this) (by simp; omega) (by omega)).mono (R' := fun e W' => e = .returned (.bool true) ∧ (W'.cell? ⟨bp, 0, none⟩ = some (.int .i64 L) ∧ W'.cell? ⟨bp, 1, none⟩ = some (.int .i64 H) ∧ Below Wq.heap.size Wq W')) (fun e W' hh => ⟨hh.1, S11H.out W' (hb'.trans (hh.2.below.mono hb'.size))⟩))
          have KQ2 := Lib.hid (fun W (hb' : Below Wq.heap.size Wq W) => (Equal_same (subA E1 d1 q) (subA A a H) bh (d1 - q) (a - H) (t.drop H) W (by rw [← O2.out, HQD.out]; exact (HI1.out.below hb').sub hqo (Nat.le_refl _) hd2) (by have := (HA.out W (hwq.trans (hb'.mono hwq.size))).sub (lo := H) (hi := t.length) y3 (Nat.le_refl _) hna; rwa [List.take_length] at this) (by simp; omega) (by omega)).mono (R' := fun e W' => e = .returned (.bool true) ∧ (W'.cell? ⟨bp, 0, none⟩ = some (.int .i64 L) ∧ W'.cell? ⟨bp, 1, none⟩ = some (.int .i64 H) ∧ Below Wq.heap.size Wq W')) (fun e W' hh => ⟨hh.1, S11H.out W' (hb'.trans (hh.2.below.mono hb'.size))⟩))
          clear hol1 hI1 hbh hqd
          go_wp2_with fail
          refine wp_region_held_drew (S := fun W' => W'.cell? ⟨bp, 0, none⟩ = some (.int .i64 L) ∧ W'.cell? ⟨bp, 1, none⟩ = some (.int .i64 H) ∧ Below Wq.heap.size Wq W') (by kernel_rfl) (S11H.out _ (Below.refl _ _).drew) (fun hHeld => ?_)
          refine anyH_take (i := 0) (v := ?_) (some 53) rfl rfl (by kernel_rfl) (by kernel_rfl) (by kernel_rfl) (fun _ _ _ h => h) (by rfl) (by assumption) ?_ ?_
          rotate_left
          · intro w hSw; (try dsimp only at hSw); go_split_ands; go_simp; try (with_reducible rfl)
          try simp only [Act.put, List.setIfInBounds_toArray, List.set_cons_zero, List.set_cons_succ]
          refine anyH_take (i := 1) (v := ?_) (some 54) rfl rfl (by kernel_rfl) (by kernel_rfl) (by kernel_rfl) (fun _ _ _ h => h) (by rfl) (by assumption) ?_ ?_
          rotate_left
          · intro w hSw; (try dsimp only at hSw); go_split_ands; go_simp; try (with_reducible rfl)
          try simp only [Act.put, List.setIfInBounds_toArray, List.set_cons_zero, List.set_cons_succ]
          refine anyH_take (i := 2) (v := ?_) (some 55) rfl rfl (by kernel_rfl) (by kernel_rfl) (by kernel_rfl) (fun _ _ _ h => h) (by rfl) (by assumption) ?_ ?_
          rotate_left
          · intro w hSw; (try dsimp only at hSw); go_split_ands; go_simp; try (with_reducible rfl)
          try simp only [Act.put, List.setIfInBounds_toArray, List.set_cons_zero, List.set_cons_succ]
          refine anyH_take (i := 3) (v := ?_) (some 56) rfl rfl (by kernel_rfl) (by kernel_rfl) (by kernel_rfl) (fun _ _ _ h => h) (by rfl) (by assumption) ?_ ?_
          rotate_left
          · intro w hSw; (try dsimp only at hSw); go_split_ands; go_simp; try (with_reducible rfl)
          try simp only [Act.put, List.setIfInBounds_toArray, List.set_cons_zero, List.set_cons_succ]
          refine anyH_take (i := 4) (v := ?_) (some 57) rfl rfl (by kernel_rfl) (by kernel_rfl) (by kernel_rfl) (fun _ _ _ h => h) (by rfl) (by assumption) ?_ ?_
          rotate_left
          · intro w hSw; (try dsimp only at hSw); go_split_ands; go_simp; try (with_reducible rfl)
          try simp only [Act.put, List.setIfInBounds_toArray, List.set_cons_zero, List.set_cons_succ]
          refine anyH_take (i := 5) (v := ?_) (some 58) rfl rfl (by kernel_rfl) (by kernel_rfl) (by kernel_rfl) (fun _ _ _ h => h) (by rfl) (by assumption) ?_ ?_
          rotate_left
          · intro w hSw; (try dsimp only at hSw); go_split_ands; go_simp; try (with_reducible rfl)
          try simp only [Act.put, List.setIfInBounds_toArray, List.set_cons_zero, List.set_cons_succ]
          refine anyH_take (i := 6) (v := ?_) (some 59) rfl rfl (by kernel_rfl) (by kernel_rfl) (by kernel_rfl) (fun _ _ _ h => h) (by rfl) (by assumption) ?_ ?_
          rotate_left
          · intro w hSw; (try dsimp only at hSw); go_split_ands; go_simp; try (with_reducible rfl)
          try simp only [Act.put, List.setIfInBounds_toArray, List.set_cons_zero, List.set_cons_succ]
          refine anyH_take (i := 7) (v := ?_) (some 60) rfl rfl (by kernel_rfl) (by kernel_rfl) (by kernel_rfl) (fun _ _ _ h => h) (by rfl) (by assumption) ?_ ?_
          rotate_left
          · intro w hSw; (try dsimp only at hSw); go_split_ands; go_simp; try (with_reducible rfl)
          try simp only [Act.put, List.setIfInBounds_toArray, List.set_cons_zero, List.set_cons_succ]
          refine anyH_take (i := 8) (v := ?_) (some 61) rfl rfl (by kernel_rfl) (by kernel_rfl) (by kernel_rfl) (fun _ _ _ h => h) (by rfl) (by assumption) ?_ ?_
          rotate_left
          · intro w hSw; (try dsimp only at hSw); go_split_ands; go_simp; try (with_reducible rfl)
          try simp only [Act.put, List.setIfInBounds_toArray, List.set_cons_zero, List.set_cons_succ]
          refine anyH_take (i := 9) (v := ?_) (some 62) rfl rfl (by kernel_rfl) (by kernel_rfl) (by kernel_rfl) (fun _ _ _ h => h) (by rfl) (by assumption) ?_ ?_
          rotate_left
          · intro w hSw; (try dsimp only at hSw); go_split_ands; go_simp; try (with_reducible rfl)
          try simp only [Act.put, List.setIfInBounds_toArray, List.set_cons_zero, List.set_cons_succ]
          refine anyH_take (i := 10) (v := ?_) (some 63) rfl rfl (by kernel_rfl) (by kernel_rfl) (by kernel_rfl) (fun _ _ _ h => h) (by rfl) (by assumption) ?_ ?_
          rotate_left
          · intro w hSw; (try dsimp only at hSw); go_split_ands; go_simp; try (with_reducible rfl)
          try simp only [Act.put, List.setIfInBounds_toArray, List.set_cons_zero, List.set_cons_succ]
          refine anyH_take (i := 11) (v := ?_) (some 64) rfl rfl (by kernel_rfl) (by kernel_rfl) (by kernel_rfl) (fun _ _ _ h => h) (by rfl) (by assumption) ?_ ?_
          rotate_left
          · intro w hSw; (try dsimp only at hSw); go_split_ands; go_simp; try (with_reducible rfl)
          try simp only [Act.put, List.setIfInBounds_toArray, List.set_cons_zero, List.set_cons_succ]
          refine anyH_take (i := 12) (v := ?_) (some 65) rfl rfl (by kernel_rfl) (by kernel_rfl) (by kernel_rfl) (fun _ _ _ h => h) (by rfl) (by assumption) ?_ ?_
          rotate_left
          · intro w hSw; (try dsimp only at hSw); go_split_ands; go_simp; try (with_reducible rfl)
          try simp only [Act.put, List.setIfInBounds_toArray, List.set_cons_zero, List.set_cons_succ]
          refine anyH_take (i := 13) (v := ?_) (some 66) rfl rfl (by kernel_rfl) (by kernel_rfl) (by kernel_rfl) (fun _ _ _ h => h) (by rfl) (by assumption) ?_ ?_
          rotate_left
          · intro w hSw; (try dsimp only at hSw); go_split_ands; go_simp; try (with_reducible rfl)
          try simp only [Act.put, List.setIfInBounds_toArray, List.set_cons_zero, List.set_cons_succ]
          refine anyH_take (i := 14) (v := ?_) (some 67) rfl rfl (by kernel_rfl) (by kernel_rfl) (by kernel_rfl) (fun _ _ _ h => h) (by rfl) (by assumption) ?_ ?_
          rotate_left
          · intro w hSw; (try dsimp only at hSw); go_split_ands; go_simp; try (with_reducible rfl)
          try simp only [Act.put, List.setIfInBounds_toArray, List.set_cons_zero, List.set_cons_succ]
          refine anyH_take (i := 15) (v := ?_) (some 68) rfl rfl (by kernel_rfl) (by kernel_rfl) (by kernel_rfl) (fun _ _ _ h => h) (by rfl) (by assumption) ?_ ?_
          rotate_left
          · intro w hSw; (try dsimp only at hSw); go_split_ands; go_simp; try (with_reducible rfl)
          try simp only [Act.put, List.setIfInBounds_toArray, List.set_cons_zero, List.set_cons_succ]
          refine anyH_call (i := 16) (some 69) rfl rfl (by kernel_rfl) (by rfl) (by go_simp) (KQ1.out _ hHeld.2.2) (fun Ws hS6 => ?_)
          clear hHeld
          have hHeld := hS6
          clear hS6
          try simp only [Act.put, List.setIfInBounds_toArray, List.set_cons_zero, List.set_cons_succ]
          refine anyH_take (i := 17) (v := ?_) (some 70) rfl rfl (by kernel_rfl) (by kernel_rfl) (by kernel_rfl) (fun _ _ _ h => h) (by rfl) (by assumption) ?_ ?_
          rotate_left
          · intro w hSw; (try dsimp only at hSw); go_split_ands; go_simp; try (with_reducible rfl)
          try simp only [Act.put, List.setIfInBounds_toArray, List.set_cons_zero, List.set_cons_succ]
          refine anyH_take (i := 18) (v := ?_) (some 71) rfl rfl (by kernel_rfl) (by kernel_rfl) (by kernel_rfl) (fun _ _ _ h => h) (by rfl) (by assumption) ?_ ?_
          rotate_left
          · intro w hSw; (try dsimp only at hSw); go_split_ands; go_simp; try (with_reducible rfl)
          try simp only [Act.put, List.setIfInBounds_toArray, List.set_cons_zero, List.set_cons_succ]
          refine anyH_take (i := 19) (v := ?_) (some 72) rfl rfl (by kernel_rfl) (by kernel_rfl) (by kernel_rfl) (fun _ _ _ h => h) (by rfl) (by assumption) ?_ ?_
          rotate_left
          · intro w hSw; (try dsimp only at hSw); go_split_ands; go_simp; try (with_reducible rfl)
          try simp only [Act.put, List.setIfInBounds_toArray, List.set_cons_zero, List.set_cons_succ]
          refine anyH_take (i := 20) (v := ?_) (some 73) rfl rfl (by kernel_rfl) (by kernel_rfl) (by kernel_rfl) (fun _ _ _ h => h) (by rfl) (by assumption) ?_ ?_
          rotate_left
          · intro w hSw; (try dsimp only at hSw); go_split_ands; go_simp; try (with_reducible rfl)
          try simp only [Act.put, List.setIfInBounds_toArray, List.set_cons_zero, List.set_cons_succ]
          refine anyH_take (i := 21) (v := ?_) (some 74) rfl rfl (by kernel_rfl) (by kernel_rfl) (by kernel_rfl) (fun _ _ _ h => h) (by rfl) (by assumption) ?_ ?_
          rotate_left
          · intro w hSw; (try dsimp only at hSw); go_split_ands; go_simp; try (with_reducible rfl)
          try simp only [Act.put, List.setIfInBounds_toArray, List.set_cons_zero, List.set_cons_succ]
          refine anyH_take (i := 22) (v := ?_) (some 75) rfl rfl (by kernel_rfl) (by kernel_rfl) (by kernel_rfl) (fun _ _ _ h => h) (by rfl) (by assumption) ?_ ?_
          rotate_left
          · intro w hSw; (try dsimp only at hSw); go_split_ands; go_simp; try (with_reducible rfl)
          try simp only [Act.put, List.setIfInBounds_toArray, List.set_cons_zero, List.set_cons_succ]
          refine anyH_take (i := 23) (v := ?_) (some 76) rfl rfl (by kernel_rfl) (by kernel_rfl) (by kernel_rfl) (fun _ _ _ h => h) (by rfl) (by assumption) ?_ ?_
          rotate_left
          · intro w hSw; (try dsimp only at hSw); go_split_ands; go_simp; try (with_reducible rfl)
          try simp only [Act.put, List.setIfInBounds_toArray, List.set_cons_zero, List.set_cons_succ]
          refine anyH_take (i := 24) (v := ?_) (some 77) rfl rfl (by kernel_rfl) (by kernel_rfl) (by kernel_rfl) (fun _ _ _ h => h) (by rfl) (by assumption) ?_ ?_
          rotate_left
          · intro w hSw; (try dsimp only at hSw); go_split_ands; go_simp; try (with_reducible rfl)
          try simp only [Act.put, List.setIfInBounds_toArray, List.set_cons_zero, List.set_cons_succ]
          refine anyH_take (i := 25) (v := ?_) (some 78) rfl rfl (by kernel_rfl) (by kernel_rfl) (by kernel_rfl) (fun _ _ _ h => h) (by rfl) (by assumption) ?_ ?_
          rotate_left
          · intro w hSw; (try dsimp only at hSw); go_split_ands; go_simp; try (with_reducible rfl)
          try simp only [Act.put, List.setIfInBounds_toArray, List.set_cons_zero, List.set_cons_succ]
          refine anyH_take (i := 26) (v := ?_) (some 79) rfl rfl (by kernel_rfl) (by kernel_rfl) (by kernel_rfl) (fun _ _ _ h => h) (by rfl) (by assumption) ?_ ?_
          rotate_left
          · intro w hSw; (try dsimp only at hSw); go_split_ands; go_simp; try (with_reducible rfl)
          try simp only [Act.put, List.setIfInBounds_toArray, List.set_cons_zero, List.set_cons_succ]
          refine anyH_take (i := 27) (v := ?_) (some 80) rfl rfl (by kernel_rfl) (by kernel_rfl) (by kernel_rfl) (fun _ _ _ h => h) (by rfl) (by assumption) ?_ ?_
          rotate_left
          · intro w hSw; (try dsimp only at hSw); go_split_ands; go_simp; try (with_reducible rfl)
          try simp only [Act.put, List.setIfInBounds_toArray, List.set_cons_zero, List.set_cons_succ]
          refine anyH_take (i := 28) (v := ?_) (some 81) rfl rfl (by kernel_rfl) (by kernel_rfl) (by kernel_rfl) (fun _ _ _ h => h) (by rfl) (by assumption) ?_ ?_
          rotate_left
          · intro w hSw; (try dsimp only at hSw); go_split_ands; go_simp; try (with_reducible rfl)
          try simp only [Act.put, List.setIfInBounds_toArray, List.set_cons_zero, List.set_cons_succ]
          refine anyH_take (i := 29) (v := ?_) (some 82) rfl rfl (by kernel_rfl) (by kernel_rfl) (by kernel_rfl) (fun _ _ _ h => h) (by rfl) (by assumption) ?_ ?_
          rotate_left
          · intro w hSw; (try dsimp only at hSw); go_split_ands; go_simp; try (with_reducible rfl)
          try simp only [Act.put, List.setIfInBounds_toArray, List.set_cons_zero, List.set_cons_succ]
          refine anyH_call (i := 30) (some 83) rfl rfl (by kernel_rfl) (by rfl) (by go_simp) (KQ2.out _ hHeld.2.2) (fun Wt hS6 => ?_)
          clear hHeld
          have hHeld := hS6
          clear hS6
          try simp only [Act.put, List.setIfInBounds_toArray, List.set_cons_zero, List.set_cons_succ]
          refine anyH_take (i := 31) (v := ?_) (some 84) rfl rfl (by kernel_rfl) (by kernel_rfl) (by kernel_rfl) (fun _ _ _ h => h) (by rfl) (by assumption) ?_ ?_
          rotate_left
          · intro w hSw; (try dsimp only at hSw); go_split_ands; go_simp; try (with_reducible rfl)
          try simp only [Act.put, List.setIfInBounds_toArray, List.set_cons_zero, List.set_cons_succ]
          refine anyH_take (i := 32) (v := ?_) (some 85) rfl rfl (by kernel_rfl) (by kernel_rfl) (by kernel_rfl) (fun _ _ _ h => h) (by rfl) (by assumption) ?_ ?_
          rotate_left
          · intro w hSw; (try dsimp only at hSw); go_split_ands; go_simp; try (with_reducible rfl)
          try simp only [Act.put, List.setIfInBounds_toArray, List.set_cons_zero, List.set_cons_succ]
          refine wpAnyH_done (by kernel_rfl) ?_ _
          have hbt := hHeld.2.2
          clear hHeld KQ1 KQ2 S11H x0 x1 rc1 rc2 rc3 rc4
          have hb7 := hb6.trans (hbt.mono hb6.size)
          have hwt := hw2.trans (hb7.mono hw2.size)
          have XP4 := XP2.out.below hbt XP2.out.lt
          have HO4 := Lib.hid (own_keep HO2.out hbt)
          have HI4 := Lib.hid (HI1.out.below hbt)
          have x0 := XP4.cell (i := 0) rfl
          have x1 := XP4.cell (i := 1) rfl
          have hlx4 := XP4.lt
          have hIA := (HA.out Wt hwt).sub y1 (Nat.le_trans y2 y3) hna
          have lIA : ((t.take L).drop at_).length = L - at_ := by simp; omega
          have hs4 : W2.heap.size ≤ Wt.heap.size := hb7.size
          have hlp2 : Pt.length ≤ 67108864 := by omega
          clear HO1 HO2 HI1 XP XP2 HO
          go_wp2_with (first | (at_builtin; refine wpList_app _ _ 32 3 (.int .i64 0) 1 8 rfl rfl Try.underlying32 info_int rfl (by decide) (by decide) rfl HO4.out rfl hIA (by rw [List.length_map, lIA, Nat.mul_one]) (oneCell_ints _) (by omega) hs4 ?_; intro AR cR w1 hown1 hc1 hb8 hg8 hB8; have hI5 := (HI4.out.kept hg8 (fun b o hE e => by have h1 := hfr b o hE; have h2 := hogl b e.symm; omega)).sub hql hqo hd2; rw [← HQD.out, O3.out] at hI5; have XP5 := XP4.grown hg8 (own_type HO4.out XP4 (by decide)); have u0 := XP5.cell (i := 0) rfl; have u1 := XP5.cell (i := 1) rfl; have hl5 := XP5.lt; have hs5 : W2.heap.size ≤ w1.heap.size := Nat.le_trans hs4 hg8.size; clear x0 x1 hIA) | (at_builtin; refine wpList_app _ _ 32 3 (.int .i64 0) 1 8 rfl rfl Try.underlying32 info_int rfl (by decide) (by decide) rfl hown1 rfl hI5 (by simp) (oneCell_ints _) (by omega) hs5 ?_; intro AT cT w2 hown2 hc2 hb10 hg10 hB10; have XP6 := XP5.grown hg10 (own_type hown1 XP5 (by decide)); have v1 := XP6.cell (i := 1) rfl; have hl6 := XP6.lt; clear u0 u1))
          have hb11 := (hb7.trans hb8).trans hb10
          have HE6 := Lib.hid (show (out ++ (t.take L).drop at_ ++ Pt) ++ titleP (caseD C) t H (ps.drop (k + 1)) = TP by
            rw [← HEQ.out, TAk.out]
            simp only [List.append_assoc])
          have lE : (out ++ (t.take L).drop at_ ++ Pt).length = out.length + (L - at_) + Pt.length := by rw [List.length_append, List.length_append, lIA]
          have HR6 := Lib.hid (show RowI W2.heap.size w2 (.slice AT (out.length + (L - at_) + Pt.length) cT) (out ++ (t.take L).drop at_ ++ Pt) from ⟨AT, cT, by rw [lE], by rw [lE, List.map_append, List.map_append]; exact hown2⟩)
          go_roundw
          case rel => exact ⟨k + 1, H, _, by omega, by go_num, rfl, y3, P4.out, HE6.out, HR6.out, hb11⟩
          case measure => simp [intOf]; omega
        · have HE := Lib.hid (show TP = out ++ t.drop at_ by rw [← HEQ.out, TN.out at_ k (by omega), JS.out _ _ (Nat.le_refl _), List.take_length])
          have rc := run_cutFrom A t.length a at_ hat
          have hIA := (HA.out wr hwr).sub hat (Nat.le_refl _) hna
          rw [List.take_length] at hIA
          have lIA : (t.drop at_).length = t.length - at_ := by simp
          have hs0 : W2.heap.size ≤ wr.heap.size := hbr.size
          clear HWL HEQ
          go_wp2_with (at_builtin; refine wpList_app _ _ 32 3 (.int .i64 0) 1 8 rfl rfl Try.underlying32 info_int rfl (by decide) (by decide) rfl HO.out rfl hIA (by rw [List.length_map, lIA, Nat.mul_one]) (oneCell_ints _) (by omega) hs0 ?_; intro AR cR w1 hown1 hc1 hb8 _ _; have XZ := HX.out.below (hb3.trans ((hbr.trans hb8).mono hb3.size)) HX.out.lt; have f0 := XZ.cell (i := 0) rfl; have f1 := XZ.cell (i := 1) rfl; have f2 := XZ.cell (i := 2) rfl; have f3 := XZ.cell (i := 3) rfl; have f4 := XZ.cell (i := 4) rfl; have f5 := XZ.cell (i := 5) rfl; have hlz := XZ.lt; clear hIA)
          have hb9 := hw2.trans ((hbr.trans hb8).mono hw2.size)
          have KT := Lib.hid (TC.out w1 P cp ps ps.length hb9 (HP.out w1 hb9) rfl (by omega))
          rw [TE.out] at KT
          have lE : (out ++ t.drop at_).length = out.length + (t.length - at_) := by rw [List.length_append, lIA]
          have HIW := Lib.hid (show Ints w1 AR (out ++ t.drop at_) by unfold Ints; rw [List.map_append]; exact Sl.of_own hown1)
          have hLB := LB.out
          clear hown1 rc HO XZ
          have HEL := Lib.hid (HE.out ▸ lE)
          have HIW2 := Lib.hid (HE.out ▸ HIW.out)
          with_reducible refine KT.out.mono ?_
          rintro e Wx ⟨E2, d2, rfl, _, _, hI2, _, hbx⟩
          have hbx2 := hb9.trans (hbx.mono hb9.size)
          have h64 : 64 * (t.length - 0) ≤ 64 * 1048576 := Nat.mul_le_mul_left _ (by omega)
          have KQ := Lib.hid (Equal_same E2 AR TP.length d2 cR TP Wx hI2 (HIW2.out.below hbx) rfl (by omega))
          rw [show out.length + (t.length - at_) = TP.length from HEL.out.symm]
          clear KT hI2 f0 f1 f2 f3 f4 f5 HIW HIW2 lE lIA HEL
          go_wp2_with fail
          with_reducible refine KQ.out.mono ?_
          rintro e Wy ⟨rfl, hqy⟩
          have hby := hbx2.trans (hqy.below.mono hbx2.size)
          clear KQ hqy
          go_wp2_with fail
          with_reducible refine (alive_any Wy).mono ?_
          rintro e Wz ⟨rfl, hbz9⟩
          have hbz := hby.trans (hbz9.mono hby.size)
          go_wp2_with fail
          go_ret
          exact ⟨rfl, hbz⟩

end Go.Proofs.Ytpamkbbmbeeheaa
