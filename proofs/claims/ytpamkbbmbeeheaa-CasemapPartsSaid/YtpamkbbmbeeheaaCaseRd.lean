/- The contract of the reference's Title. Written by gen_caserc.py. -/
import Derived.Test.YtpamkbbmbeeheaaCaseRc
import Derived.Outline
namespace Go.Proofs.Ytpamkbbmbeeheaa
open Go.RowKit Go.Maps Go.WideMaps

/-- the address of a part of a slice -/
def subA (A : Option Addr) (a lo : Nat) : Option Addr := if a = lo then A else A.map (fun x => x.add lo)
theorem Ints.sub {w : World} {A : Option Addr} {t : List Int} (h : Ints w A t) {a lo hi : Nat} (h1 : lo ≤ hi) (h2 : hi ≤ t.length) (h3 : t.length ≤ a) : Ints w (subA A a lo) ((t.take hi).drop lo) := by
  unfold subA
  by_cases e : a = lo
  · rw [if_pos e]
    have : (t.take hi).drop lo = [] := List.drop_of_length_le (by simp; omega)
    rw [this]
    exact Sl.nil _ _
  · rw [if_neg e]
    by_cases hl : lo < hi
    · obtain ⟨b, o, rfl, hc⟩ := h.at (k := lo) (by omega)
      intro _
      refine ⟨b, o + lo, ?_, fun j u hu => ?_⟩
      · simp only [Option.map_some, Addr.add]
        split
        · next h0 => subst h0; rfl
        · rfl
      · have hj : j < hi - lo := by
          have := (List.getElem?_eq_some_iff.1 hu).1
          simp at this
          omega
        have hu2 : u = .int .i64 (t[lo + j]'(by omega)) := by
          rw [List.getElem?_map, List.getElem?_drop, List.getElem?_take, if_pos (by omega), List.getElem?_eq_getElem (by omega)] at hu
          simpa using hu.symm
        rw [hu2, Nat.add_assoc]
        exact hc (lo + j) (by omega)
    · have : (t.take hi).drop lo = [] := List.drop_of_length_le (by simp; omega)
      rw [this]
      exact Sl.nil _ _
theorem run_cut (A : Option Addr) (n a lo hi : Nat) (h1 : lo ≤ hi) (h2 : hi ≤ a) (W : World) : (Instr.sliceAt 32 (.slice A n a) (some (.int .i64 lo)) (some (.int .i64 hi)) none).run Try.prog W = .ok (.slice (subA A a lo) (hi - lo) (a - lo)) W := by
  have hu := Try.underlying32
  have he : Try.prog.elem 32 = 3 := by kernel_rfl
  obtain ⟨i, hi', _, hs, _⟩ := info_parts info_int
  rw [run_sliceAt_slice (h := by rw [he]; exact hu), run_slice_lh (ht := by rw [he]; exact hu) (h0 := by omega) (h1 := by omega) (h2 := by omega)]
  simp [sizeOf, typeInfo, he, hi', hs, sliced, subA]
theorem run_cutTo (A : Option Addr) (n a hi : Nat) (h2 : hi ≤ a) (W : World) : (Instr.sliceAt 32 (.slice A n a) none (some (.int .i64 hi)) none).run Try.prog W = .ok (.slice (subA A a 0) (hi - 0) (a - 0)) W := by
  have hu := Try.underlying32
  have he : Try.prog.elem 32 = 3 := by kernel_rfl
  obtain ⟨i, hi', _, hs, _⟩ := info_parts info_int
  rw [run_sliceAt_slice (h := by rw [he]; exact hu), run_slice_h (ht := by rw [he]; exact hu) (h0 := by omega) (h2 := by omega)]
  simp [sizeOf, typeInfo, he, hi', hs, sliced, subA]
theorem run_cutFrom (A : Option Addr) (n a lo : Nat) (h1 : lo ≤ n) (W : World) : (Instr.sliceAt 32 (.slice A n a) (some (.int .i64 lo)) none none).run Try.prog W = .ok (.slice (subA A a lo) (n - lo) (a - lo)) W := by
  have hu := Try.underlying32
  have he : Try.prog.elem 32 = 3 := by kernel_rfl
  obtain ⟨i, hi', _, hs, _⟩ := info_parts info_int
  rw [run_sliceAt_slice (h := by rw [he]; exact hu), run_slice_l (ht := by rw [he]; exact hu) (h0 := by omega) (h1 := by omega)]
  simp [sizeOf, typeInfo, he, hi', hs, sliced, subA]

set_option maxRecDepth 100000 in
set_option maxHeartbeats 12800000 in
theorem refTitle_any (v0 v1 v2 v3 v4 v5 : Value) (C : Cse) (A : Option Addr) (n a : Nat) (t : List Int) (P : Option Addr) (np cp : Nat) (ps : List Rg) (w : World) (h : CaseAt w v0 v1 v2 v3 v4 v5 C) (hz : CaseSz C) (hA : Ints w A t) (hn : t.length = n) (hb : n ≤ 1048576) (hna : n ≤ a) (haz : a ≤ 9223372036854775807)
    (hP : Rgs w P ps) (hp : ps.length = np) (hpz : np ≤ 1048576) :
    Calls Try.prog 27 #[.agg #[v0, v1, v2, v3, v4, v5], .slice A n a, .slice P np cp] w (RetIs (titleL (caseD C) t ps) w) := by
  subst hn
  subst hp
  obtain ⟨A0, n0, c0, rfl⟩ := h.lower.sl
  obtain ⟨A1, n1, c1, rfl⟩ := h.upper.sl
  obtain ⟨A2, n2, c2, rfl⟩ := h.title.sl
  obtain ⟨A3, n3, c3, rfl⟩ := h.fold.sl
  obtain ⟨A4, n4, c4, rfl⟩ := h.cased.sl
  obtain ⟨A5, n5, c5, rfl⟩ := h.ign.sl
  have B0 : Below w.heap.size w (w.alloc (.cells #[.slice A0 n0 c0, .slice A1 n1 c1, .slice A2 n2 c2, .slice A3 n3 c3, .slice A4 n4 c4, .slice A5 n5 c5] 27)) := (Below.refl _ _).alloc (Nat.le_refl _) _
  have X0 : Box (w.alloc (.cells #[.slice A0 n0 c0, .slice A1 n1 c1, .slice A2 n2 c2, .slice A3 n3 c3, .slice A4 n4 c4, .slice A5 n5 c5] 27)) w.heap.size 27 [.slice A0 n0 c0, .slice A1 n1 c1, .slice A2 n2 c2, .slice A3 n3 c3, .slice A4 n4 c4, .slice A5 n5 c5] := Box.new w 27 [.slice A0 n0 c0, .slice A1 n1 c1, .slice A2 n2 c2, .slice A3 n3 c3, .slice A4 n4 c4, .slice A5 n5 c5] rfl
  have W0E : ∃ W0, (w.alloc (.cells #[.slice A0 n0 c0, .slice A1 n1 c1, .slice A2 n2 c2, .slice A3 n3 c3, .slice A4 n4 c4, .slice A5 n5 c5] 27)) = W0 := ⟨_, rfl⟩
  have CA := Lib.hid (fun W (hb : Below w.heap.size w W) => h.below hb)
  have VD := Lib.hid (fun W (hb : Below w.heap.size w W) => refData_any _ _ _ _ _ _ C W (h.below hb) hz)
  have TC := Lib.hid (fun W lo hi u0 u1 u2 u3 u4 u5 (hb' : Below w.heap.size w W) (hc : CaseAt W u0 u1 u2 u3 u4 u5 (caseD C)) (h1 : lo ≤ hi) (h2 : hi ≤ t.length) => titled_any u0 u1 u2 u3 u4 u5 (caseD C) A t.length a t lo hi W hc hz.d (caseD_isok C) (hA.below hb') rfl hb h1 h2)
  have WC := Lib.hid (fun W (hb' : Below w.heap.size w W) => Within_any P ps.length cp ps t.length W (hP.below hb') rfl hpz)
  have HA := Lib.hid (fun W (hb' : Below w.heap.size w W) => hA.below hb')
  have HP := Lib.hid (fun W (hb' : Below w.heap.size w W) => hP.below hb')
  have OKD := Lib.hid (caseD_isok C)
  have TB := Lib.hid (fun h => titleL_bad (C := caseD C) (t := t) (ps := ps) h)
  have TK := Lib.hid (fun h => titleL_ok (C := caseD C) (t := t) (ps := ps) h)
  generalize titleL (caseD C) t ps = R at *
  clear h hz hA hP
  have e0 := X0.cell (i := 0) rfl
  have e1 := X0.cell (i := 1) rfl
  have e2 := X0.cell (i := 2) rfl
  have e3 := X0.cell (i := 3) rfl
  have e4 := X0.cell (i := 4) rfl
  have e5 := X0.cell (i := 5) rfl
  go_enter Try.func27, Try.ntmps27
  go_wp2_with fail
  clear e0 e1 e2 e3 e4 e5
  obtain ⟨W0, hW0⟩ := W0E
  rw [hW0] at B0 X0 ⊢
  clear hW0
  with_reducible refine (VD.out W0 B0).mono ?_
  rintro e W1 ⟨u0, u1, u2, u3, u4, u5, rfl, hT, hb1⟩
  have hb2 := B0.trans (hb1.mono B0.size)
  have hC1 := hT W1 (CA.out W1 hb2)
  obtain ⟨B0, m0, d0, rfl⟩ := hC1.lower.sl
  obtain ⟨B1, m1, d1, rfl⟩ := hC1.upper.sl
  obtain ⟨B2, m2, d2, rfl⟩ := hC1.title.sl
  obtain ⟨B3, m3, d3, rfl⟩ := hC1.fold.sl
  obtain ⟨B4, m4, d4, rfl⟩ := hC1.cased.sl
  obtain ⟨B5, m5, d5, rfl⟩ := hC1.ign.sl
  have Bd : Below W1.heap.size W1 (W1.alloc (.cells #[.slice B0 m0 d0, .slice B1 m1 d1, .slice B2 m2 d2, .slice B3 m3 d3, .slice B4 m4 d4, .slice B5 m5 d5] 27)) := (Below.refl _ _).alloc (Nat.le_refl _) _
  have hb3 := hb2.trans (Bd.mono hb2.size)
  have XD := Lib.hid (Box.new W1 27 [.slice B0 m0 d0, .slice B1 m1 d1, .slice B2 m2 d2, .slice B3 m3 d3, .slice B4 m4 d4, .slice B5 m5 d5] rfl)
  have DD := Lib.hid (hT _ (CA.out _ hb3))
  have W2E : ∃ W2, W1.alloc (.cells #[.slice B0 m0 d0, .slice B1 m1 d1, .slice B2 m2 d2, .slice B3 m3 d3, .slice B4 m4 d4, .slice B5 m5 d5] 27) = W2 := ⟨_, rfl⟩
  clear VD hC1 hT
  go_wp2_with fail
  obtain ⟨W2, hW2⟩ := W2E
  rw [hW2] at XD DD hb3 Bd ⊢
  clear hW2
  generalize W1.heap.size = bd at *
  with_reducible refine (WC.out W2 hb3).mono ?_
  rintro e Wv ⟨rfl, hq⟩
  have hbq := hq.below
  have XD := Lib.hid (XD.out.below hbq XD.out.lt)
  have DD := Lib.hid (DD.out.below hbq)
  have hb3 := hb3.trans (hbq.mono hb3.size)
  clear WC hq hbq
  cases hw : withinL t.length 0 ps with
  | false =>
    have E := Lib.hid (TB.out hw)
    clear TB TK hw TC
    obtain rfl := E.out
    clear E
    have hEa := (HA.out Wv hb3).below ((Below.refl _ _).alloc (Nat.le_refl _) (.cells #[] 3))
    have hbn := hb3.alloc hb3.size (.cells #[] 3)
    go_wp2_with (at_builtin; refine wpList_app _ _ 32 3 (.int .i64 0) 1 8 rfl rfl Try.underlying32 info_int rfl (by decide) (by decide) rfl (own_new [] 3 1 0 Wv.heap.size rfl rfl (Nat.le_refl _) (by omega)) rfl hEa (by simp) (oneCell_ints _) (by omega) (by simp) ?_; intro A1 c1 w1 hown1 hc1 hb8 _ _; simp only [Nat.zero_add, List.nil_append] at hown1 hc1)
    have hb9 := hb3.trans (((Below.refl _ _).alloc (Nat.le_refl _) (.cells #[] 3)).trans hb8 |>.mono hb3.size)
    go_ret
    exact RowI.is ⟨A1, c1, rfl, hown1⟩ hb9
  | true =>
    have E := Lib.hid (TK.out hw)
    have HW := Lib.hid hw
    clear TB TK hw
    obtain rfl := E.out
    clear E
    have LB := Lib.hid (titleP_len OKD.out t (Nat.zero_le _) HW.out)
    have TA := Lib.hid (fun at_ k hk => titleP_at (C := caseD C) (t := t) (a := at_) (ps := ps) (k := k) hk)
    have TN := Lib.hid (fun at_ k hk => titleP_end (C := caseD C) (t := t) (a := at_) (ps := ps) (k := k) hk)
    have WA := Lib.hid (fun at_ k hk h => withinL_at (n := t.length) (a := at_) (ps := ps) (k := k) hk h)
    have HTP := Lib.hid (show titleP (caseD C) t 0 (ps.drop 0) = titleP (caseD C) t 0 ps from rfl)
    have JS := Lib.hid (fun a b hb => joinI_same (t := t) (a := a) (b := b) hb)
    generalize titleP (caseD C) t 0 ps = TP at *
    go_wp2_with fail
    go_loopw [8, 9, 10] (fun v ua u wr => ∃ (k at_ : Nat) (out : List Int), k ≤ ps.length ∧ u = .int .i64 k ∧ ua = .int .i64 at_ ∧ at_ ≤ t.length ∧ withinL t.length at_ (ps.drop k) = true ∧ out ++ titleP (caseD C) t at_ (ps.drop k) = TP ∧ RowI Wv.heap.size wr v out ∧ Below Wv.heap.size Wv wr) (fun _ _ u _ => ps.length - (intOf u).toNat)
    case atStart => exact ⟨0, 0, [], Nat.zero_le _, rfl, rfl, Nat.zero_le _, HW.out, HTP.out, RowI.nil _ _, Below.refl _ _⟩
    case round =>
      obtain ⟨k, at_, out, hk, rfl, rfl, hat, hWL, hEQ, hrow, hbr⟩ := hrel
      have hbw := hb3.trans (hbr.mono hb3.size)
      have HEQ := Lib.hid hEQ
      have HWL := Lib.hid hWL
      have hol : out.length ≤ 67108864 := by
        have h1 := congrArg List.length hEQ
        have h2 := LB.out
        rw [List.length_append] at h1
        have h3 : 64 * (t.length - 0) ≤ 64 * 1048576 := Nat.mul_le_mul_left _ (by omega)
        omega
      obtain ⟨AA, cc, rfl, hown⟩ := hrow
      have HO := Lib.hid hown
      clear hown hEQ hWL
      by_cases hlt : k < ps.length
      · obtain ⟨b1, o1, rfl, hbl, hcell⟩ := (HP.out Wv hb3).at hlt
        obtain ⟨c1, c2⟩ := hcell k hlt
        obtain ⟨p1, p2, p3, p4⟩ := WA.out at_ k hlt HWL.out
        have TAk := Lib.hid (TA.out at_ k hlt)
        have P4 := Lib.hid p4
        clear hcell p4 HWL
        generalize ps[k] = p at *
        obtain ⟨plo, phi⟩ := p
        dsimp only at *
        obtain ⟨L, rfl⟩ : ∃ L : Nat, plo = L := ⟨plo.toNat, by omega⟩
        obtain ⟨H, rfl⟩ : ∃ H : Nat, phi = H := ⟨phi.toNat, by omega⟩
        simp only [Int.toNat_natCast] at TAk
        have g1 : at_ ≤ L := by omega
        have g2 : L ≤ H := by omega
        have g3 : H ≤ t.length := by omega
        have g4 : L ≤ a := by omega
        have lb := World.block_lt_of_cell? Wv _ c1
        have hc1 := (hbr.cell (p := ⟨b1, o1 + k * 2, none⟩) lb).trans c1
        have ci0 : (0 : Int) ≤ k := by omega
        have ci1 : (k : Int) < ps.length := by omega
        have rc := run_cut A t.length a at_ L g1 g4
        have hIA := (HA.out wr hbw).sub g1 (Nat.le_trans g2 g3) hna
        have lIA : ((t.take L).drop at_).length = L - at_ := by simp; omega
        have hs0 : Wv.heap.size ≤ wr.heap.size := hbr.size
        go_wp2_with (at_builtin; refine wpList_app _ _ 32 3 (.int .i64 0) 1 8 rfl rfl Try.underlying32 info_int rfl (by decide) (by decide) rfl HO.out rfl hIA (by rw [List.length_map, lIA, Nat.mul_one]) (oneCell_ints _) (by omega) hs0 ?_; intro AP dP w1 hown1 hd1 hb8 _ _)
        have hb9 := hbr.trans hb8
        have hbw9 := hb3.trans (hb9.mono hb3.size)
        have HO1 := Lib.hid hown1
        have SH := Lib.hid (fun W' (hb' : Below Wv.heap.size Wv W') => show W'.cell? ⟨bd, 0, none⟩ = some (.slice B0 m0 d0) ∧ W'.cell? ⟨bd, 1, none⟩ = some (.slice B1 m1 d1) ∧ W'.cell? ⟨bd, 2, none⟩ = some (.slice B2 m2 d2) ∧ W'.cell? ⟨bd, 3, none⟩ = some (.slice B3 m3 d3) ∧ W'.cell? ⟨bd, 4, none⟩ = some (.slice B4 m4 d4) ∧ W'.cell? ⟨bd, 5, none⟩ = some (.slice B5 m5 d5) ∧ W'.cell? ⟨b1, o1 + k * 2, none⟩ = some (.int .i64 L) ∧ W'.cell? ⟨b1, o1 + k * 2 + 1, none⟩ = some (.int .i64 H) ∧ Below Wv.heap.size Wv W' from ⟨(XD.out.below hb' XD.out.lt).cell (i := 0) rfl, (XD.out.below hb' XD.out.lt).cell (i := 1) rfl, (XD.out.below hb' XD.out.lt).cell (i := 2) rfl, (XD.out.below hb' XD.out.lt).cell (i := 3) rfl, (XD.out.below hb' XD.out.lt).cell (i := 4) rfl, (XD.out.below hb' XD.out.lt).cell (i := 5) rfl, (hb'.cell (p := ⟨b1, o1 + k * 2, none⟩) lb).trans c1, (hb'.cell (p := ⟨b1, o1 + k * 2 + 1, none⟩) lb).trans c2, hb'⟩)
        have KT := Lib.hid ((TC.out w1.drew L H _ _ _ _ _ _ hbw9.drew (DD.out.below hb9.drew) g2 g3).mono (R' := fun e W' => ∃ v, e = .returned v ∧ (W'.cell? ⟨bd, 0, none⟩ = some (.slice B0 m0 d0) ∧ W'.cell? ⟨bd, 1, none⟩ = some (.slice B1 m1 d1) ∧ W'.cell? ⟨bd, 2, none⟩ = some (.slice B2 m2 d2) ∧ W'.cell? ⟨bd, 3, none⟩ = some (.slice B3 m3 d3) ∧ W'.cell? ⟨bd, 4, none⟩ = some (.slice B4 m4 d4) ∧ W'.cell? ⟨bd, 5, none⟩ = some (.slice B5 m5 d5) ∧ W'.cell? ⟨b1, o1 + k * 2, none⟩ = some (.int .i64 L) ∧ W'.cell? ⟨b1, o1 + k * 2 + 1, none⟩ = some (.int .i64 H) ∧ Below Wv.heap.size Wv W') ∧ (∃ E d, v = .slice E (partT (caseD C) t L H).length d ∧ Ints W' E (partT (caseD C) t L H) ∧ Below w1.heap.size w1 W')) (fun e W' ⟨E, d, he, q1, q2, q3⟩ => ⟨_, he, SH.out W' (hb9.trans ((Below.trans (Below.refl _ _).drew q3).mono hb9.size)), E, d, rfl, q2, Below.trans (Below.refl _ _).drew q3⟩))
        have lpt := partT_len OKD.out t g2
        have lp3 : 64 * (H - L) ≤ 64 * 1048576 := Nat.mul_le_mul_left _ (by omega)
        rw [JS.out at_ L (Nat.le_trans g2 g3)] at TAk
        generalize partT (caseD C) t L H = Pt at *
        clear hown1 hIA rc HO hc1
        refine wp_region_held_drew (S := fun W' => W'.cell? ⟨bd, 0, none⟩ = some (.slice B0 m0 d0) ∧ W'.cell? ⟨bd, 1, none⟩ = some (.slice B1 m1 d1) ∧ W'.cell? ⟨bd, 2, none⟩ = some (.slice B2 m2 d2) ∧ W'.cell? ⟨bd, 3, none⟩ = some (.slice B3 m3 d3) ∧ W'.cell? ⟨bd, 4, none⟩ = some (.slice B4 m4 d4) ∧ W'.cell? ⟨bd, 5, none⟩ = some (.slice B5 m5 d5) ∧ W'.cell? ⟨b1, o1 + k * 2, none⟩ = some (.int .i64 L) ∧ W'.cell? ⟨b1, o1 + k * 2 + 1, none⟩ = some (.int .i64 H) ∧ Below Wv.heap.size Wv W') (by kernel_rfl) (SH.out _ hb9.drew) (fun hHeld => ?_)
        refine anyH_take (i := 0) (v := ?_) (some 37) rfl rfl (by kernel_rfl) (by kernel_rfl) (by kernel_rfl) (fun _ _ _ h => h) (by rfl) (by assumption) ?_ ?_
        rotate_left
        · intro w hSw; (try dsimp only at hSw); go_split_ands; go_simp; try (with_reducible rfl)
        try simp only [Act.put, List.setIfInBounds_toArray, List.set_cons_zero, List.set_cons_succ]
        refine anyH_take (i := 1) (v := ?_) (some 38) rfl rfl (by kernel_rfl) (by kernel_rfl) (by kernel_rfl) (fun _ _ _ h => h) (by rfl) (by assumption) ?_ ?_
        rotate_left
        · intro w hSw; (try dsimp only at hSw); go_split_ands; go_simp; try (with_reducible rfl)
        try simp only [Act.put, List.setIfInBounds_toArray, List.set_cons_zero, List.set_cons_succ]
        refine anyH_take (i := 2) (v := ?_) (some 39) rfl rfl (by kernel_rfl) (by kernel_rfl) (by kernel_rfl) (fun _ _ _ h => h) (by rfl) (by assumption) ?_ ?_
        rotate_left
        · intro w hSw; (try dsimp only at hSw); go_split_ands; go_simp; try (with_reducible rfl)
        try simp only [Act.put, List.setIfInBounds_toArray, List.set_cons_zero, List.set_cons_succ]
        refine anyH_take (i := 3) (v := ?_) (some 40) rfl rfl (by kernel_rfl) (by kernel_rfl) (by kernel_rfl) (fun _ _ _ h => h) (by rfl) (by assumption) ?_ ?_
        rotate_left
        · intro w hSw; (try dsimp only at hSw); go_split_ands; go_simp; try (with_reducible rfl)
        try simp only [Act.put, List.setIfInBounds_toArray, List.set_cons_zero, List.set_cons_succ]
        refine anyH_take (i := 4) (v := ?_) (some 41) rfl rfl (by kernel_rfl) (by kernel_rfl) (by kernel_rfl) (fun _ _ _ h => h) (by rfl) (by assumption) ?_ ?_
        rotate_left
        · intro w hSw; (try dsimp only at hSw); go_split_ands; go_simp; try (with_reducible rfl)
        try simp only [Act.put, List.setIfInBounds_toArray, List.set_cons_zero, List.set_cons_succ]
        refine anyH_take (i := 5) (v := ?_) (some 42) rfl rfl (by kernel_rfl) (by kernel_rfl) (by kernel_rfl) (fun _ _ _ h => h) (by rfl) (by assumption) ?_ ?_
        rotate_left
        · intro w hSw; (try dsimp only at hSw); go_split_ands; go_simp; try (with_reducible rfl)
        try simp only [Act.put, List.setIfInBounds_toArray, List.set_cons_zero, List.set_cons_succ]
        refine anyH_take (i := 6) (v := ?_) (some 43) rfl rfl (by kernel_rfl) (by kernel_rfl) (by kernel_rfl) (fun _ _ _ h => h) (by rfl) (by assumption) ?_ ?_
        rotate_left
        · intro w hSw; (try dsimp only at hSw); go_split_ands; go_simp; try (with_reducible rfl)
        try simp only [Act.put, List.setIfInBounds_toArray, List.set_cons_zero, List.set_cons_succ]
        refine anyH_callE (i := 7) (some 44) rfl rfl (by kernel_rfl) (by rfl) (by go_simp) KT.out ?_
        rintro _ W4 hS6 ⟨E, d, rfl, hE, hb10⟩
        clear hHeld
        have hHeld := hS6
        clear hS6
        try simp only [Act.put, List.setIfInBounds_toArray, List.set_cons_zero, List.set_cons_succ]
        have HO3 := own_keep HO1.out hb10
        have hb11 := hb9.trans (hb10.mono hb9.size)
        have hs2 : Wv.heap.size ≤ W4.heap.size := hb11.size
        refine anyH_app (i := 8) (some 45) rfl rfl (by kernel_rfl) (by rfl) _ _ 32 3 (.int .i64 0) 1 8 rfl Try.underlying32 info_int rfl (by decide) (by decide) rfl HO3 rfl hE (by simp) (oneCell_ints _) (by omega) hs2 ?_
        intro AQ dQ w2 hown2 hd2 hb12 _ _
        have HO2 := Lib.hid hown2
        have hb13 := hb11.trans hb12
        have S7 := SH.out w2 hb13
        clear hown2 HO1 HO3 hE hHeld KT
        refine ⟨S7, ?_⟩
        have hHeld := S7
        clear S7
        try simp only [Act.put, List.setIfInBounds_toArray, List.set_cons_zero, List.set_cons_succ]
        refine anyH_take (i := 9) (v := ?_) (some 8) rfl rfl (by kernel_rfl) (by kernel_rfl) (by kernel_rfl) (fun _ _ _ h => h) (by rfl) (by assumption) ?_ ?_
        rotate_left
        · intro w hSw; (try dsimp only at hSw); go_split_ands; go_simp; try (with_reducible rfl)
        try simp only [Act.put, List.setIfInBounds_toArray, List.set_cons_zero, List.set_cons_succ]
        refine wpAnyH_done (by kernel_rfl) ?_ _
        have k1 := hHeld.2.2.2.2.2.2.2.1
        have HE6 := Lib.hid (show (out ++ (t.take L).drop at_ ++ Pt) ++ titleP (caseD C) t H (ps.drop (k + 1)) = TP by
          rw [← HEQ.out, TAk.out]
          simp only [List.append_assoc])
        have lE : (out ++ (t.take L).drop at_ ++ Pt).length = out.length + (L - at_) + Pt.length := by rw [List.length_append, List.length_append, lIA]
        have HR6 := Lib.hid (show RowI Wv.heap.size w2 (.slice AQ (out.length + (L - at_) + Pt.length) dQ) (out ++ (t.take L).drop at_ ++ Pt) from ⟨AQ, dQ, by rw [lE], by rw [lE, List.map_append, List.map_append]; exact HO2.out⟩)
        clear hHeld SH HO2 lE lIA
        go_wp2_with fail
        go_roundw
        case rel => exact ⟨k + 1, H, _, by omega, by go_num, rfl, g3, P4.out, HE6.out, HR6.out, hb13⟩
        case measure => simp [intOf]; omega
      · have HE := Lib.hid (show TP = out ++ t.drop at_ by rw [← HEQ.out, TN.out at_ k (by omega), JS.out _ _ (Nat.le_refl _), List.take_length])
        have rc := run_cutFrom A t.length a at_ hat
        have hIA := (HA.out wr hbw).sub hat (Nat.le_refl _) hna
        rw [List.take_length] at hIA
        have lIA : (t.drop at_).length = t.length - at_ := by simp
        have hs0 : Wv.heap.size ≤ wr.heap.size := hbr.size
        clear HWL HEQ
        go_wp2_with (at_builtin; refine wpList_app _ _ 32 3 (.int .i64 0) 1 8 rfl rfl Try.underlying32 info_int rfl (by decide) (by decide) rfl HO.out rfl hIA (by rw [List.length_map, lIA, Nat.mul_one]) (oneCell_ints _) (by omega) hs0 ?_; intro AP dP w1 hown1 hd1 hb8 _ _)
        have hb9 := hb3.trans ((hbr.trans hb8).mono hb3.size)
        have lE : (out ++ t.drop at_).length = out.length + (t.length - at_) := by rw [List.length_append, lIA]
        have HR6 := Lib.hid (show RowI Wv.heap.size w1 (.slice AP (out.length + (t.length - at_)) dP) (out ++ t.drop at_) from ⟨AP, dP, by rw [lE], by rw [lE, List.map_append]; exact hown1⟩)
        clear hown1 hIA rc HO lE lIA
        go_ret
        rw [HE.out]
        exact HR6.out.is hb9

end Go.Proofs.Ytpamkbbmbeeheaa
