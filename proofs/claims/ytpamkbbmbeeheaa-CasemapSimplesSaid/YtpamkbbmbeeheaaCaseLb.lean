/- The walks of the laws CasemapTitles, CasemapRefuses and CasemapUncased. Written by gen_claws.py. -/
import Derived.Test.YtpamkbbmbeeheaaCaseLa
import Derived.Test.YtpamkbbmbeeheaaCaseTt
import Derived.Test.YtpamkbbmbeeheaaCaseRd
namespace Go.Proofs.Ytpamkbbmbeeheaa
open Go.RowKit Go.Maps Go.WideMaps

set_option maxRecDepth 100000 in
set_option maxHeartbeats 25600000 in
theorem CasemapTitles_any (v0 v1 v2 v3 v4 v5 : Value) (C : Cse) (A : Option Addr) (n a : Nat) (t : List Int) (P : Option Addr) (np cp : Nat) (ps : List Rg) (w : World) (h : CaseAt w v0 v1 v2 v3 v4 v5 C) (hl : CaseLn C) (hA : Ints w A t) (hn : t.length = n) (hna : n ≤ a) (haz : a ≤ 9223372036854775807) (hok : ∀ x ∈ t, iok x) (hP : Rgs w P ps) (hp : ps.length = np) (hcp : np ≤ cp) (_hcz : cp ≤ 9223372036854775807) :
    Calls Try.prog 8 #[.agg #[v0, v1, v2, v3, v4, v5], .slice A n a, .slice P np cp] w (RetTrue w) := by
  subst hn
  subst hp
  obtain ⟨A0, n0, c0, rfl⟩ := h.lower.sl
  obtain ⟨A1, n1, c1, rfl⟩ := h.upper.sl
  obtain ⟨A2, n2, c2, rfl⟩ := h.title.sl
  obtain ⟨A3, n3, c3, rfl⟩ := h.fold.sl
  obtain ⟨A4, n4, c4, rfl⟩ := h.cased.sl
  obtain ⟨A5, n5, c5, rfl⟩ := h.ign.sl
  have B0 : Below w.heap.size w (w.alloc (.cells #[.slice A0 n0 c0, .slice A1 n1 c1, .slice A2 n2 c2, .slice A3 n3 c3, .slice A4 n4 c4, .slice A5 n5 c5] 27)) := (Below.refl _ _).alloc (Nat.le_refl _) _
  have X0 : Box (w.alloc (.cells #[.slice A0 n0 c0, .slice A1 n1 c1, .slice A2 n2 c2, .slice A3 n3 c3, .slice A4 n4 c4, .slice A5 n5 c5] 27)) w.heap.size 27 [.slice A0 n0 c0, .slice A1 n1 c1, .slice A2 n2 c2, .slice A3 n3 c3, .slice A4 n4 c4, .slice A5 n5 c5] := Box.new w 27 [.slice A0 n0 c0, .slice A1 n1 c1, .slice A2 n2 c2, .slice A3 n3 c3, .slice A4 n4 c4, .slice A5 n5 c5] rfl
  have W0E : ∃ W0, (w.alloc (.cells #[.slice A0 n0 c0, .slice A1 n1 c1, .slice A2 n2 c2, .slice A3 n3 c3, .slice A4 n4 c4, .slice A5 n5 c5] 27)) = W0 := ⟨_, rfl⟩
  have CA := Lib.hid (fun W (hb : Below w.heap.size w W) => h.below hb)
  have HL := Lib.hid hl
  have HA := Lib.hid (fun W (hb' : Below w.heap.size w W) => hA.below hb')
  have HOK := Lib.hid hok
  have SZ := Lib.hid (fewT_sz (C := C) (t := t))
  have HP := Lib.hid (fun W (hb' : Below w.heap.size w W) => hP.below hb')
  clear h hl hA hok hP
  have e0 := X0.cell (i := 0) rfl
  have e1 := X0.cell (i := 1) rfl
  have e2 := X0.cell (i := 2) rfl
  have e3 := X0.cell (i := 3) rfl
  have e4 := X0.cell (i := 4) rfl
  have e5 := X0.cell (i := 5) rfl
  go_enter Try.func8, Try.ntmps8
  go_wp2_with fail
  clear e0 e1 e2 e3 e4 e5
  obtain ⟨W0, hW0⟩ := W0E
  rw [hW0] at B0 X0 ⊢
  clear hW0
  have SH := Lib.hid (fun W' (hb' : Below W0.heap.size W0 W') => show W'.cell? ⟨w.heap.size, 0, none⟩ = some (.slice A0 n0 c0) ∧ W'.cell? ⟨w.heap.size, 1, none⟩ = some (.slice A1 n1 c1) ∧ W'.cell? ⟨w.heap.size, 2, none⟩ = some (.slice A2 n2 c2) ∧ W'.cell? ⟨w.heap.size, 3, none⟩ = some (.slice A3 n3 c3) ∧ W'.cell? ⟨w.heap.size, 4, none⟩ = some (.slice A4 n4 c4) ∧ W'.cell? ⟨w.heap.size, 5, none⟩ = some (.slice A5 n5 c5) ∧ Below W0.heap.size W0 W' from ⟨(X0.below hb' X0.lt).cell (i := 0) rfl, (X0.below hb' X0.lt).cell (i := 1) rfl, (X0.below hb' X0.lt).cell (i := 2) rfl, (X0.below hb' X0.lt).cell (i := 3) rfl, (X0.below hb' X0.lt).cell (i := 4) rfl, (X0.below hb' X0.lt).cell (i := 5) rfl, hb'⟩)
  have KM0 := Lib.hid (fun W (hb' : Below W0.heap.size W0 W) => few_any _ _ _ _ _ _ C A t.length a t W (CA.out W (B0.trans (hb'.mono B0.size))) HL.out rfl (by omega))
  have KA := Lib.hid (fun W (hb' : Below W0.heap.size W0 W) => (alive_any W).mono (R' := fun e W' => e = .returned (.bool true) ∧ (W'.cell? ⟨w.heap.size, 0, none⟩ = some (.slice A0 n0 c0) ∧ W'.cell? ⟨w.heap.size, 1, none⟩ = some (.slice A1 n1 c1) ∧ W'.cell? ⟨w.heap.size, 2, none⟩ = some (.slice A2 n2 c2) ∧ W'.cell? ⟨w.heap.size, 3, none⟩ = some (.slice A3 n3 c3) ∧ W'.cell? ⟨w.heap.size, 4, none⟩ = some (.slice A4 n4 c4) ∧ W'.cell? ⟨w.heap.size, 5, none⟩ = some (.slice A5 n5 c5) ∧ Below W0.heap.size W0 W')) (fun e W' hh => ⟨hh.1, SH.out W' (hb'.trans (hh.2.mono hb'.size))⟩))
  have KEQ := Lib.hid (fun W E1 E2 (l : List Int) d1 d2 (hb' : Below W0.heap.size W0 W) (h1 : Ints W E1 l) (h2 : Ints W E2 l) (hz : l.length ≤ 100000) => (Equal_same E1 E2 l.length d1 d2 l W h1 h2 rfl (by omega)).mono (R' := fun e W' => e = .returned (.bool true) ∧ (W'.cell? ⟨w.heap.size, 0, none⟩ = some (.slice A0 n0 c0) ∧ W'.cell? ⟨w.heap.size, 1, none⟩ = some (.slice A1 n1 c1) ∧ W'.cell? ⟨w.heap.size, 2, none⟩ = some (.slice A2 n2 c2) ∧ W'.cell? ⟨w.heap.size, 3, none⟩ = some (.slice A3 n3 c3) ∧ W'.cell? ⟨w.heap.size, 4, none⟩ = some (.slice A4 n4 c4) ∧ W'.cell? ⟨w.heap.size, 5, none⟩ = some (.slice A5 n5 c5) ∧ Below W0.heap.size W0 W')) (fun e W' hh => ⟨hh.1, SH.out W' (hb'.trans (hh.2.below.mono hb'.size))⟩))
  clear X0
  with_reducible refine (KM0.out W0 (Below.refl _ _)).mono ?_
  rintro e W1 ⟨rfl, hb1⟩
  have hw1 := B0.trans (hb1.mono B0.size)
  cases hs : fewT C t with
  | false =>
    go_wp2_with fail
    with_reducible refine (alive_any W1).mono ?_
    rintro e W2 ⟨rfl, hb2⟩
    have hb9 := hw1.trans (hb2.mono hw1.size)
    go_wp2_with fail
    go_ret
    exact ⟨rfl, hb9⟩
  | true =>
    by_cases hnp : 40 < ps.length
    · have q0 : decide ((40 : Int) < ps.length) = true := decide_eq_true (by omega)
      go_wp2_with fail
      with_reducible refine (alive_any W1).mono ?_
      rintro e W2 ⟨rfl, hb2⟩
      have hb9 := hw1.trans (hb2.mono hw1.size)
      go_wp2_with fail
      go_ret
      exact ⟨rfl, hb9⟩
    have q0 : decide ((40 : Int) < ps.length) = false := decide_eq_false (by omega)
    obtain ⟨hz, ht⟩ := SZ.out hs
    have KT := Lib.hid (fun W (hb' : Below W0.heap.size W0 W) => (Title_any _ _ _ _ _ _ C A t.length a t P ps.length cp ps W (CA.out W (B0.trans (hb'.mono B0.size))) hz (HA.out W (B0.trans (hb'.mono B0.size))) rfl (by omega) hna haz HOK.out (HP.out W (B0.trans (hb'.mono B0.size))) rfl (by omega)).mono (R' := fun e W' => ∃ v, e = .returned v ∧ (W'.cell? ⟨w.heap.size, 0, none⟩ = some (.slice A0 n0 c0) ∧ W'.cell? ⟨w.heap.size, 1, none⟩ = some (.slice A1 n1 c1) ∧ W'.cell? ⟨w.heap.size, 2, none⟩ = some (.slice A2 n2 c2) ∧ W'.cell? ⟨w.heap.size, 3, none⟩ = some (.slice A3 n3 c3) ∧ W'.cell? ⟨w.heap.size, 4, none⟩ = some (.slice A4 n4 c4) ∧ W'.cell? ⟨w.heap.size, 5, none⟩ = some (.slice A5 n5 c5) ∧ Below W0.heap.size W0 W') ∧ (∃ E d, v = .slice E (titleL (caseD C) t ps).length d ∧ (titleL (caseD C) t ps).length ≤ d ∧ Ints W' E (titleL (caseD C) t ps) ∧ Below W.heap.size W W')) (fun e W' ⟨E, d, he, g1, g2, g3⟩ => ⟨_, he, SH.out W' (hb'.trans (g3.mono hb'.size)), E, d, rfl, g1, g2, g3⟩))
    have KRT := Lib.hid (fun W (hb' : Below W0.heap.size W0 W) => (refTitle_any _ _ _ _ _ _ C A t.length a t P ps.length cp ps W (CA.out W (B0.trans (hb'.mono B0.size))) hz (HA.out W (B0.trans (hb'.mono B0.size))) rfl (by omega) hna haz (HP.out W (B0.trans (hb'.mono B0.size))) rfl (by omega)).mono (R' := fun e W' => ∃ v, e = .returned v ∧ (W'.cell? ⟨w.heap.size, 0, none⟩ = some (.slice A0 n0 c0) ∧ W'.cell? ⟨w.heap.size, 1, none⟩ = some (.slice A1 n1 c1) ∧ W'.cell? ⟨w.heap.size, 2, none⟩ = some (.slice A2 n2 c2) ∧ W'.cell? ⟨w.heap.size, 3, none⟩ = some (.slice A3 n3 c3) ∧ W'.cell? ⟨w.heap.size, 4, none⟩ = some (.slice A4 n4 c4) ∧ W'.cell? ⟨w.heap.size, 5, none⟩ = some (.slice A5 n5 c5) ∧ Below W0.heap.size W0 W') ∧ (∃ E d, v = .slice E (titleL (caseD C) t ps).length d ∧ (titleL (caseD C) t ps).length ≤ d ∧ Ints W' E (titleL (caseD C) t ps) ∧ Below W.heap.size W W')) (fun e W' ⟨E, d, he, g1, g2, g3⟩ => ⟨_, he, SH.out W' (hb'.trans (g3.mono hb'.size)), E, d, rfl, g1, g2, g3⟩))
    have b1 := titleL_len (caseD_isok C) t ps
    generalize titleL (caseD C) t ps = l1 at *
    go_wp2_with fail
    refine wp_region_held_drew (S := fun W' => W'.cell? ⟨w.heap.size, 0, none⟩ = some (.slice A0 n0 c0) ∧ W'.cell? ⟨w.heap.size, 1, none⟩ = some (.slice A1 n1 c1) ∧ W'.cell? ⟨w.heap.size, 2, none⟩ = some (.slice A2 n2 c2) ∧ W'.cell? ⟨w.heap.size, 3, none⟩ = some (.slice A3 n3 c3) ∧ W'.cell? ⟨w.heap.size, 4, none⟩ = some (.slice A4 n4 c4) ∧ W'.cell? ⟨w.heap.size, 5, none⟩ = some (.slice A5 n5 c5) ∧ Below W0.heap.size W0 W') (by kernel_rfl) (SH.out _ (hb1.drew)) (fun hHeld => ?_)
    refine anyH_take (i := 0) (v := ?_) (some 17) rfl rfl (by kernel_rfl) (by kernel_rfl) (by kernel_rfl) (fun _ _ _ h => h) (by rfl) (by assumption) ?_ ?_
    rotate_left
    · intro w hSw; (try dsimp only at hSw); go_split_ands; go_simp; try (with_reducible rfl)
    try simp only [Act.put, List.setIfInBounds_toArray, List.set_cons_zero, List.set_cons_succ]
    refine anyH_take (i := 1) (v := ?_) (some 18) rfl rfl (by kernel_rfl) (by kernel_rfl) (by kernel_rfl) (fun _ _ _ h => h) (by rfl) (by assumption) ?_ ?_
    rotate_left
    · intro w hSw; (try dsimp only at hSw); go_split_ands; go_simp; try (with_reducible rfl)
    try simp only [Act.put, List.setIfInBounds_toArray, List.set_cons_zero, List.set_cons_succ]
    refine anyH_take (i := 2) (v := ?_) (some 19) rfl rfl (by kernel_rfl) (by kernel_rfl) (by kernel_rfl) (fun _ _ _ h => h) (by rfl) (by assumption) ?_ ?_
    rotate_left
    · intro w hSw; (try dsimp only at hSw); go_split_ands; go_simp; try (with_reducible rfl)
    try simp only [Act.put, List.setIfInBounds_toArray, List.set_cons_zero, List.set_cons_succ]
    refine anyH_take (i := 4) (v := ?_) (some 21) rfl rfl (by kernel_rfl) (by kernel_rfl) (by kernel_rfl) (fun _ _ _ h => h) (by rfl) (by assumption) ?_ ?_
    rotate_left
    · intro w hSw; (try dsimp only at hSw); go_split_ands; go_simp; try (with_reducible rfl)
    try simp only [Act.put, List.setIfInBounds_toArray, List.set_cons_zero, List.set_cons_succ]
    refine anyH_take (i := 5) (v := ?_) (some 22) rfl rfl (by kernel_rfl) (by kernel_rfl) (by kernel_rfl) (fun _ _ _ h => h) (by rfl) (by assumption) ?_ ?_
    rotate_left
    · intro w hSw; (try dsimp only at hSw); go_split_ands; go_simp; try (with_reducible rfl)
    try simp only [Act.put, List.setIfInBounds_toArray, List.set_cons_zero, List.set_cons_succ]
    refine anyH_take (i := 6) (v := ?_) (some 23) rfl rfl (by kernel_rfl) (by kernel_rfl) (by kernel_rfl) (fun _ _ _ h => h) (by rfl) (by assumption) ?_ ?_
    rotate_left
    · intro w hSw; (try dsimp only at hSw); go_split_ands; go_simp; try (with_reducible rfl)
    try simp only [Act.put, List.setIfInBounds_toArray, List.set_cons_zero, List.set_cons_succ]
    refine anyH_callE (i := 3) (some 20) rfl rfl (by kernel_rfl) (by rfl) (by go_simp) (KT.out _ hHeld.2.2.2.2.2.2) ?_
    rintro _ W2 hS6 ⟨E1, qE1, rfl, hlE1, hIE1, hbE1⟩
    clear hHeld
    have hHeld := hS6
    clear hS6
    try simp only [Act.put, List.setIfInBounds_toArray, List.set_cons_zero, List.set_cons_succ]
    refine anyH_callE (i := 7) (some 24) rfl rfl (by kernel_rfl) (by rfl) (by go_simp) (KRT.out _ hHeld.2.2.2.2.2.2) ?_
    rintro _ W3 hS6 ⟨E2, qE2, rfl, hlE2, hIE2, hbE2⟩
    clear hHeld
    have hHeld := hS6
    clear hS6
    have hIE1 := hIE1.below hbE2
    try simp only [Act.put, List.setIfInBounds_toArray, List.set_cons_zero, List.set_cons_succ]
    refine anyH_call (i := 8) (some 25) rfl rfl (by kernel_rfl) (by rfl) (by go_simp) (KEQ.out _ E1 E2 l1 qE1 qE2 hHeld.2.2.2.2.2.2 hIE1 hIE2 (by omega)) (fun W4 hS6 => ?_)
    clear hHeld
    have hHeld := hS6
    clear hS6
    try simp only [Act.put, List.setIfInBounds_toArray, List.set_cons_zero, List.set_cons_succ]
    refine anyH_take (i := 9) (v := ?_) (some 26) rfl rfl (by kernel_rfl) (by kernel_rfl) (by kernel_rfl) (fun _ _ _ h => h) (by rfl) (by assumption) ?_ ?_
    rotate_left
    · intro w hSw; (try dsimp only at hSw); go_split_ands; go_simp; try (with_reducible rfl)
    try simp only [Act.put, List.setIfInBounds_toArray, List.set_cons_zero, List.set_cons_succ]
    refine anyH_call (i := 10) (some 27) rfl rfl (by kernel_rfl) (by rfl) (by go_simp) (KA.out _ hHeld.2.2.2.2.2.2) (fun W8 hS6 => ?_)
    clear hHeld
    have hHeld := hS6
    clear hS6
    try simp only [Act.put, List.setIfInBounds_toArray, List.set_cons_zero, List.set_cons_succ]
    refine anyH_take (i := 11) (v := ?_) (some 28) rfl rfl (by kernel_rfl) (by kernel_rfl) (by kernel_rfl) (fun _ _ _ h => h) (by rfl) (by assumption) ?_ ?_
    rotate_left
    · intro w hSw; (try dsimp only at hSw); go_split_ands; go_simp; try (with_reducible rfl)
    try simp only [Act.put, List.setIfInBounds_toArray, List.set_cons_zero, List.set_cons_succ]
    refine anyH_take (i := 12) (v := ?_) (some 6) rfl rfl (by kernel_rfl) (by kernel_rfl) (by kernel_rfl) (fun _ _ _ h => h) (by rfl) (by assumption) ?_ ?_
    rotate_left
    · intro w hSw; (try dsimp only at hSw); go_split_ands; go_simp; try (with_reducible rfl)
    try simp only [Act.put, List.setIfInBounds_toArray, List.set_cons_zero, List.set_cons_succ]
    refine wpAnyH_done (by kernel_rfl) ?_ _
    have hb9 := B0.trans (hHeld.2.2.2.2.2.2.mono B0.size)
    clear hHeld SH
    go_wp2_with fail
    go_ret
    exact ⟨rfl, hb9⟩

theorem flat_same (t : List Int) : t.flatMap (fun x => [x]) = t := by induction t <;> simp_all
theorem mapT_nil (x : Int) : mapT [] x = [x] := rfl
theorem low0 (t : List Int) : lowL case0 t = t := by
  rw [lowL_flat (fun x => rfl)]
  exact flat_same t
theorem up0 (t : List Int) : upL case0 t = t := by
  rw [upL_flat]
  exact flat_same t
theorem cased0 (x : Int) : hasR case0.cased x = false := by unfold hasR; simp [case0]
theorem title0 (t : List Int) (ps : List Rg) : titleL case0 t ps = t := titleL_no (fun x _ => cased0 x) ps
theorem casedD {C : Cse} {x : Int} (h : hasR C.cased x = false) : hasR (caseD C).cased x = false := by
  by_cases he : caseErr C = 0
  · rw [caseD_ok he]; exact h
  · rw [caseD_bad he]; exact cased0 x

set_option maxRecDepth 100000 in
set_option maxHeartbeats 25600000 in
theorem CasemapRefuses_any (v0 v1 v2 v3 v4 v5 : Value) (C : Cse) (A : Option Addr) (n a : Nat) (t : List Int) (w : World) (h : CaseAt w v0 v1 v2 v3 v4 v5 C) (hl : CaseLn C) (hA : Ints w A t) (hn : t.length = n) (hna : n ≤ a) (haz : a ≤ 9223372036854775807) (hok : ∀ x ∈ t, iok x) :
    Calls Try.prog 11 #[.agg #[v0, v1, v2, v3, v4, v5], .slice A n a] w (RetTrue w) := by
  subst hn
  obtain ⟨A0, n0, c0, rfl⟩ := h.lower.sl
  obtain ⟨A1, n1, c1, rfl⟩ := h.upper.sl
  obtain ⟨A2, n2, c2, rfl⟩ := h.title.sl
  obtain ⟨A3, n3, c3, rfl⟩ := h.fold.sl
  obtain ⟨A4, n4, c4, rfl⟩ := h.cased.sl
  obtain ⟨A5, n5, c5, rfl⟩ := h.ign.sl
  have B0 : Below w.heap.size w (w.alloc (.cells #[.slice A0 n0 c0, .slice A1 n1 c1, .slice A2 n2 c2, .slice A3 n3 c3, .slice A4 n4 c4, .slice A5 n5 c5] 27)) := (Below.refl _ _).alloc (Nat.le_refl _) _
  have X0 : Box (w.alloc (.cells #[.slice A0 n0 c0, .slice A1 n1 c1, .slice A2 n2 c2, .slice A3 n3 c3, .slice A4 n4 c4, .slice A5 n5 c5] 27)) w.heap.size 27 [.slice A0 n0 c0, .slice A1 n1 c1, .slice A2 n2 c2, .slice A3 n3 c3, .slice A4 n4 c4, .slice A5 n5 c5] := Box.new w 27 [.slice A0 n0 c0, .slice A1 n1 c1, .slice A2 n2 c2, .slice A3 n3 c3, .slice A4 n4 c4, .slice A5 n5 c5] rfl
  have W0E : ∃ W0, (w.alloc (.cells #[.slice A0 n0 c0, .slice A1 n1 c1, .slice A2 n2 c2, .slice A3 n3 c3, .slice A4 n4 c4, .slice A5 n5 c5] 27)) = W0 := ⟨_, rfl⟩
  have CA := Lib.hid (fun W (hb : Below w.heap.size w W) => h.below hb)
  have HL := Lib.hid hl
  have HA := Lib.hid (fun W (hb' : Below w.heap.size w W) => hA.below hb')
  have HOK := Lib.hid hok
  have SZ := Lib.hid (fewT_sz (C := C) (t := t))
  clear h hl hA hok
  have e0 := X0.cell (i := 0) rfl
  have e1 := X0.cell (i := 1) rfl
  have e2 := X0.cell (i := 2) rfl
  have e3 := X0.cell (i := 3) rfl
  have e4 := X0.cell (i := 4) rfl
  have e5 := X0.cell (i := 5) rfl
  go_enter Try.func11, Try.ntmps11
  go_wp2_with fail
  clear e0 e1 e2 e3 e4 e5
  obtain ⟨W0, hW0⟩ := W0E
  rw [hW0] at B0 X0 ⊢
  clear hW0
  have HX := Lib.hid X0
  have KM0 := Lib.hid (fun W (hb' : Below W0.heap.size W0 W) => few_any _ _ _ _ _ _ C A t.length a t W (CA.out W (B0.trans (hb'.mono B0.size))) HL.out rfl (by omega))
  clear X0
  with_reducible refine (KM0.out W0 (Below.refl _ _)).mono ?_
  rintro e W1 ⟨rfl, hb1⟩
  have hw1 := B0.trans (hb1.mono B0.size)
  cases hs : fewT C t with
  | false =>
    go_wp2_with fail
    with_reducible refine (alive_any W1).mono ?_
    rintro e W2 ⟨rfl, hb2⟩
    have hb9 := hw1.trans (hb2.mono hw1.size)
    go_wp2_with fail
    go_ret
    exact ⟨rfl, hb9⟩
  | true =>
    obtain ⟨hz, ht⟩ := SZ.out hs
    have CK := Lib.hid (refCaseCheck_any _ _ _ _ _ _ C W1 (CA.out W1 hw1) hz)
    have LC := Lib.hid (fun W (hb' : Below W0.heap.size W0 W) => Lower_any _ _ _ _ _ _ C A t.length a t W (CA.out W (B0.trans (hb'.mono B0.size))) hz (HA.out W (B0.trans (hb'.mono B0.size))) rfl (by omega) hna haz HOK.out)
    have UC := Lib.hid (fun W (hb' : Below W0.heap.size W0 W) => Upper_any _ _ _ _ _ _ C A t.length a t W (CA.out W (B0.trans (hb'.mono B0.size))) hz (HA.out W (B0.trans (hb'.mono B0.size))) rfl (by omega) hna haz HOK.out)
    have TC := Lib.hid (fun W P cp (ps : List Rg) np (hP : Rgs W P ps) (hp : ps.length = np) (hpz : np ≤ 1000) (hb' : Below W0.heap.size W0 W) => Title_any _ _ _ _ _ _ C A t.length a t P np cp ps W (CA.out W (B0.trans (hb'.mono B0.size))) hz (HA.out W (B0.trans (hb'.mono B0.size))) rfl (by omega) hna haz HOK.out hP hp (by omega))
    have DB := Lib.hid (caseD_bad (C := C))
    generalize caseErr C = ce at *
    have XW1 := HX.out.below hb1 HX.out.lt
    have f0 := XW1.cell (i := 0) rfl
    have f1 := XW1.cell (i := 1) rfl
    have f2 := XW1.cell (i := 2) rfl
    have f3 := XW1.cell (i := 3) rfl
    have f4 := XW1.cell (i := 4) rfl
    have f5 := XW1.cell (i := 5) rfl
    have hlW1 := XW1.lt
    clear XW1
    go_wp2_with fail
    clear f0 f1 f2 f3 f4 f5
    with_reducible refine CK.out.mono ?_
    rintro e W2 ⟨rfl, hb2⟩
    have hb3 := hb1.trans (hb2.mono hb1.size)
    have hw2 := B0.trans (hb3.mono B0.size)
    clear CK
    by_cases hce : ce = 0
    · subst hce
      go_wp2_with fail
      with_reducible refine (alive_any W2).mono ?_
      rintro e W3 ⟨rfl, hb4⟩
      have hb9 := hw2.trans (hb4.mono hw2.size)
      go_wp2_with fail
      go_ret
      exact ⟨rfl, hb9⟩
    have q0 : (ce == 0) = false := by simpa using hce
    rw [DB.out hce] at LC UC TC
    rw [low0] at LC
    rw [up0] at UC
    simp only [title0] at TC
    clear DB hce
    have Bp : Below W2.heap.size W2 (W2.alloc (.cells #[.int .i64 0, .int .i64 t.length] 48)) := (Below.refl _ _).alloc (Nat.le_refl _) _
    have RP : Rgs (W2.alloc (.cells #[.int .i64 0, .int .i64 t.length] 48)) (some ⟨W2.heap.size, 0, none⟩) [⟨0, t.length⟩] := Sl_new W2 [.int .i64 0, .int .i64 t.length] 48 rfl
    have hb5 := hb3.trans (Bp.mono hb3.size)
    have WpE : ∃ Wp, W2.alloc (.cells #[.int .i64 0, .int .i64 t.length] 48) = Wp := ⟨_, rfl⟩
    have Xp := HX.out.below hb5 HX.out.lt
    have HRP := Lib.hid RP
    have f0 := Xp.cell (i := 0) rfl
    have f1 := Xp.cell (i := 1) rfl
    have f2 := Xp.cell (i := 2) rfl
    have f3 := Xp.cell (i := 3) rfl
    have f4 := Xp.cell (i := 4) rfl
    have f5 := Xp.cell (i := 5) rfl
    clear RP
    go_wp2_with fail
    obtain ⟨Wp, hWp⟩ := WpE
    rw [hWp] at HRP hb5 Xp Bp f0 f1 f2 f3 f4 f5 ⊢
    clear hWp
    generalize W2.heap.size = bp at *
    have HRP6 := Lib.hid (fun W (hb' : Below Wp.heap.size Wp W) => HRP.out.below hb')
    have K1 := Lib.hid (LC.out Wp hb5)
    clear f0 f1 f2 f3 f4 f5 Xp
    with_reducible refine K1.out.mono ?_
    rintro e W3 ⟨E1, d1, rfl, _, hI1, hb6⟩
    have hb7 := hb5.trans (hb6.mono hb5.size)
    have hb7p := hb6
    have Q1 := Lib.hid (Equal_same E1 A t.length d1 a t W3 hI1 (HA.out W3 (B0.trans (hb7.mono B0.size))) rfl (by omega))
    clear K1 hI1 LC
    go_wp2_with fail
    with_reducible refine Q1.out.mono ?_
    rintro e W4 ⟨rfl, hq⟩
    have hb8 := hb7.trans (hq.below.mono hb7.size)
    have hb8p := hb7p.trans (hq.below.mono hb7p.size)
    have K2 := Lib.hid (UC.out W4 hb8)
    clear Q1 hq UC
    have XW4 := HX.out.below hb8 HX.out.lt
    have f0 := XW4.cell (i := 0) rfl
    have f1 := XW4.cell (i := 1) rfl
    have f2 := XW4.cell (i := 2) rfl
    have f3 := XW4.cell (i := 3) rfl
    have f4 := XW4.cell (i := 4) rfl
    have f5 := XW4.cell (i := 5) rfl
    have hlW4 := XW4.lt
    clear XW4
    go_wp2_with fail
    clear f0 f1 f2 f3 f4 f5
    with_reducible refine K2.out.mono ?_
    rintro e W5 ⟨E2, d2, rfl, _, hI2, hb10⟩
    have hb11 := hb8.trans (hb10.mono hb8.size)
    have hb11p := hb8p.trans (hb10.mono hb8p.size)
    have Q2 := Lib.hid (Equal_same E2 A t.length d2 a t W5 hI2 (HA.out W5 (B0.trans (hb11.mono B0.size))) rfl (by omega))
    clear K2 hI2
    go_wp2_with fail
    with_reducible refine Q2.out.mono ?_
    rintro e W6 ⟨rfl, hq⟩
    have hb12 := hb11.trans (hq.below.mono hb11.size)
    have hb12p := hb11p.trans (hq.below.mono hb11p.size)
    have K3 := Lib.hid (TC.out W6 (some ⟨bp, 0, none⟩) 1 [⟨0, t.length⟩] 1 (HRP6.out W6 hb12p) rfl (by omega) hb12)
    clear Q2 hq TC
    have XW6 := HX.out.below hb12 HX.out.lt
    have f0 := XW6.cell (i := 0) rfl
    have f1 := XW6.cell (i := 1) rfl
    have f2 := XW6.cell (i := 2) rfl
    have f3 := XW6.cell (i := 3) rfl
    have f4 := XW6.cell (i := 4) rfl
    have f5 := XW6.cell (i := 5) rfl
    have hlW6 := XW6.lt
    clear XW6
    go_wp2_with fail
    clear f0 f1 f2 f3 f4 f5
    with_reducible refine K3.out.mono ?_
    rintro e W7 ⟨E3, d3, rfl, _, hI3, hb13⟩
    have hb14 := hb12.trans (hb13.mono hb12.size)
    have Q3 := Lib.hid (Equal_same E3 A t.length d3 a t W7 hI3 (HA.out W7 (B0.trans (hb14.mono B0.size))) rfl (by omega))
    clear K3 hI3
    go_wp2_with fail
    with_reducible refine Q3.out.mono ?_
    rintro e W8 ⟨rfl, hq⟩
    have hb15 := hb14.trans (hq.below.mono hb14.size)
    have hw8 := B0.trans (hb15.mono B0.size)
    clear Q3 hq
    go_wp2_with fail
    with_reducible refine (alive_any W8).mono ?_
    rintro e W9 ⟨rfl, hb16⟩
    have hb17 := hw8.trans (hb16.mono hw8.size)
    go_wp2_with fail
    go_ret
    exact ⟨rfl, hb17⟩

set_option maxRecDepth 100000 in
set_option maxHeartbeats 25600000 in
theorem CasemapUncased_any (v0 v1 v2 v3 v4 v5 : Value) (C : Cse) (A : Option Addr) (n a : Nat) (t : List Int) (P : Option Addr) (np cp : Nat) (ps : List Rg) (w : World) (h : CaseAt w v0 v1 v2 v3 v4 v5 C) (hl : CaseLn C) (hA : Ints w A t) (hn : t.length = n) (hna : n ≤ a) (haz : a ≤ 9223372036854775807) (hok : ∀ x ∈ t, iok x) (hP : Rgs w P ps) (hp : ps.length = np) (hcp : np ≤ cp) (_hcz : cp ≤ 9223372036854775807) :
    Calls Try.prog 9 #[.agg #[v0, v1, v2, v3, v4, v5], .slice A n a, .slice P np cp] w (RetTrue w) := by
  subst hn
  subst hp
  obtain ⟨A0, n0, c0, rfl⟩ := h.lower.sl
  obtain ⟨A1, n1, c1, rfl⟩ := h.upper.sl
  obtain ⟨A2, n2, c2, rfl⟩ := h.title.sl
  obtain ⟨A3, n3, c3, rfl⟩ := h.fold.sl
  obtain ⟨A4, n4, c4, rfl⟩ := h.cased.sl
  obtain ⟨A5, n5, c5, rfl⟩ := h.ign.sl
  have B0 : Below w.heap.size w (w.alloc (.cells #[.slice A0 n0 c0, .slice A1 n1 c1, .slice A2 n2 c2, .slice A3 n3 c3, .slice A4 n4 c4, .slice A5 n5 c5] 27)) := (Below.refl _ _).alloc (Nat.le_refl _) _
  have X0 : Box (w.alloc (.cells #[.slice A0 n0 c0, .slice A1 n1 c1, .slice A2 n2 c2, .slice A3 n3 c3, .slice A4 n4 c4, .slice A5 n5 c5] 27)) w.heap.size 27 [.slice A0 n0 c0, .slice A1 n1 c1, .slice A2 n2 c2, .slice A3 n3 c3, .slice A4 n4 c4, .slice A5 n5 c5] := Box.new w 27 [.slice A0 n0 c0, .slice A1 n1 c1, .slice A2 n2 c2, .slice A3 n3 c3, .slice A4 n4 c4, .slice A5 n5 c5] rfl
  have W0E : ∃ W0, (w.alloc (.cells #[.slice A0 n0 c0, .slice A1 n1 c1, .slice A2 n2 c2, .slice A3 n3 c3, .slice A4 n4 c4, .slice A5 n5 c5] 27)) = W0 := ⟨_, rfl⟩
  have CA := Lib.hid (fun W (hb : Below w.heap.size w W) => h.below hb)
  have HL := Lib.hid hl
  have HA := Lib.hid (fun W (hb' : Below w.heap.size w W) => hA.below hb')
  have HOK := Lib.hid hok
  have SZ := Lib.hid (fewT_sz (C := C) (t := t))
  have HP := Lib.hid (fun W (hb' : Below w.heap.size w W) => hP.below hb')
  clear h hl hA hok hP
  have e0 := X0.cell (i := 0) rfl
  have e1 := X0.cell (i := 1) rfl
  have e2 := X0.cell (i := 2) rfl
  have e3 := X0.cell (i := 3) rfl
  have e4 := X0.cell (i := 4) rfl
  have e5 := X0.cell (i := 5) rfl
  go_enter Try.func9, Try.ntmps9
  go_wp2_with fail
  clear e0 e1 e2 e3 e4 e5
  obtain ⟨W0, hW0⟩ := W0E
  rw [hW0] at B0 X0 ⊢
  clear hW0
  have KM0 := Lib.hid (fun W (hb' : Below W0.heap.size W0 W) => few_any _ _ _ _ _ _ C A t.length a t W (CA.out W (B0.trans (hb'.mono B0.size))) HL.out rfl (by omega))
  have HX := Lib.hid X0
  clear X0
  with_reducible refine (KM0.out W0 (Below.refl _ _)).mono ?_
  rintro e W1 ⟨rfl, hb1⟩
  have hw1 := B0.trans (hb1.mono B0.size)
  cases hs : fewT C t with
  | false =>
    go_wp2_with fail
    with_reducible refine (alive_any W1).mono ?_
    rintro e W2 ⟨rfl, hb2⟩
    have hb9 := hw1.trans (hb2.mono hw1.size)
    go_wp2_with fail
    go_ret
    exact ⟨rfl, hb9⟩
  | true =>
    by_cases hnp : 40 < ps.length
    · have q0 : decide ((40 : Int) < ps.length) = true := decide_eq_true (by omega)
      go_wp2_with fail
      with_reducible refine (alive_any W1).mono ?_
      rintro e W2 ⟨rfl, hb2⟩
      have hb9 := hw1.trans (hb2.mono hw1.size)
      go_wp2_with fail
      go_ret
      exact ⟨rfl, hb9⟩
    have q0 : decide ((40 : Int) < ps.length) = false := decide_eq_false (by omega)
    obtain ⟨hz, ht⟩ := SZ.out hs
    have HC := Lib.hid (fun W x (hb' : Below W0.heap.size W0 W) => (CA.out W (B0.trans (hb'.mono B0.size))).cased.has hz.cased x)
    have FC := Lib.hid (fun W i (hb' : Below W0.heap.size W0 W) => Final_any _ _ _ _ _ _ C A t.length a t i W (CA.out W (B0.trans (hb'.mono B0.size))) hz (HA.out W (B0.trans (hb'.mono B0.size))) rfl (by omega))
    have TC := Lib.hid (fun W (hb' : Below W0.heap.size W0 W) => Title_any _ _ _ _ _ _ C A t.length a t P ps.length cp ps W (CA.out W (B0.trans (hb'.mono B0.size))) hz (HA.out W (B0.trans (hb'.mono B0.size))) rfl (by omega) hna haz HOK.out (HP.out W (B0.trans (hb'.mono B0.size))) rfl (by omega))
    have TN := Lib.hid (fun hh => titleL_no (C := caseD C) (t := t) hh ps)
    have FN := Lib.hid (fun hh k hk => (finalB_in (caseD C) t (k := k) hk).trans (finC_no (C := caseD C) (t := t) (i := k) hh))
    go_wp2_with fail
    go_loopw [7] (fun u wr => ∃ i : Nat, i ≤ t.length ∧ u = .int .i64 i ∧ (∀ j, (hj : j < t.length) → j < i → hasR C.cased t[j] = false) ∧ Below W0.heap.size W0 wr) (fun u _ => t.length - (intOf u).toNat)
    case atStart => exact ⟨0, Nat.zero_le _, rfl, fun j _ h => by omega, hb1⟩
    case round =>
      obtain ⟨i, hi, rfl, hno, hbr⟩ := hrel
      have HNO := Lib.hid hno
      clear hno
      have hbw := B0.trans (hbr.mono B0.size)
      by_cases hlt : i < t.length
      · obtain ⟨b1, o1, rfl, hcell⟩ := (HA.out W0 B0).at hlt
        have d0 := hcell i hlt
        have lb := World.block_lt_of_cell? W0 _ d0
        have ci0 : (0 : Int) ≤ i := by omega
        have ci1 : (i : Int) < t.length := by omega
        have HUP := Lib.hid (fun h => all_up (P := fun x : Int => hasR C.cased x = false) hlt HNO.out h)
        clear hcell
        generalize t[i] = ti at *
        have SC := Lib.hid (fun W' (hb' : Below W0.heap.size W0 W') => show W'.cell? ⟨w.heap.size, 4, none⟩ = some (.slice A4 n4 c4) ∧ W'.cell? ⟨b1, o1 + i, none⟩ = some (.int .i64 ti) ∧ Below W0.heap.size W0 W' from ⟨(HX.out.below hb' HX.out.lt).cell (i := 4) rfl, (hb'.cell (p := ⟨b1, o1 + i, none⟩) lb).trans d0, hb'⟩)
        have KC := Lib.hid ((HC.out wr.drew ti hbr.drew).mono (R' := fun e W' => e = .returned (.bool (hasR C.cased ti)) ∧ (W'.cell? ⟨w.heap.size, 4, none⟩ = some (.slice A4 n4 c4) ∧ W'.cell? ⟨b1, o1 + i, none⟩ = some (.int .i64 ti) ∧ Below W0.heap.size W0 W')) (fun e W' hh => ⟨hh.1, SC.out W' (hbr.trans ((Below.trans (Below.refl _ _).drew hh.2).mono hbr.size))⟩))
        generalize hasR C.cased ti = qc at *
        clear d0 lb
        go_wp2_with fail
        refine wp_region_held_drew (S := fun W' => W'.cell? ⟨w.heap.size, 4, none⟩ = some (.slice A4 n4 c4) ∧ W'.cell? ⟨b1, o1 + i, none⟩ = some (.int .i64 ti) ∧ Below W0.heap.size W0 W') (by kernel_rfl) (SC.out _ hbr.drew) (fun hHeld => ?_)
        refine anyH_take (i := 0) (v := ?_) (some 25) rfl rfl (by kernel_rfl) (by kernel_rfl) (by kernel_rfl) (fun _ _ _ h => h) (by rfl) (by assumption) ?_ ?_
        rotate_left
        · intro w hSw; (try dsimp only at hSw); go_split_ands; go_simp; try (with_reducible rfl)
        try simp only [Act.put, List.setIfInBounds_toArray, List.set_cons_zero, List.set_cons_succ]
        refine anyH_take (i := 1) (v := ?_) (some 26) rfl rfl (by kernel_rfl) (by kernel_rfl) (by kernel_rfl) (fun _ _ _ h => h) (by rfl) (by assumption) ?_ ?_
        rotate_left
        · intro w hSw; (try dsimp only at hSw); go_split_ands; go_simp; try (with_reducible rfl)
        try simp only [Act.put, List.setIfInBounds_toArray, List.set_cons_zero, List.set_cons_succ]
        refine anyH_take (i := 2) (v := ?_) (some 27) rfl rfl (by kernel_rfl) (by kernel_rfl) (by kernel_rfl) (fun _ _ _ h => h) (by rfl) (by assumption) ?_ ?_
        rotate_left
        · intro w hSw; (try dsimp only at hSw); go_split_ands; go_simp; try (with_reducible rfl)
        try simp only [Act.put, List.setIfInBounds_toArray, List.set_cons_zero, List.set_cons_succ]
        refine anyH_take (i := 3) (v := ?_) (some 28) rfl rfl (by kernel_rfl) (by kernel_rfl) (by kernel_rfl) (fun _ _ _ h => h) (by rfl) (by assumption) ?_ ?_
        rotate_left
        · intro w hSw; (try dsimp only at hSw); go_split_ands; go_simp; try (with_reducible rfl)
        try simp only [Act.put, List.setIfInBounds_toArray, List.set_cons_zero, List.set_cons_succ]
        refine anyH_take (i := 4) (v := ?_) (some 29) rfl rfl (by kernel_rfl) (by kernel_rfl) (by kernel_rfl) (fun _ _ _ h => h) (by rfl) (by assumption) ?_ ?_
        rotate_left
        · intro w hSw; (try dsimp only at hSw); go_split_ands; go_simp; try (with_reducible rfl)
        try simp only [Act.put, List.setIfInBounds_toArray, List.set_cons_zero, List.set_cons_succ]
        refine anyH_take (i := 5) (v := ?_) (some 30) rfl rfl (by kernel_rfl) (by kernel_rfl) (by kernel_rfl) (fun _ _ _ h => h) (by rfl) (by assumption) ?_ ?_
        rotate_left
        · intro w hSw; (try dsimp only at hSw); go_split_ands; go_simp; try (with_reducible rfl)
        try simp only [Act.put, List.setIfInBounds_toArray, List.set_cons_zero, List.set_cons_succ]
        refine anyH_call (i := 6) (some 31) rfl rfl (by kernel_rfl) (by rfl) (by go_simp) KC.out (fun W3 hS6 => ?_)
        clear hHeld
        have hHeld := hS6
        clear hS6
        try simp only [Act.put, List.setIfInBounds_toArray, List.set_cons_zero, List.set_cons_succ]
        refine wpAnyH_done (by kernel_rfl) ?_ _
        have hb3 := hHeld.2.2
        have hw3 := B0.trans (hb3.mono B0.size)
        clear hHeld KC SC
        cases qc with
        | true =>
          go_wp2_with fail
          with_reducible refine (alive_any W3).mono ?_
          rintro e W4 ⟨rfl, hb4⟩
          have hb9 := hw3.trans (hb4.mono hw3.size)
          go_wp2_with fail
          go_ret
          exact ⟨rfl, hb9⟩
        | false =>
          have HQ := Lib.hid (HUP.out rfl)
          clear HUP
          go_wp2_with fail
          go_roundw
          case rel => exact ⟨i + 1, by omega, by go_num, HQ.out, hb3⟩
          case measure => simp [intOf]; omega
      · have HNC := Lib.hid (show ∀ x ∈ t, hasR (caseD C).cased x = false from fun x hx => by
          obtain ⟨j, hj, rfl⟩ := List.getElem_of_mem hx
          exact casedD (HNO.out j hj (by omega)))
        have FN2 := Lib.hid (fun k hk => FN.out HNC.out k hk)
        have E := TN.out HNC.out
        rw [E] at TC
        clear HNO TN FN E HNC HC
        go_wp2_with fail
        go_loopw [8] (fun u wr => ∃ k : Nat, k ≤ t.length ∧ u = .int .i64 k ∧ Below W0.heap.size W0 wr) (fun u _ => t.length - (intOf u).toNat)
        case atStart => exact ⟨0, Nat.zero_le _, rfl, hbr⟩
        case round =>
          obtain ⟨k, hk, rfl, hbr2⟩ := hrel
          have hbw2 := B0.trans (hbr2.mono B0.size)
          have Xk := HX.out.below hbr2 HX.out.lt
          have f0 := Xk.cell (i := 0) rfl
          have f1 := Xk.cell (i := 1) rfl
          have f2 := Xk.cell (i := 2) rfl
          have f3 := Xk.cell (i := 3) rfl
          have f4 := Xk.cell (i := 4) rfl
          have f5 := Xk.cell (i := 5) rfl
          have hlk := Xk.lt
          clear Xk
          by_cases hlt2 : k < t.length
          · have KF := Lib.hid (FC.out wr k hbr2)
            rw [FN2.out k hlt2] at KF
            go_wp2_with fail
            with_reducible refine KF.out.mono ?_
            rintro e W5 ⟨rfl, hb5⟩
            have hb6 := hbr2.trans (hb5.mono hbr2.size)
            clear KF f0 f1 f2 f3 f4 f5
            go_wp2_with fail
            go_roundw
            case rel => exact ⟨k + 1, by omega, by go_num, hb6⟩
            case measure => simp [intOf]; omega
          · have KT := Lib.hid (TC.out wr hbr2)
            go_wp2_with fail
            with_reducible refine KT.out.mono ?_
            rintro e W5 ⟨E1, d1, rfl, _, hI1, hb5⟩
            have hb6 := hbr2.trans (hb5.mono hbr2.size)
            have Q1 := Lib.hid (Equal_same E1 A t.length d1 a t W5 hI1 (HA.out W5 (B0.trans (hb6.mono B0.size))) rfl (by omega))
            clear KT hI1 f0 f1 f2 f3 f4 f5
            go_wp2_with fail
            with_reducible refine Q1.out.mono ?_
            rintro e W6 ⟨rfl, hq⟩
            have hb7 := hb6.trans (hq.below.mono hb6.size)
            have hw6 := B0.trans (hb7.mono B0.size)
            clear Q1 hq
            go_wp2_with fail
            with_reducible refine (alive_any W6).mono ?_
            rintro e W7 ⟨rfl, hb8⟩
            have hb9 := hw6.trans (hb8.mono hw6.size)
            go_wp2_with fail
            go_ret
            exact ⟨rfl, hb9⟩

end Go.Proofs.Ytpamkbbmbeeheaa
