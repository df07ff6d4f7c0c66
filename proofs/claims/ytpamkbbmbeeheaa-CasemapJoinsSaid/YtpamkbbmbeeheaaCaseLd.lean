/- The walk of the law CasemapJoins. Written by gen_claws.py. -/
import Derived.Test.YtpamkbbmbeeheaaCaseLb
import Derived.Test.YtpamkbbmbeeheaaCaseTt
import Derived.Test.YtpamkbbmbeeheaaCaseRd
import Derived.Deep.CutRange
import Derived.Deep.DeepCutAuto
namespace Go.Proofs.Ytpamkbbmbeeheaa
open Go.RowKit Go.Maps Go.WideMaps

theorem Ints.off {w : World} {A : Option Addr} {l : List Int} (h : Ints w A l) {p : Nat} {t : TypeId} (hp : Box w p t []) : ∀ b o, A = some ⟨b, o, none⟩ → l ≠ [] → b ≠ p := by
  rintro b o rfl hne rfl
  obtain ⟨b', o', hA, hc⟩ := h.at (k := 0) (List.length_pos_iff.2 hne)
  injection hA with hA
  injection hA with h1 h2
  subst h1
  have := hc 0 (List.length_pos_iff.2 hne)
  unfold Box at hp
  simp [World.cell?, hp] at this
theorem Ints.grown {w w' : World} {A : Option Addr} {l : List Int} {r : Option Nat} (h : Ints w A l) (hg : w.grownBy w' r) (hne : ∀ b o, A = some ⟨b, o, none⟩ → l ≠ [] → some b ≠ r) : Ints w' A l := by
  intro hl
  have hl2 : l ≠ [] := by rintro rfl; simp at hl
  obtain ⟨b, o, rfl, hc⟩ := h hl
  refine ⟨b, o, rfl, fun j u hu => ?_⟩
  have h1 := hc j u hu
  exact (World.cell?_of_block (hg.block b (World.block_lt_of_cell? w _ h1) (hne b o rfl hl2))).trans h1
theorem Ints.lt {w : World} {b o : Nat} {l : List Int} (h : Ints w (some ⟨b, o, none⟩) l) (hne : l ≠ []) : b < w.heap.size := by
  obtain ⟨b', o', hA, hc⟩ := h.at (k := 0) (List.length_pos_iff.2 hne)
  injection hA with hA
  injection hA with h1 h2
  subst h1
  exact World.block_lt_of_cell? w _ (hc 0 (List.length_pos_iff.2 hne))
theorem own_cap {w : World} {base : Nat} {e : TypeId} {size n c : Nat} {A : Option Addr} {xs : List Value} (h : w.ownsRow base e size (.slice A n c) n xs) : c ≤ 9223372036854775807 := by
  rcases h.2 with ⟨hv, _⟩ | ⟨g, cap, cur, hv, _, _, _, hc, _⟩
  · injection hv with _ _ hv; omega
  · injection hv with _ _ hv; unfold maxLen at hc; omega
theorem noFin_D {C : Cse} (h : ∀ i, (hi : i < C.lower.length) → C.lower[i].tag.size = 0 ∨ ¬ caseErr C = 0) : noFin (caseD C) := by
  by_cases he : caseErr C = 0
  · rw [caseD_ok he]
    refine noFin_of fun m hm => ?_
    obtain ⟨i, hi, rfl⟩ := List.getElem_of_mem hm
    rcases h i hi with h | h
    · exact h
    · exact absurd he h
  · rw [caseD_bad he]; exact fun x => rfl

set_option maxRecDepth 100000 in
set_option maxHeartbeats 25600000 in
theorem CasemapJoins_any (v0 v1 v2 v3 v4 v5 : Value) (C : Cse) (A : Option Addr) (n a : Nat) (t : List Int) (B : Option Addr) (m b : Nat) (s : List Int) (w : World) (h : CaseAt w v0 v1 v2 v3 v4 v5 C) (hl : CaseLn C) (hA : Ints w A t) (hn : t.length = n) (hna : n ≤ a) (haz : a ≤ 9223372036854775807) (hok : ∀ x ∈ t, iok x) (hB : Ints w B s) (hm : s.length = m) (hmb : m ≤ b) (hbz : b ≤ 9223372036854775807) (hos : ∀ x ∈ s, iok x) :
    Calls Try.prog 6 #[.agg #[v0, v1, v2, v3, v4, v5], .slice A n a, .slice B m b] w (RetTrue w) := by
  subst hn
  subst hm
  obtain ⟨A0, n0, c0, rfl⟩ := h.lower.sl
  obtain ⟨A1, n1, c1, rfl⟩ := h.upper.sl
  obtain ⟨A2, n2, c2, rfl⟩ := h.title.sl
  obtain ⟨A3, n3, c3, rfl⟩ := h.fold.sl
  obtain ⟨A4, n4, c4, rfl⟩ := h.cased.sl
  obtain ⟨A5, n5, c5, rfl⟩ := h.ign.sl
  have B0 : Below w.heap.size w (w.alloc (.cells #[.slice A0 n0 c0, .slice A1 n1 c1, .slice A2 n2 c2, .slice A3 n3 c3, .slice A4 n4 c4, .slice A5 n5 c5] 27)) := (Below.refl _ _).alloc (Nat.le_refl _) _
  have X0 : Box (w.alloc (.cells #[.slice A0 n0 c0, .slice A1 n1 c1, .slice A2 n2 c2, .slice A3 n3 c3, .slice A4 n4 c4, .slice A5 n5 c5] 27)) w.heap.size 27 [.slice A0 n0 c0, .slice A1 n1 c1, .slice A2 n2 c2, .slice A3 n3 c3, .slice A4 n4 c4, .slice A5 n5 c5] := Box.new w 27 [.slice A0 n0 c0, .slice A1 n1 c1, .slice A2 n2 c2, .slice A3 n3 c3, .slice A4 n4 c4, .slice A5 n5 c5] rfl
  have W0E : ∃ W0, (w.alloc (.cells #[.slice A0 n0 c0, .slice A1 n1 c1, .slice A2 n2 c2, .slice A3 n3 c3, .slice A4 n4 c4, .slice A5 n5 c5] 27)) = W0 := ⟨_, rfl⟩
  have CA := Lib.hid (fun W (hb : Below w.heap.size w W) => h.below hb)
  have HL := Lib.hid hl
  have HA := Lib.hid (fun W (hb' : Below w.heap.size w W) => hA.below hb')
  have HOK := Lib.hid hok
  have SZ := Lib.hid (fewT_sz (C := C) (t := t))
  have HB := Lib.hid (fun W (hb' : Below w.heap.size w W) => hB.below hb')
  have HOS := Lib.hid hos
  have SZ2 := Lib.hid (fewT_sz (C := C) (t := s))
  have HOKB := Lib.hid (show ∀ x ∈ t ++ s, iok x from fun x hx => by
    rcases List.mem_append.1 hx with h | h
    · exact hok x h
    · exact hos x h)
  clear h hl hA hok hB hos
  have e0 := X0.cell (i := 0) rfl
  have e1 := X0.cell (i := 1) rfl
  have e2 := X0.cell (i := 2) rfl
  have e3 := X0.cell (i := 3) rfl
  have e4 := X0.cell (i := 4) rfl
  have e5 := X0.cell (i := 5) rfl
  go_enter Try.func6, Try.ntmps6
  go_wp2_with fail
  clear e0 e1 e2 e3 e4 e5
  obtain ⟨W0, hW0⟩ := W0E
  rw [hW0] at B0 X0 ⊢
  clear hW0
  have KM0 := Lib.hid (fun W (hb' : Below W0.heap.size W0 W) => few_any _ _ _ _ _ _ C A t.length a t W (CA.out W (B0.trans (hb'.mono B0.size))) HL.out rfl (by omega))
  have KM1 := Lib.hid (fun W (hb' : Below W0.heap.size W0 W) => few_any _ _ _ _ _ _ C B s.length b s W (CA.out W (B0.trans (hb'.mono B0.size))) HL.out rfl (by omega))
  have HX := Lib.hid X0
  clear X0
  with_reducible refine (KM0.out W0 (Below.refl _ _)).mono ?_
  rintro e W1 ⟨rfl, hb1⟩
  have hw1 := B0.trans (hb1.mono B0.size)
  cases hs : fewT C t with
  | false =>
    go_wp2_with fail
    with_reducible refine (alive_any W1).mono ?_
    rintro e Wz ⟨rfl, hbz9⟩
    have hb9 := hw1.trans (hbz9.mono hw1.size)
    go_wp2_with fail
    go_ret
    exact ⟨rfl, hb9⟩
  | true =>
    obtain ⟨hz, ht⟩ := SZ.out hs
    have X1 := HX.out.below hb1 HX.out.lt
    have f0 := X1.cell (i := 0) rfl
    have f1 := X1.cell (i := 1) rfl
    have f2 := X1.cell (i := 2) rfl
    have f3 := X1.cell (i := 3) rfl
    have f4 := X1.cell (i := 4) rfl
    have f5 := X1.cell (i := 5) rfl
    have hl1 := X1.lt
    clear X1
    go_wp2_with fail
    clear f0 f1 f2 f3 f4 f5
    with_reducible refine (KM1.out W1 hb1).mono ?_
    rintro e W2 ⟨rfl, hb2⟩
    have hb3 := hb1.trans (hb2.mono hb1.size)
    have hw2 := B0.trans (hb3.mono B0.size)
    clear KM0 KM1
    cases hs2 : fewT C s with
    | false =>
      go_wp2_with fail
      with_reducible refine (alive_any W2).mono ?_
      rintro e Wz ⟨rfl, hbz9⟩
      have hb9 := hw2.trans (hbz9.mono hw2.size)
      go_wp2_with fail
      go_ret
      exact ⟨rfl, hb9⟩
    | true =>
      obtain ⟨_, hts⟩ := SZ2.out hs2
      have hEt := (HA.out W2 hw2).below ((Below.refl _ _).alloc (Nat.le_refl _) (.cells #[] 3))
      have hEs := (HB.out W2 hw2).below ((Below.refl _ _).alloc (Nat.le_refl _) (.cells #[] 3))
      go_wp2_with (first | (at_builtin; refine wpList_app _ _ 32 3 (.int .i64 0) 1 8 rfl rfl Try.underlying32 info_int rfl (by decide) (by decide) rfl (own_new [] 3 1 0 W2.heap.size rfl rfl (Nat.le_refl _) (by omega)) rfl hEt (by simp) (oneCell_ints _) (by omega) (by simp) ?_; intro Ar cr w1 hown1 hc1 hb4 _ _; simp only [Nat.zero_add, List.nil_append] at hown1 hc1 ⊢; have hb5 : Below W2.heap.size W2 w1 := Below.trans ((Below.refl _ _).alloc (Nat.le_refl _) _) hb4; have hEs2 := (HB.out W2 hw2).below hb5; have hsz := hb5.size; clear hb4) | (at_builtin; refine wpList_app _ _ 32 3 (.int .i64 0) 1 8 rfl rfl Try.underlying32 info_int rfl (by decide) (by decide) rfl hown1 rfl hEs2 (by simp) (oneCell_ints _) (by omega) hsz ?_; intro AB cB Ws hownB hcB' hb6 _ _))
      have hb7 := hb5.trans hb6
      have hcB := own_cap hownB
      have HIB := Lib.hid (show Ints Ws AB (t ++ s) by unfold Ints; rw [List.map_append]; exact Sl.of_own hownB)
      have hb8 := hb3.trans (hb7.mono hb3.size)
      have hwS := B0.trans (hb8.mono B0.size)
      have XS := Lib.hid (HX.out.below hb8 HX.out.lt)
      clear hown1 hEs hEs2 hEt hownB hb6 hb5 hb7 hsz
      have SB := Lib.hid (fun W' (hb' : Below Ws.heap.size Ws W') => show W'.cell? ⟨w.heap.size, 0, none⟩ = some (.slice A0 n0 c0) ∧ W'.cell? ⟨w.heap.size, 1, none⟩ = some (.slice A1 n1 c1) ∧ W'.cell? ⟨w.heap.size, 2, none⟩ = some (.slice A2 n2 c2) ∧ W'.cell? ⟨w.heap.size, 3, none⟩ = some (.slice A3 n3 c3) ∧ W'.cell? ⟨w.heap.size, 4, none⟩ = some (.slice A4 n4 c4) ∧ W'.cell? ⟨w.heap.size, 5, none⟩ = some (.slice A5 n5 c5) ∧ Below Ws.heap.size Ws W' from ⟨(XS.out.below hb' XS.out.lt).cell (i := 0) rfl, (XS.out.below hb' XS.out.lt).cell (i := 1) rfl, (XS.out.below hb' XS.out.lt).cell (i := 2) rfl, (XS.out.below hb' XS.out.lt).cell (i := 3) rfl, (XS.out.below hb' XS.out.lt).cell (i := 4) rfl, (XS.out.below hb' XS.out.lt).cell (i := 5) rfl, hb'⟩)
      have K1 := Lib.hid (fun W (hb' : Below Ws.heap.size Ws W) => (Upper_any _ _ _ _ _ _ C AB (t.length + s.length) cB (t ++ s) W (CA.out W (hwS.trans (hb'.mono hwS.size))) hz (HIB.out.below hb') (by rw [List.length_append]) (by omega) (by omega) hcB HOKB.out).mono (R' := fun e W' => ∃ v, e = .returned v ∧ (W'.cell? ⟨w.heap.size, 0, none⟩ = some (.slice A0 n0 c0) ∧ W'.cell? ⟨w.heap.size, 1, none⟩ = some (.slice A1 n1 c1) ∧ W'.cell? ⟨w.heap.size, 2, none⟩ = some (.slice A2 n2 c2) ∧ W'.cell? ⟨w.heap.size, 3, none⟩ = some (.slice A3 n3 c3) ∧ W'.cell? ⟨w.heap.size, 4, none⟩ = some (.slice A4 n4 c4) ∧ W'.cell? ⟨w.heap.size, 5, none⟩ = some (.slice A5 n5 c5) ∧ Below Ws.heap.size Ws W') ∧ (∃ E d, v = .slice E (upL (caseD C) (t ++ s)).length d ∧ (upL (caseD C) (t ++ s)).length ≤ d ∧ Ints W' E (upL (caseD C) (t ++ s)) ∧ Below W.heap.size W W')) (fun e W' ⟨E, d, he, g1, g2, g3⟩ => ⟨_, he, SB.out W' (hb'.trans (g3.mono hb'.size)), E, d, rfl, g1, g2, g3⟩))
      have K2 := Lib.hid (fun W (hb' : Below Ws.heap.size Ws W) => (Upper_any _ _ _ _ _ _ C A t.length a t W (CA.out W (hwS.trans (hb'.mono hwS.size))) hz (HA.out W (hwS.trans (hb'.mono hwS.size))) rfl (by omega) hna haz HOK.out).mono (R' := fun e W' => ∃ v, e = .returned v ∧ (W'.cell? ⟨w.heap.size, 0, none⟩ = some (.slice A0 n0 c0) ∧ W'.cell? ⟨w.heap.size, 1, none⟩ = some (.slice A1 n1 c1) ∧ W'.cell? ⟨w.heap.size, 2, none⟩ = some (.slice A2 n2 c2) ∧ W'.cell? ⟨w.heap.size, 3, none⟩ = some (.slice A3 n3 c3) ∧ W'.cell? ⟨w.heap.size, 4, none⟩ = some (.slice A4 n4 c4) ∧ W'.cell? ⟨w.heap.size, 5, none⟩ = some (.slice A5 n5 c5) ∧ Below Ws.heap.size Ws W') ∧ (∃ E d, v = .slice E (upL (caseD C) t).length d ∧ (upL (caseD C) t).length ≤ d ∧ Ints W' E (upL (caseD C) t) ∧ Below W.heap.size W W')) (fun e W' ⟨E, d, he, g1, g2, g3⟩ => ⟨_, he, SB.out W' (hb'.trans (g3.mono hb'.size)), E, d, rfl, g1, g2, g3⟩))
      have K3 := Lib.hid (fun W (hb' : Below Ws.heap.size Ws W) => (Upper_any _ _ _ _ _ _ C B s.length b s W (CA.out W (hwS.trans (hb'.mono hwS.size))) hz (HB.out W (hwS.trans (hb'.mono hwS.size))) rfl (by omega) hmb hbz HOS.out).mono (R' := fun e W' => ∃ v, e = .returned v ∧ (W'.cell? ⟨w.heap.size, 0, none⟩ = some (.slice A0 n0 c0) ∧ W'.cell? ⟨w.heap.size, 1, none⟩ = some (.slice A1 n1 c1) ∧ W'.cell? ⟨w.heap.size, 2, none⟩ = some (.slice A2 n2 c2) ∧ W'.cell? ⟨w.heap.size, 3, none⟩ = some (.slice A3 n3 c3) ∧ W'.cell? ⟨w.heap.size, 4, none⟩ = some (.slice A4 n4 c4) ∧ W'.cell? ⟨w.heap.size, 5, none⟩ = some (.slice A5 n5 c5) ∧ Below Ws.heap.size Ws W') ∧ (∃ E d, v = .slice E (upL (caseD C) s).length d ∧ (upL (caseD C) s).length ≤ d ∧ Ints W' E (upL (caseD C) s) ∧ Below W.heap.size W W')) (fun e W' ⟨E, d, he, g1, g2, g3⟩ => ⟨_, he, SB.out W' (hb'.trans (g3.mono hb'.size)), E, d, rfl, g1, g2, g3⟩))
      have ll1 := upL_len (caseD_isok C) (t ++ s)
      have ll2 := upL_len (caseD_isok C) t
      have ll3 := upL_len (caseD_isok C) s
      have LE := Lib.hid (upL_app (caseD C) t s)
      generalize upL (caseD C) (t ++ s) = L1 at *
      generalize upL (caseD C) t = L2 at *
      generalize upL (caseD C) s = L3 at *
      have KQ := Lib.hid (fun W E1 E2 d1 d2 (hb' : Below Ws.heap.size Ws W) (h1 : Ints W E1 L1) (h2 : Ints W E2 (L2 ++ L3)) => (Equal_same E1 E2 (L2 ++ L3).length d1 d2 (L2 ++ L3) W (by rw [← LE.out]; exact h1) h2 rfl (by rw [List.length_append]; omega)).mono (R' := fun e W' => e = .returned (.bool true) ∧ (W'.cell? ⟨w.heap.size, 0, none⟩ = some (.slice A0 n0 c0) ∧ W'.cell? ⟨w.heap.size, 1, none⟩ = some (.slice A1 n1 c1) ∧ W'.cell? ⟨w.heap.size, 2, none⟩ = some (.slice A2 n2 c2) ∧ W'.cell? ⟨w.heap.size, 3, none⟩ = some (.slice A3 n3 c3) ∧ W'.cell? ⟨w.heap.size, 4, none⟩ = some (.slice A4 n4 c4) ∧ W'.cell? ⟨w.heap.size, 5, none⟩ = some (.slice A5 n5 c5) ∧ Below Ws.heap.size Ws W')) (fun e W' hh => ⟨hh.1, SB.out W' (hb'.trans (hh.2.below.mono hb'.size))⟩))
      rw [show L1.length = (L2 ++ L3).length from by rw [LE.out]] at K1
      go_upto_region 4 with fail
      go_cut [38] (fun s38 wx => s38 = .bool false ∧ Below Ws.heap.size Ws wx)
      case first =>
        refine wp_region_held_drew (S := fun W' => W'.cell? ⟨w.heap.size, 0, none⟩ = some (.slice A0 n0 c0) ∧ W'.cell? ⟨w.heap.size, 1, none⟩ = some (.slice A1 n1 c1) ∧ W'.cell? ⟨w.heap.size, 2, none⟩ = some (.slice A2 n2 c2) ∧ W'.cell? ⟨w.heap.size, 3, none⟩ = some (.slice A3 n3 c3) ∧ W'.cell? ⟨w.heap.size, 4, none⟩ = some (.slice A4 n4 c4) ∧ W'.cell? ⟨w.heap.size, 5, none⟩ = some (.slice A5 n5 c5) ∧ Below Ws.heap.size Ws W') (by kernel_rfl) (SB.out _ ((Below.refl _ _).drew)) (fun hHeld => ?_)
        obtain ⟨Wd, hWd⟩ : ∃ Wd, Ws.drew = Wd := ⟨_, rfl⟩
        rw [hWd] at hHeld ⊢
        clear hWd
        refine anyH_take (i := 0) (v := ?_) (some 25) rfl rfl (by kernel_rfl) (by kernel_rfl) (by kernel_rfl) (fun _ _ _ h => h) (by rfl) (by assumption) ?_ ?_
        rotate_left
        · intro w hSw; (try dsimp only at hSw); go_split_ands; go_simp; try (with_reducible rfl)
        try simp only [Act.put, List.setIfInBounds_toArray, List.set_cons_zero, List.set_cons_succ]
        refine anyH_take (i := 1) (v := ?_) (some 26) rfl rfl (by kernel_rfl) (by kernel_rfl) (by kernel_rfl) (fun _ _ _ h => h) (by rfl) (by assumption) ?_ ?_
        rotate_left
        · intro w hSw; (try dsimp only at hSw); go_split_ands; go_simp; try (with_reducible rfl)
        try simp only [Act.put, List.setIfInBounds_toArray, List.set_cons_zero, List.set_cons_succ]
        refine anyH_take (i := 4) (v := ?_) (some 29) rfl rfl (by kernel_rfl) (by kernel_rfl) (by kernel_rfl) (fun _ _ _ h => h) (by rfl) (by assumption) ?_ ?_
        rotate_left
        · intro w hSw; (try dsimp only at hSw); go_split_ands; go_simp; try (with_reducible rfl)
        try simp only [Act.put, List.setIfInBounds_toArray, List.set_cons_zero, List.set_cons_succ]
        refine anyH_take (i := 5) (v := ?_) (some 30) rfl rfl (by kernel_rfl) (by kernel_rfl) (by kernel_rfl) (fun _ _ _ h => h) (by rfl) (by assumption) ?_ ?_
        rotate_left
        · intro w hSw; (try dsimp only at hSw); go_split_ands; go_simp; try (with_reducible rfl)
        try simp only [Act.put, List.setIfInBounds_toArray, List.set_cons_zero, List.set_cons_succ]
        refine anyH_take (i := 8) (v := ?_) (some 33) rfl rfl (by kernel_rfl) (by kernel_rfl) (by kernel_rfl) (fun _ _ _ h => h) (by rfl) (by assumption) ?_ ?_
        rotate_left
        · intro w hSw; (try dsimp only at hSw); go_split_ands; go_simp; try (with_reducible rfl)
        try simp only [Act.put, List.setIfInBounds_toArray, List.set_cons_zero, List.set_cons_succ]
        refine anyH_take (i := 9) (v := ?_) (some 34) rfl rfl (by kernel_rfl) (by kernel_rfl) (by kernel_rfl) (fun _ _ _ h => h) (by rfl) (by assumption) ?_ ?_
        rotate_left
        · intro w hSw; (try dsimp only at hSw); go_split_ands; go_simp; try (with_reducible rfl)
        try simp only [Act.put, List.setIfInBounds_toArray, List.set_cons_zero, List.set_cons_succ]
        refine wpAnyH_ready (rs := [2, 3]) (by kernel_rfl) (by simp) ?_
        refine AllReadyH.cons rfl (fun K hK => ?_) (AllReadyH.cons rfl (fun K hK => ?_) (AllReadyH.nil))
        · refine step_call2 (some 27) rfl hK (by rfl) (by go_simp) (K1.out _ hHeld.2.2.2.2.2.2) ?_
          rintro _ X1 hS6 ⟨E1, d1, rfl, hl1, hI1, hb1⟩
          clear hK K
          clear hHeld
          have hHeld := hS6
          clear hS6
          try simp only [Act.put, List.setIfInBounds_toArray, List.set_cons_zero, List.set_cons_succ]
          refine wpAnyH_ready (rs := [3, 6]) (by kernel_rfl) (by simp) ?_
          refine AllReadyH.cons rfl (fun K hK => ?_) (AllReadyH.cons rfl (fun K hK => ?_) (AllReadyH.nil))
          · have Bn : Below X1.heap.size X1 (X1.alloc (.cells #[] 3)) := (Below.refl _ _).alloc (Nat.le_refl _) _
            have BP : Box (X1.alloc (.cells #[] 3)) X1.heap.size 3 [] := Box.new X1 3 [] rfl
            have Sn := SB.out _ (hHeld.2.2.2.2.2.2.trans (Bn.mono hHeld.2.2.2.2.2.2.size))
            have hps : Ws.heap.size ≤ X1.heap.size := hHeld.2.2.2.2.2.2.size
            refine step_val2 (w' := (X1.alloc (.cells #[] 3))) (v := .slice (some ⟨X1.heap.size, 0, none⟩) 0 0) (some 28) rfl hK (by rfl) (by go_simp) Sn (fun _ => ?_)
            clear hK K
            clear hHeld
            have hHeld := Sn
            clear Sn
            have hI1 := hI1.below Bn
            generalize (X1.alloc (.cells #[] 3)) = XB at *
            clear Bn
            generalize X1.heap.size = p at *
            try simp only [Act.put, List.setIfInBounds_toArray, List.set_cons_zero, List.set_cons_succ]
            refine anyH_callE (i := 6) (some 31) rfl rfl (by kernel_rfl) (by rfl) (by go_simp) (K2.out _ hHeld.2.2.2.2.2.2) ?_
            rintro _ X2 hS6 ⟨E2, d2, rfl, hl2, hI2, hb2⟩
            clear hHeld
            have hHeld := hS6
            clear hS6
            have hI1 := hI1.below hb2
            have BP := BP.below hb2 BP.lt
            try simp only [Act.put, List.setIfInBounds_toArray, List.set_cons_zero, List.set_cons_succ]
            have hown0 : X2.ownsRow Ws.heap.size 3 1 (.slice (some ⟨p, 0, none⟩) 0 0) 0 [] := ⟨rfl, .inr ⟨p, 0, #[], rfl, hps, BP, Nat.le_refl _, by unfold maxLen; omega, rfl, rfl⟩⟩
            have hsW : Ws.heap.size ≤ X2.heap.size := hHeld.2.2.2.2.2.2.size
            have NE0 := hI1.off BP
            have bW := hHeld.2.2.2.2.2.2
            refine anyH_app (i := 7) (some 32) rfl rfl (by kernel_rfl) (by rfl) _ _ 32 3 (.int .i64 0) 1 8 rfl Try.underlying32 info_int rfl (by decide) (by decide) rfl hown0 rfl hI2 (by simp) (oneCell_ints _) (by omega) hsW ?_
            intro AR cR w1 hown1 hc1 hb1a hg1 hB1
            simp only [Nat.zero_add, List.nil_append] at hown1 hc1
            have NE1 : ∀ b o, E1 = some ⟨b, o, none⟩ → L1 ≠ [] → some b ≠ (Value.slice AR L2.length cR).ownBlock := fun b o hE hne => by
              subst hE
              rcases hB1 with rfl | rfl
              · simp only [Value.ownBlock]
                exact fun e => NE0 b o rfl hne (by simpa using e)
              · have := hI1.lt hne
                simp only [Value.ownBlock]
                exact fun e => absurd e (by simp; omega)
            have hI1 := hI1.grown hg1 (fun b o hE hne => by
              simp only [Value.ownBlock]
              exact fun e => NE0 b o hE hne (by simpa using e))
            have b1 := bW.trans hb1a
            have S1 := SB.out w1 b1
            refine ⟨S1, ?_⟩
            clear hHeld
            have hHeld := S1
            clear S1 hown0 NE0 bW hb1a hg1 hB1 BP
            try simp only [Nat.zero_add]
            try simp only [Act.put, List.setIfInBounds_toArray, List.set_cons_zero, List.set_cons_succ]
            refine anyH_callE (i := 10) (some 35) rfl rfl (by kernel_rfl) (by rfl) (by go_simp) (K3.out _ hHeld.2.2.2.2.2.2) ?_
            rintro _ X3 hS6 ⟨E3, d3, rfl, hl3, hI3, hb3⟩
            clear hHeld
            have hHeld := hS6
            clear hS6
            have hI1 := hI1.below hb3
            have hown1 := own_keep hown1 hb3
            have hsW : Ws.heap.size ≤ X3.heap.size := hHeld.2.2.2.2.2.2.size
            have bW := hHeld.2.2.2.2.2.2
            try simp only [Act.put, List.setIfInBounds_toArray, List.set_cons_zero, List.set_cons_succ]
            refine anyH_app (i := 11) (some 36) rfl rfl (by kernel_rfl) (by rfl) _ _ 32 3 (.int .i64 0) 1 8 rfl Try.underlying32 info_int rfl (by decide) (by decide) rfl hown1 rfl hI3 (by simp) (oneCell_ints _) (by omega) hsW ?_
            intro AT cT w2 hown2 hc2 hb2a hg2 hB2
            have hI1 := hI1.grown hg2 NE1
            have b2 := bW.trans hb2a
            have S2 := SB.out w2 b2
            have hIR : Ints w2 AT (L2 ++ L3) := by
              unfold Ints
              rw [List.map_append]
              exact Sl.of_own hown2
            refine ⟨S2, ?_⟩
            clear hHeld
            have hHeld := S2
            clear S2 bW hb2a hg2 hB2 hown1
            try simp only [Act.put, List.setIfInBounds_toArray, List.set_cons_zero, List.set_cons_succ]
            rw [show L2.length + L3.length = (L2 ++ L3).length from List.length_append.symm]
            refine anyH_call (i := 12) (some 37) rfl rfl (by kernel_rfl) (by rfl) (by go_simp) (KQ.out _ E1 AT d1 cT hHeld.2.2.2.2.2.2 hI1 hIR) (fun X4 hS6 => ?_)
            clear hHeld
            have hHeld := hS6
            clear hS6
            try simp only [Act.put, List.setIfInBounds_toArray, List.set_cons_zero, List.set_cons_succ]
            refine anyH_take (i := 13) (v := ?_) (some 38) rfl rfl (by kernel_rfl) (by kernel_rfl) (by kernel_rfl) (fun _ _ _ h => h) (by rfl) (by assumption) ?_ ?_
            rotate_left
            · intro w hSw; (try dsimp only at hSw); go_split_ands; go_simp; try (with_reducible rfl)
            try simp only [Act.put, List.setIfInBounds_toArray, List.set_cons_zero, List.set_cons_succ]
            refine wpAnyH_done (by kernel_rfl) ?_ _
            have HBX := Lib.hid (hHeld.2.2.2.2.2.2)
            clear hHeld
            go_wp2_with fail
            go_meet
            exact ⟨rfl, HBX.out⟩
          · refine step_call2 (some 31) rfl hK (by rfl) (by go_simp) (K2.out _ hHeld.2.2.2.2.2.2) ?_
            rintro _ X2 hS6 ⟨E2, d2, rfl, hl2, hI2, hb2⟩
            clear hK K
            clear hHeld
            have hHeld := hS6
            clear hS6
            have hI1 := hI1.below hb2
            try simp only [Act.put, List.setIfInBounds_toArray, List.set_cons_zero, List.set_cons_succ]
            have Bn : Below X2.heap.size X2 (X2.alloc (.cells #[] 3)) := (Below.refl _ _).alloc (Nat.le_refl _) _
            have BP : Box (X2.alloc (.cells #[] 3)) X2.heap.size 3 [] := Box.new X2 3 [] rfl
            have Sn := SB.out _ (hHeld.2.2.2.2.2.2.trans (Bn.mono hHeld.2.2.2.2.2.2.size))
            have hps : Ws.heap.size ≤ X2.heap.size := hHeld.2.2.2.2.2.2.size
            refine anyH_val (w' := (X2.alloc (.cells #[] 3))) (v := .slice (some ⟨X2.heap.size, 0, none⟩) 0 0) (i := 3) (some 28) rfl rfl (by kernel_rfl) (by rfl) (by go_simp) Sn ?_
            clear hHeld
            have hHeld := Sn
            clear Sn
            have hI1 := hI1.below Bn
            have hI2 := hI2.below Bn
            generalize (X2.alloc (.cells #[] 3)) = XB at *
            clear Bn
            generalize X2.heap.size = p at *
            try simp only [Act.put, List.setIfInBounds_toArray, List.set_cons_zero, List.set_cons_succ]
            have hown0 : XB.ownsRow Ws.heap.size 3 1 (.slice (some ⟨p, 0, none⟩) 0 0) 0 [] := ⟨rfl, .inr ⟨p, 0, #[], rfl, hps, BP, Nat.le_refl _, by unfold maxLen; omega, rfl, rfl⟩⟩
            have hsW : Ws.heap.size ≤ XB.heap.size := hHeld.2.2.2.2.2.2.size
            have NE0 := hI1.off BP
            have bW := hHeld.2.2.2.2.2.2
            refine anyH_app (i := 7) (some 32) rfl rfl (by kernel_rfl) (by rfl) _ _ 32 3 (.int .i64 0) 1 8 rfl Try.underlying32 info_int rfl (by decide) (by decide) rfl hown0 rfl hI2 (by simp) (oneCell_ints _) (by omega) hsW ?_
            intro AR cR w1 hown1 hc1 hb1a hg1 hB1
            simp only [Nat.zero_add, List.nil_append] at hown1 hc1
            have NE1 : ∀ b o, E1 = some ⟨b, o, none⟩ → L1 ≠ [] → some b ≠ (Value.slice AR L2.length cR).ownBlock := fun b o hE hne => by
              subst hE
              rcases hB1 with rfl | rfl
              · simp only [Value.ownBlock]
                exact fun e => NE0 b o rfl hne (by simpa using e)
              · have := hI1.lt hne
                simp only [Value.ownBlock]
                exact fun e => absurd e (by simp; omega)
            have hI1 := hI1.grown hg1 (fun b o hE hne => by
              simp only [Value.ownBlock]
              exact fun e => NE0 b o hE hne (by simpa using e))
            have b1 := bW.trans hb1a
            have S1 := SB.out w1 b1
            refine ⟨S1, ?_⟩
            clear hHeld
            have hHeld := S1
            clear S1 hown0 NE0 bW hb1a hg1 hB1 BP
            try simp only [Nat.zero_add]
            try simp only [Act.put, List.setIfInBounds_toArray, List.set_cons_zero, List.set_cons_succ]
            refine anyH_callE (i := 10) (some 35) rfl rfl (by kernel_rfl) (by rfl) (by go_simp) (K3.out _ hHeld.2.2.2.2.2.2) ?_
            rintro _ X3 hS6 ⟨E3, d3, rfl, hl3, hI3, hb3⟩
            clear hHeld
            have hHeld := hS6
            clear hS6
            have hI1 := hI1.below hb3
            have hown1 := own_keep hown1 hb3
            have hsW : Ws.heap.size ≤ X3.heap.size := hHeld.2.2.2.2.2.2.size
            have bW := hHeld.2.2.2.2.2.2
            try simp only [Act.put, List.setIfInBounds_toArray, List.set_cons_zero, List.set_cons_succ]
            refine anyH_app (i := 11) (some 36) rfl rfl (by kernel_rfl) (by rfl) _ _ 32 3 (.int .i64 0) 1 8 rfl Try.underlying32 info_int rfl (by decide) (by decide) rfl hown1 rfl hI3 (by simp) (oneCell_ints _) (by omega) hsW ?_
            intro AT cT w2 hown2 hc2 hb2a hg2 hB2
            have hI1 := hI1.grown hg2 NE1
            have b2 := bW.trans hb2a
            have S2 := SB.out w2 b2
            have hIR : Ints w2 AT (L2 ++ L3) := by
              unfold Ints
              rw [List.map_append]
              exact Sl.of_own hown2
            refine ⟨S2, ?_⟩
            clear hHeld
            have hHeld := S2
            clear S2 bW hb2a hg2 hB2 hown1
            try simp only [Act.put, List.setIfInBounds_toArray, List.set_cons_zero, List.set_cons_succ]
            rw [show L2.length + L3.length = (L2 ++ L3).length from List.length_append.symm]
            refine anyH_call (i := 12) (some 37) rfl rfl (by kernel_rfl) (by rfl) (by go_simp) (KQ.out _ E1 AT d1 cT hHeld.2.2.2.2.2.2 hI1 hIR) (fun X4 hS6 => ?_)
            clear hHeld
            have hHeld := hS6
            clear hS6
            try simp only [Act.put, List.setIfInBounds_toArray, List.set_cons_zero, List.set_cons_succ]
            refine anyH_take (i := 13) (v := ?_) (some 38) rfl rfl (by kernel_rfl) (by kernel_rfl) (by kernel_rfl) (fun _ _ _ h => h) (by rfl) (by assumption) ?_ ?_
            rotate_left
            · intro w hSw; (try dsimp only at hSw); go_split_ands; go_simp; try (with_reducible rfl)
            try simp only [Act.put, List.setIfInBounds_toArray, List.set_cons_zero, List.set_cons_succ]
            refine wpAnyH_done (by kernel_rfl) ?_ _
            have HBX := Lib.hid (hHeld.2.2.2.2.2.2)
            clear hHeld
            go_wp2_with fail
            go_meet
            exact ⟨rfl, HBX.out⟩
        · have Bn : Below Wd.heap.size Wd (Wd.alloc (.cells #[] 3)) := (Below.refl _ _).alloc (Nat.le_refl _) _
          have BP : Box (Wd.alloc (.cells #[] 3)) Wd.heap.size 3 [] := Box.new Wd 3 [] rfl
          have Sn := SB.out _ (hHeld.2.2.2.2.2.2.trans (Bn.mono hHeld.2.2.2.2.2.2.size))
          have hps : Ws.heap.size ≤ Wd.heap.size := hHeld.2.2.2.2.2.2.size
          refine step_val2 (w' := (Wd.alloc (.cells #[] 3))) (v := .slice (some ⟨Wd.heap.size, 0, none⟩) 0 0) (some 28) rfl hK (by rfl) (by go_simp) Sn (fun _ => ?_)
          clear hK K
          clear hHeld
          have hHeld := Sn
          clear Sn
          generalize (Wd.alloc (.cells #[] 3)) = XB at *
          clear Bn
          generalize Wd.heap.size = p at *
          try simp only [Act.put, List.setIfInBounds_toArray, List.set_cons_zero, List.set_cons_succ]
          refine anyH_callE (i := 2) (some 27) rfl rfl (by kernel_rfl) (by rfl) (by go_simp) (K1.out _ hHeld.2.2.2.2.2.2) ?_
          rintro _ X1 hS6 ⟨E1, d1, rfl, hl1, hI1, hb1⟩
          clear hHeld
          have hHeld := hS6
          clear hS6
          have BP := BP.below hb1 BP.lt
          try simp only [Act.put, List.setIfInBounds_toArray, List.set_cons_zero, List.set_cons_succ]
          refine anyH_callE (i := 6) (some 31) rfl rfl (by kernel_rfl) (by rfl) (by go_simp) (K2.out _ hHeld.2.2.2.2.2.2) ?_
          rintro _ X2 hS6 ⟨E2, d2, rfl, hl2, hI2, hb2⟩
          clear hHeld
          have hHeld := hS6
          clear hS6
          have BP := BP.below hb2 BP.lt
          have hI1 := hI1.below hb2
          try simp only [Act.put, List.setIfInBounds_toArray, List.set_cons_zero, List.set_cons_succ]
          have hown0 : X2.ownsRow Ws.heap.size 3 1 (.slice (some ⟨p, 0, none⟩) 0 0) 0 [] := ⟨rfl, .inr ⟨p, 0, #[], rfl, hps, BP, Nat.le_refl _, by unfold maxLen; omega, rfl, rfl⟩⟩
          have hsW : Ws.heap.size ≤ X2.heap.size := hHeld.2.2.2.2.2.2.size
          have NE0 := hI1.off BP
          have bW := hHeld.2.2.2.2.2.2
          refine anyH_app (i := 7) (some 32) rfl rfl (by kernel_rfl) (by rfl) _ _ 32 3 (.int .i64 0) 1 8 rfl Try.underlying32 info_int rfl (by decide) (by decide) rfl hown0 rfl hI2 (by simp) (oneCell_ints _) (by omega) hsW ?_
          intro AR cR w1 hown1 hc1 hb1a hg1 hB1
          simp only [Nat.zero_add, List.nil_append] at hown1 hc1
          have NE1 : ∀ b o, E1 = some ⟨b, o, none⟩ → L1 ≠ [] → some b ≠ (Value.slice AR L2.length cR).ownBlock := fun b o hE hne => by
            subst hE
            rcases hB1 with rfl | rfl
            · simp only [Value.ownBlock]
              exact fun e => NE0 b o rfl hne (by simpa using e)
            · have := hI1.lt hne
              simp only [Value.ownBlock]
              exact fun e => absurd e (by simp; omega)
          have hI1 := hI1.grown hg1 (fun b o hE hne => by
            simp only [Value.ownBlock]
            exact fun e => NE0 b o hE hne (by simpa using e))
          have b1 := bW.trans hb1a
          have S1 := SB.out w1 b1
          refine ⟨S1, ?_⟩
          clear hHeld
          have hHeld := S1
          clear S1 hown0 NE0 bW hb1a hg1 hB1 BP
          try simp only [Nat.zero_add]
          try simp only [Act.put, List.setIfInBounds_toArray, List.set_cons_zero, List.set_cons_succ]
          refine anyH_callE (i := 10) (some 35) rfl rfl (by kernel_rfl) (by rfl) (by go_simp) (K3.out _ hHeld.2.2.2.2.2.2) ?_
          rintro _ X3 hS6 ⟨E3, d3, rfl, hl3, hI3, hb3⟩
          clear hHeld
          have hHeld := hS6
          clear hS6
          have hI1 := hI1.below hb3
          have hown1 := own_keep hown1 hb3
          have hsW : Ws.heap.size ≤ X3.heap.size := hHeld.2.2.2.2.2.2.size
          have bW := hHeld.2.2.2.2.2.2
          try simp only [Act.put, List.setIfInBounds_toArray, List.set_cons_zero, List.set_cons_succ]
          refine anyH_app (i := 11) (some 36) rfl rfl (by kernel_rfl) (by rfl) _ _ 32 3 (.int .i64 0) 1 8 rfl Try.underlying32 info_int rfl (by decide) (by decide) rfl hown1 rfl hI3 (by simp) (oneCell_ints _) (by omega) hsW ?_
          intro AT cT w2 hown2 hc2 hb2a hg2 hB2
          have hI1 := hI1.grown hg2 NE1
          have b2 := bW.trans hb2a
          have S2 := SB.out w2 b2
          have hIR : Ints w2 AT (L2 ++ L3) := by
            unfold Ints
            rw [List.map_append]
            exact Sl.of_own hown2
          refine ⟨S2, ?_⟩
          clear hHeld
          have hHeld := S2
          clear S2 bW hb2a hg2 hB2 hown1
          try simp only [Act.put, List.setIfInBounds_toArray, List.set_cons_zero, List.set_cons_succ]
          rw [show L2.length + L3.length = (L2 ++ L3).length from List.length_append.symm]
          refine anyH_call (i := 12) (some 37) rfl rfl (by kernel_rfl) (by rfl) (by go_simp) (KQ.out _ E1 AT d1 cT hHeld.2.2.2.2.2.2 hI1 hIR) (fun X4 hS6 => ?_)
          clear hHeld
          have hHeld := hS6
          clear hS6
          try simp only [Act.put, List.setIfInBounds_toArray, List.set_cons_zero, List.set_cons_succ]
          refine anyH_take (i := 13) (v := ?_) (some 38) rfl rfl (by kernel_rfl) (by kernel_rfl) (by kernel_rfl) (fun _ _ _ h => h) (by rfl) (by assumption) ?_ ?_
          rotate_left
          · intro w hSw; (try dsimp only at hSw); go_split_ands; go_simp; try (with_reducible rfl)
          try simp only [Act.put, List.setIfInBounds_toArray, List.set_cons_zero, List.set_cons_succ]
          refine wpAnyH_done (by kernel_rfl) ?_ _
          have HBX := Lib.hid (hHeld.2.2.2.2.2.2)
          clear hHeld
          go_wp2_with fail
          go_meet
          exact ⟨rfl, HBX.out⟩
      case rest =>
        obtain ⟨rfl, hbc⟩ := hcut
        clear K1 K2 K3 KQ SB LE ll1 ll2 ll3 L1 L2 L3
        have hwc := hwS.trans (hbc.mono hwS.size)
        have XS := Lib.hid (XS.out.below hbc XS.out.lt)
        have HIB := Lib.hid (HIB.out.below hbc)
        have CK := Lib.hid (fun W (hb' : Below wc.heap.size wc W) => refCaseCheck_any _ _ _ _ _ _ C W (CA.out W (hwc.trans (hb'.mono hwc.size))) hz)
        have NF := Lib.hid (noFin_D (C := C))
        have HML := Lib.hid (fun W (hb' : Below wc.heap.size wc W) => (CA.out W (hwc.trans (hb'.mono hwc.size))).lower)
        have hlz := hz.lower.n
        have hvn : C.lower.length = n0 := by
          obtain ⟨_, _, hve, _, _⟩ := CA.out wc hwc |>.lower
          injection hve with _ hve _
          exact hve.symm
        have HN0 := Lib.hid hvn
        have hn0z : n0 ≤ 1048576 := by omega
        clear hvn
        generalize caseErr C = ce at *
        go_wp2_with fail
        go_loopw [8] (fun u wr => ∃ i : Nat, i ≤ n0 ∧ u = .int .i64 i ∧ (∀ j, (hj : j < C.lower.length) → j < i → C.lower[j].tag.size = 0 ∨ ¬ ce = 0) ∧ Below wc.heap.size wc wr) (fun u _ => n0 - (intOf u).toNat)
        case atStart => exact ⟨0, Nat.zero_le _, rfl, fun j _ h => by omega, Below.refl _ _⟩
        case round =>
          obtain ⟨i, hi, rfl, hno, hbr⟩ := hrel
          have HNO := Lib.hid hno
          clear hno
          have hwr := hwc.trans (hbr.mono hwc.size)
          have XR := XS.out.below hbr XS.out.lt
          have f0 := XR.cell (i := 0) rfl
          have hlr := XR.lt
          by_cases hlt0 : i < n0
          · have hlt : i < C.lower.length := by have := HN0.out; omega
            obtain ⟨AL, cl, hve, _, hMP⟩ := HML.out wr hbr
            injection hve with hv0 hv1 hv2
            clear hv1
            subst hv0
            subst hv2
            obtain ⟨b1, o1, rfl, hbl, hcell⟩ := hMP.at hlt
            obtain ⟨_, _, _, _, q2, _, _⟩ := hcell i hlt
            have HUP := Lib.hid (fun h => all_up (P := fun m : Mp => m.tag.size = 0 ∨ ¬ ce = 0) hlt HNO.out h)
            have ci0 : (0 : Int) ≤ i := by omega
            have ci1 : (i : Int) < n0 := by omega
            have KC := Lib.hid (CK.out wr hbr)
            clear hcell hMP
            generalize C.lower[i] = mi at *
            obtain ⟨mf, mt, mg⟩ := mi
            dsimp only at *
            by_cases hg : mg.size = 0
            · have g0 : mg.toList = [] := str_nil hg
              have HQ := Lib.hid (HUP.out (.inl hg))
              clear HUP XR KC
              go_wp2_with fail
              go_roundw
              case rel => exact ⟨i + 1, by omega, by go_num, HQ.out, hbr⟩
              case measure => simp [intOf]; omega
            · have g0 : ¬ mg.toList = [] := str_cons hg
              have g1 : mg.toList.isEmpty = false := by simpa using g0
              have f1 := XR.cell (i := 1) rfl
              have f2 := XR.cell (i := 2) rfl
              have f3 := XR.cell (i := 3) rfl
              have f4 := XR.cell (i := 4) rfl
              have f5 := XR.cell (i := 5) rfl
              clear XR
              go_wp2_with fail
              with_reducible refine KC.out.mono ?_
              rintro e Wt ⟨rfl, hbt⟩
              have hbt2 := hbr.trans (hbt.mono hbr.size)
              have hwt := hwc.trans (hbt2.mono hwc.size)
              clear KC f0 f1 f2 f3 f4 f5 q2
              by_cases hce : ce = 0
              · have qc : (ce == 0) = true := by simpa using hce
                clear HUP
                go_wp2_with fail
                with_reducible refine (alive_any Wt).mono ?_
                rintro e Wz ⟨rfl, hbz9⟩
                have hb9 := hwt.trans (hbz9.mono hwt.size)
                go_wp2_with fail
                go_ret
                exact ⟨rfl, hb9⟩
              · have qc : (ce == 0) = false := by simpa using hce
                have HQ := Lib.hid (HUP.out (.inr hce))
                clear HUP
                go_wp2_with fail
                go_roundw
                case rel => exact ⟨i + 1, by omega, by go_num, HQ.out, hbt2⟩
                case measure => simp [intOf]; omega
          · have NFD := Lib.hid (NF.out (fun j hj => by
              rcases HNO.out j hj (by have := HN0.out; omega) with h | h
              · exact .inl h
              · exact .inr h))
            have XT := Lib.hid XR
            have HIB := Lib.hid (HIB.out.below hbr)
            clear XR XS NF HNO CK HML
            have XS := XT
            clear XT
            obtain ⟨Wu, hWu⟩ : ∃ Wu, wr = Wu := ⟨_, rfl⟩
            subst hWu
            have hwS := hwr
            have SB := Lib.hid (fun W' (hb' : Below wr.heap.size wr W') => show W'.cell? ⟨w.heap.size, 0, none⟩ = some (.slice A0 n0 c0) ∧ W'.cell? ⟨w.heap.size, 1, none⟩ = some (.slice A1 n1 c1) ∧ W'.cell? ⟨w.heap.size, 2, none⟩ = some (.slice A2 n2 c2) ∧ W'.cell? ⟨w.heap.size, 3, none⟩ = some (.slice A3 n3 c3) ∧ W'.cell? ⟨w.heap.size, 4, none⟩ = some (.slice A4 n4 c4) ∧ W'.cell? ⟨w.heap.size, 5, none⟩ = some (.slice A5 n5 c5) ∧ Below wr.heap.size wr W' from ⟨(XS.out.below hb' XS.out.lt).cell (i := 0) rfl, (XS.out.below hb' XS.out.lt).cell (i := 1) rfl, (XS.out.below hb' XS.out.lt).cell (i := 2) rfl, (XS.out.below hb' XS.out.lt).cell (i := 3) rfl, (XS.out.below hb' XS.out.lt).cell (i := 4) rfl, (XS.out.below hb' XS.out.lt).cell (i := 5) rfl, hb'⟩)
            have K1 := Lib.hid (fun W (hb' : Below wr.heap.size wr W) => (Lower_any _ _ _ _ _ _ C AB (t.length + s.length) cB (t ++ s) W (CA.out W (hwr.trans (hb'.mono hwr.size))) hz (HIB.out.below hb') (by rw [List.length_append]) (by omega) (by omega) hcB (HOKB.out)).mono (R' := fun e W' => ∃ v, e = .returned v ∧ (W'.cell? ⟨w.heap.size, 0, none⟩ = some (.slice A0 n0 c0) ∧ W'.cell? ⟨w.heap.size, 1, none⟩ = some (.slice A1 n1 c1) ∧ W'.cell? ⟨w.heap.size, 2, none⟩ = some (.slice A2 n2 c2) ∧ W'.cell? ⟨w.heap.size, 3, none⟩ = some (.slice A3 n3 c3) ∧ W'.cell? ⟨w.heap.size, 4, none⟩ = some (.slice A4 n4 c4) ∧ W'.cell? ⟨w.heap.size, 5, none⟩ = some (.slice A5 n5 c5) ∧ Below wr.heap.size wr W') ∧ (∃ E d, v = .slice E (lowL (caseD C) (t ++ s)).length d ∧ (lowL (caseD C) (t ++ s)).length ≤ d ∧ Ints W' E (lowL (caseD C) (t ++ s)) ∧ Below W.heap.size W W')) (fun e W' ⟨E, d, he, g1, g2, g3⟩ => ⟨_, he, SB.out W' (hb'.trans (g3.mono hb'.size)), E, d, rfl, g1, g2, g3⟩))
            have K2 := Lib.hid (fun W (hb' : Below wr.heap.size wr W) => (Lower_any _ _ _ _ _ _ C A t.length a t W (CA.out W (hwr.trans (hb'.mono hwr.size))) hz (HA.out W (hwr.trans (hb'.mono hwr.size))) rfl (by omega) hna haz HOK.out).mono (R' := fun e W' => ∃ v, e = .returned v ∧ (W'.cell? ⟨w.heap.size, 0, none⟩ = some (.slice A0 n0 c0) ∧ W'.cell? ⟨w.heap.size, 1, none⟩ = some (.slice A1 n1 c1) ∧ W'.cell? ⟨w.heap.size, 2, none⟩ = some (.slice A2 n2 c2) ∧ W'.cell? ⟨w.heap.size, 3, none⟩ = some (.slice A3 n3 c3) ∧ W'.cell? ⟨w.heap.size, 4, none⟩ = some (.slice A4 n4 c4) ∧ W'.cell? ⟨w.heap.size, 5, none⟩ = some (.slice A5 n5 c5) ∧ Below wr.heap.size wr W') ∧ (∃ E d, v = .slice E (lowL (caseD C) t).length d ∧ (lowL (caseD C) t).length ≤ d ∧ Ints W' E (lowL (caseD C) t) ∧ Below W.heap.size W W')) (fun e W' ⟨E, d, he, g1, g2, g3⟩ => ⟨_, he, SB.out W' (hb'.trans (g3.mono hb'.size)), E, d, rfl, g1, g2, g3⟩))
            have K3 := Lib.hid (fun W (hb' : Below wr.heap.size wr W) => (Lower_any _ _ _ _ _ _ C B s.length b s W (CA.out W (hwr.trans (hb'.mono hwr.size))) hz (HB.out W (hwr.trans (hb'.mono hwr.size))) rfl (by omega) hmb hbz HOS.out).mono (R' := fun e W' => ∃ v, e = .returned v ∧ (W'.cell? ⟨w.heap.size, 0, none⟩ = some (.slice A0 n0 c0) ∧ W'.cell? ⟨w.heap.size, 1, none⟩ = some (.slice A1 n1 c1) ∧ W'.cell? ⟨w.heap.size, 2, none⟩ = some (.slice A2 n2 c2) ∧ W'.cell? ⟨w.heap.size, 3, none⟩ = some (.slice A3 n3 c3) ∧ W'.cell? ⟨w.heap.size, 4, none⟩ = some (.slice A4 n4 c4) ∧ W'.cell? ⟨w.heap.size, 5, none⟩ = some (.slice A5 n5 c5) ∧ Below wr.heap.size wr W') ∧ (∃ E d, v = .slice E (lowL (caseD C) s).length d ∧ (lowL (caseD C) s).length ≤ d ∧ Ints W' E (lowL (caseD C) s) ∧ Below W.heap.size W W')) (fun e W' ⟨E, d, he, g1, g2, g3⟩ => ⟨_, he, SB.out W' (hb'.trans (g3.mono hb'.size)), E, d, rfl, g1, g2, g3⟩))
            have ll1 := lowL_len (caseD_isok C) (t ++ s)
            have ll2 := lowL_len (caseD_isok C) t
            have ll3 := lowL_len (caseD_isok C) s
            have LE := Lib.hid (lowL_app NFD.out t s)
            generalize lowL (caseD C) (t ++ s) = L1 at *
            generalize lowL (caseD C) t = L2 at *
            generalize lowL (caseD C) s = L3 at *
            have KQ := Lib.hid (fun W E1 E2 d1 d2 (hb' : Below wr.heap.size wr W) (h1 : Ints W E1 L1) (h2 : Ints W E2 (L2 ++ L3)) => (Equal_same E1 E2 (L2 ++ L3).length d1 d2 (L2 ++ L3) W (by rw [← LE.out]; exact h1) h2 rfl (by rw [List.length_append]; omega)).mono (R' := fun e W' => e = .returned (.bool true) ∧ (W'.cell? ⟨w.heap.size, 0, none⟩ = some (.slice A0 n0 c0) ∧ W'.cell? ⟨w.heap.size, 1, none⟩ = some (.slice A1 n1 c1) ∧ W'.cell? ⟨w.heap.size, 2, none⟩ = some (.slice A2 n2 c2) ∧ W'.cell? ⟨w.heap.size, 3, none⟩ = some (.slice A3 n3 c3) ∧ W'.cell? ⟨w.heap.size, 4, none⟩ = some (.slice A4 n4 c4) ∧ W'.cell? ⟨w.heap.size, 5, none⟩ = some (.slice A5 n5 c5) ∧ Below wr.heap.size wr W')) (fun e W' hh => ⟨hh.1, SB.out W' (hb'.trans (hh.2.below.mono hb'.size))⟩))
            rw [show L1.length = (L2 ++ L3).length from by rw [LE.out]] at K1
            have KA := Lib.hid (fun W (hb' : Below wr.heap.size wr W) => (alive_any W).mono (R' := fun e W' => e = .returned (.bool true) ∧ (W'.cell? ⟨w.heap.size, 0, none⟩ = some (.slice A0 n0 c0) ∧ W'.cell? ⟨w.heap.size, 1, none⟩ = some (.slice A1 n1 c1) ∧ W'.cell? ⟨w.heap.size, 2, none⟩ = some (.slice A2 n2 c2) ∧ W'.cell? ⟨w.heap.size, 3, none⟩ = some (.slice A3 n3 c3) ∧ W'.cell? ⟨w.heap.size, 4, none⟩ = some (.slice A4 n4 c4) ∧ W'.cell? ⟨w.heap.size, 5, none⟩ = some (.slice A5 n5 c5) ∧ Below wr.heap.size wr W')) (fun e W' hh => ⟨hh.1, SB.out W' (hb'.trans (hh.2.mono hb'.size))⟩))
            go_wp2_with fail
            refine wp_region_held_drew (S := fun W' => W'.cell? ⟨w.heap.size, 0, none⟩ = some (.slice A0 n0 c0) ∧ W'.cell? ⟨w.heap.size, 1, none⟩ = some (.slice A1 n1 c1) ∧ W'.cell? ⟨w.heap.size, 2, none⟩ = some (.slice A2 n2 c2) ∧ W'.cell? ⟨w.heap.size, 3, none⟩ = some (.slice A3 n3 c3) ∧ W'.cell? ⟨w.heap.size, 4, none⟩ = some (.slice A4 n4 c4) ∧ W'.cell? ⟨w.heap.size, 5, none⟩ = some (.slice A5 n5 c5) ∧ Below wr.heap.size wr W') (by kernel_rfl) (SB.out _ ((Below.refl _ _).drew)) (fun hHeld => ?_)
            obtain ⟨Wd, hWd⟩ : ∃ Wd, wr.drew = Wd := ⟨_, rfl⟩
            rw [hWd] at hHeld ⊢
            clear hWd
            refine anyH_take (i := 0) (v := ?_) (some 59) rfl rfl (by kernel_rfl) (by kernel_rfl) (by kernel_rfl) (fun _ _ _ h => h) (by rfl) (by assumption) ?_ ?_
            rotate_left
            · intro w hSw; (try dsimp only at hSw); go_split_ands; go_simp; try (with_reducible rfl)
            try simp only [Act.put, List.setIfInBounds_toArray, List.set_cons_zero, List.set_cons_succ]
            refine anyH_take (i := 1) (v := ?_) (some 60) rfl rfl (by kernel_rfl) (by kernel_rfl) (by kernel_rfl) (fun _ _ _ h => h) (by rfl) (by assumption) ?_ ?_
            rotate_left
            · intro w hSw; (try dsimp only at hSw); go_split_ands; go_simp; try (with_reducible rfl)
            try simp only [Act.put, List.setIfInBounds_toArray, List.set_cons_zero, List.set_cons_succ]
            refine anyH_take (i := 4) (v := ?_) (some 63) rfl rfl (by kernel_rfl) (by kernel_rfl) (by kernel_rfl) (fun _ _ _ h => h) (by rfl) (by assumption) ?_ ?_
            rotate_left
            · intro w hSw; (try dsimp only at hSw); go_split_ands; go_simp; try (with_reducible rfl)
            try simp only [Act.put, List.setIfInBounds_toArray, List.set_cons_zero, List.set_cons_succ]
            refine anyH_take (i := 5) (v := ?_) (some 64) rfl rfl (by kernel_rfl) (by kernel_rfl) (by kernel_rfl) (fun _ _ _ h => h) (by rfl) (by assumption) ?_ ?_
            rotate_left
            · intro w hSw; (try dsimp only at hSw); go_split_ands; go_simp; try (with_reducible rfl)
            try simp only [Act.put, List.setIfInBounds_toArray, List.set_cons_zero, List.set_cons_succ]
            refine anyH_take (i := 8) (v := ?_) (some 67) rfl rfl (by kernel_rfl) (by kernel_rfl) (by kernel_rfl) (fun _ _ _ h => h) (by rfl) (by assumption) ?_ ?_
            rotate_left
            · intro w hSw; (try dsimp only at hSw); go_split_ands; go_simp; try (with_reducible rfl)
            try simp only [Act.put, List.setIfInBounds_toArray, List.set_cons_zero, List.set_cons_succ]
            refine anyH_take (i := 9) (v := ?_) (some 68) rfl rfl (by kernel_rfl) (by kernel_rfl) (by kernel_rfl) (fun _ _ _ h => h) (by rfl) (by assumption) ?_ ?_
            rotate_left
            · intro w hSw; (try dsimp only at hSw); go_split_ands; go_simp; try (with_reducible rfl)
            try simp only [Act.put, List.setIfInBounds_toArray, List.set_cons_zero, List.set_cons_succ]
            refine wpAnyH_ready (rs := [2, 3]) (by kernel_rfl) (by simp) ?_
            refine AllReadyH.cons rfl (fun K hK => ?_) (AllReadyH.cons rfl (fun K hK => ?_) (AllReadyH.nil))
            · refine step_call2 (some 61) rfl hK (by rfl) (by go_simp) (K1.out _ hHeld.2.2.2.2.2.2) ?_
              rintro _ X1 hS6 ⟨E1, d1, rfl, hl1, hI1, hb1⟩
              clear hK K
              clear hHeld
              have hHeld := hS6
              clear hS6
              try simp only [Act.put, List.setIfInBounds_toArray, List.set_cons_zero, List.set_cons_succ]
              refine wpAnyH_ready (rs := [3, 6]) (by kernel_rfl) (by simp) ?_
              refine AllReadyH.cons rfl (fun K hK => ?_) (AllReadyH.cons rfl (fun K hK => ?_) (AllReadyH.nil))
              · have Bn : Below X1.heap.size X1 (X1.alloc (.cells #[] 3)) := (Below.refl _ _).alloc (Nat.le_refl _) _
                have BP : Box (X1.alloc (.cells #[] 3)) X1.heap.size 3 [] := Box.new X1 3 [] rfl
                have Sn := SB.out _ (hHeld.2.2.2.2.2.2.trans (Bn.mono hHeld.2.2.2.2.2.2.size))
                have hps : wr.heap.size ≤ X1.heap.size := hHeld.2.2.2.2.2.2.size
                refine step_val2 (w' := (X1.alloc (.cells #[] 3))) (v := .slice (some ⟨X1.heap.size, 0, none⟩) 0 0) (some 62) rfl hK (by rfl) (by go_simp) Sn (fun _ => ?_)
                clear hK K
                clear hHeld
                have hHeld := Sn
                clear Sn
                have hI1 := hI1.below Bn
                generalize (X1.alloc (.cells #[] 3)) = XB at *
                clear Bn
                generalize X1.heap.size = p at *
                try simp only [Act.put, List.setIfInBounds_toArray, List.set_cons_zero, List.set_cons_succ]
                refine anyH_callE (i := 6) (some 65) rfl rfl (by kernel_rfl) (by rfl) (by go_simp) (K2.out _ hHeld.2.2.2.2.2.2) ?_
                rintro _ X2 hS6 ⟨E2, d2, rfl, hl2, hI2, hb2⟩
                clear hHeld
                have hHeld := hS6
                clear hS6
                have hI1 := hI1.below hb2
                have BP := BP.below hb2 BP.lt
                try simp only [Act.put, List.setIfInBounds_toArray, List.set_cons_zero, List.set_cons_succ]
                have hown0 : X2.ownsRow wr.heap.size 3 1 (.slice (some ⟨p, 0, none⟩) 0 0) 0 [] := ⟨rfl, .inr ⟨p, 0, #[], rfl, hps, BP, Nat.le_refl _, by unfold maxLen; omega, rfl, rfl⟩⟩
                have hsW : wr.heap.size ≤ X2.heap.size := hHeld.2.2.2.2.2.2.size
                have NE0 := hI1.off BP
                have bW := hHeld.2.2.2.2.2.2
                refine anyH_app (i := 7) (some 66) rfl rfl (by kernel_rfl) (by rfl) _ _ 32 3 (.int .i64 0) 1 8 rfl Try.underlying32 info_int rfl (by decide) (by decide) rfl hown0 rfl hI2 (by simp) (oneCell_ints _) (by omega) hsW ?_
                intro AR cR w1 hown1 hc1 hb1a hg1 hB1
                simp only [Nat.zero_add, List.nil_append] at hown1 hc1
                have NE1 : ∀ b o, E1 = some ⟨b, o, none⟩ → L1 ≠ [] → some b ≠ (Value.slice AR L2.length cR).ownBlock := fun b o hE hne => by
                  subst hE
                  rcases hB1 with rfl | rfl
                  · simp only [Value.ownBlock]
                    exact fun e => NE0 b o rfl hne (by simpa using e)
                  · have := hI1.lt hne
                    simp only [Value.ownBlock]
                    exact fun e => absurd e (by simp; omega)
                have hI1 := hI1.grown hg1 (fun b o hE hne => by
                  simp only [Value.ownBlock]
                  exact fun e => NE0 b o hE hne (by simpa using e))
                have b1 := bW.trans hb1a
                have S1 := SB.out w1 b1
                refine ⟨S1, ?_⟩
                clear hHeld
                have hHeld := S1
                clear S1 hown0 NE0 bW hb1a hg1 hB1 BP
                try simp only [Nat.zero_add]
                try simp only [Act.put, List.setIfInBounds_toArray, List.set_cons_zero, List.set_cons_succ]
                refine anyH_callE (i := 10) (some 69) rfl rfl (by kernel_rfl) (by rfl) (by go_simp) (K3.out _ hHeld.2.2.2.2.2.2) ?_
                rintro _ X3 hS6 ⟨E3, d3, rfl, hl3, hI3, hb3⟩
                clear hHeld
                have hHeld := hS6
                clear hS6
                have hI1 := hI1.below hb3
                have hown1 := own_keep hown1 hb3
                have hsW : wr.heap.size ≤ X3.heap.size := hHeld.2.2.2.2.2.2.size
                have bW := hHeld.2.2.2.2.2.2
                try simp only [Act.put, List.setIfInBounds_toArray, List.set_cons_zero, List.set_cons_succ]
                refine anyH_app (i := 11) (some 70) rfl rfl (by kernel_rfl) (by rfl) _ _ 32 3 (.int .i64 0) 1 8 rfl Try.underlying32 info_int rfl (by decide) (by decide) rfl hown1 rfl hI3 (by simp) (oneCell_ints _) (by omega) hsW ?_
                intro AT cT w2 hown2 hc2 hb2a hg2 hB2
                have hI1 := hI1.grown hg2 NE1
                have b2 := bW.trans hb2a
                have S2 := SB.out w2 b2
                have hIR : Ints w2 AT (L2 ++ L3) := by
                  unfold Ints
                  rw [List.map_append]
                  exact Sl.of_own hown2
                refine ⟨S2, ?_⟩
                clear hHeld
                have hHeld := S2
                clear S2 bW hb2a hg2 hB2 hown1
                try simp only [Act.put, List.setIfInBounds_toArray, List.set_cons_zero, List.set_cons_succ]
                rw [show L2.length + L3.length = (L2 ++ L3).length from List.length_append.symm]
                refine anyH_call (i := 12) (some 71) rfl rfl (by kernel_rfl) (by rfl) (by go_simp) (KQ.out _ E1 AT d1 cT hHeld.2.2.2.2.2.2 hI1 hIR) (fun X4 hS6 => ?_)
                clear hHeld
                have hHeld := hS6
                clear hS6
                try simp only [Act.put, List.setIfInBounds_toArray, List.set_cons_zero, List.set_cons_succ]
                refine anyH_take (i := 13) (v := ?_) (some 72) rfl rfl (by kernel_rfl) (by kernel_rfl) (by kernel_rfl) (fun _ _ _ h => h) (by rfl) (by assumption) ?_ ?_
                rotate_left
                · intro w hSw; (try dsimp only at hSw); go_split_ands; go_simp; try (with_reducible rfl)
                try simp only [Act.put, List.setIfInBounds_toArray, List.set_cons_zero, List.set_cons_succ]
                refine anyH_call (i := 14) (some 73) rfl rfl (by kernel_rfl) (by rfl) (by go_simp) (KA.out _ hHeld.2.2.2.2.2.2) (fun X5 hS6 => ?_)
                clear hHeld
                have hHeld := hS6
                clear hS6
                try simp only [Act.put, List.setIfInBounds_toArray, List.set_cons_zero, List.set_cons_succ]
                refine anyH_take (i := 15) (v := ?_) (some 74) rfl rfl (by kernel_rfl) (by kernel_rfl) (by kernel_rfl) (fun _ _ _ h => h) (by rfl) (by assumption) ?_ ?_
                rotate_left
                · intro w hSw; (try dsimp only at hSw); go_split_ands; go_simp; try (with_reducible rfl)
                try simp only [Act.put, List.setIfInBounds_toArray, List.set_cons_zero, List.set_cons_succ]
                refine anyH_take (i := 16) (v := ?_) (some 6) rfl rfl (by kernel_rfl) (by kernel_rfl) (by kernel_rfl) (fun _ _ _ h => h) (by rfl) (by assumption) ?_ ?_
                rotate_left
                · intro w hSw; (try dsimp only at hSw); go_split_ands; go_simp; try (with_reducible rfl)
                try simp only [Act.put, List.setIfInBounds_toArray, List.set_cons_zero, List.set_cons_succ]
                refine wpAnyH_done (by kernel_rfl) ?_ _
                have HBX := Lib.hid (hHeld.2.2.2.2.2.2)
                clear hHeld
                go_wp2_with fail
                go_ret
                exact ⟨rfl, hwS.trans (HBX.out.mono hwS.size)⟩
              · refine step_call2 (some 65) rfl hK (by rfl) (by go_simp) (K2.out _ hHeld.2.2.2.2.2.2) ?_
                rintro _ X2 hS6 ⟨E2, d2, rfl, hl2, hI2, hb2⟩
                clear hK K
                clear hHeld
                have hHeld := hS6
                clear hS6
                have hI1 := hI1.below hb2
                try simp only [Act.put, List.setIfInBounds_toArray, List.set_cons_zero, List.set_cons_succ]
                have Bn : Below X2.heap.size X2 (X2.alloc (.cells #[] 3)) := (Below.refl _ _).alloc (Nat.le_refl _) _
                have BP : Box (X2.alloc (.cells #[] 3)) X2.heap.size 3 [] := Box.new X2 3 [] rfl
                have Sn := SB.out _ (hHeld.2.2.2.2.2.2.trans (Bn.mono hHeld.2.2.2.2.2.2.size))
                have hps : wr.heap.size ≤ X2.heap.size := hHeld.2.2.2.2.2.2.size
                refine anyH_val (w' := (X2.alloc (.cells #[] 3))) (v := .slice (some ⟨X2.heap.size, 0, none⟩) 0 0) (i := 3) (some 62) rfl rfl (by kernel_rfl) (by rfl) (by go_simp) Sn ?_
                clear hHeld
                have hHeld := Sn
                clear Sn
                have hI1 := hI1.below Bn
                have hI2 := hI2.below Bn
                generalize (X2.alloc (.cells #[] 3)) = XB at *
                clear Bn
                generalize X2.heap.size = p at *
                try simp only [Act.put, List.setIfInBounds_toArray, List.set_cons_zero, List.set_cons_succ]
                have hown0 : XB.ownsRow wr.heap.size 3 1 (.slice (some ⟨p, 0, none⟩) 0 0) 0 [] := ⟨rfl, .inr ⟨p, 0, #[], rfl, hps, BP, Nat.le_refl _, by unfold maxLen; omega, rfl, rfl⟩⟩
                have hsW : wr.heap.size ≤ XB.heap.size := hHeld.2.2.2.2.2.2.size
                have NE0 := hI1.off BP
                have bW := hHeld.2.2.2.2.2.2
                refine anyH_app (i := 7) (some 66) rfl rfl (by kernel_rfl) (by rfl) _ _ 32 3 (.int .i64 0) 1 8 rfl Try.underlying32 info_int rfl (by decide) (by decide) rfl hown0 rfl hI2 (by simp) (oneCell_ints _) (by omega) hsW ?_
                intro AR cR w1 hown1 hc1 hb1a hg1 hB1
                simp only [Nat.zero_add, List.nil_append] at hown1 hc1
                have NE1 : ∀ b o, E1 = some ⟨b, o, none⟩ → L1 ≠ [] → some b ≠ (Value.slice AR L2.length cR).ownBlock := fun b o hE hne => by
                  subst hE
                  rcases hB1 with rfl | rfl
                  · simp only [Value.ownBlock]
                    exact fun e => NE0 b o rfl hne (by simpa using e)
                  · have := hI1.lt hne
                    simp only [Value.ownBlock]
                    exact fun e => absurd e (by simp; omega)
                have hI1 := hI1.grown hg1 (fun b o hE hne => by
                  simp only [Value.ownBlock]
                  exact fun e => NE0 b o hE hne (by simpa using e))
                have b1 := bW.trans hb1a
                have S1 := SB.out w1 b1
                refine ⟨S1, ?_⟩
                clear hHeld
                have hHeld := S1
                clear S1 hown0 NE0 bW hb1a hg1 hB1 BP
                try simp only [Nat.zero_add]
                try simp only [Act.put, List.setIfInBounds_toArray, List.set_cons_zero, List.set_cons_succ]
                refine anyH_callE (i := 10) (some 69) rfl rfl (by kernel_rfl) (by rfl) (by go_simp) (K3.out _ hHeld.2.2.2.2.2.2) ?_
                rintro _ X3 hS6 ⟨E3, d3, rfl, hl3, hI3, hb3⟩
                clear hHeld
                have hHeld := hS6
                clear hS6
                have hI1 := hI1.below hb3
                have hown1 := own_keep hown1 hb3
                have hsW : wr.heap.size ≤ X3.heap.size := hHeld.2.2.2.2.2.2.size
                have bW := hHeld.2.2.2.2.2.2
                try simp only [Act.put, List.setIfInBounds_toArray, List.set_cons_zero, List.set_cons_succ]
                refine anyH_app (i := 11) (some 70) rfl rfl (by kernel_rfl) (by rfl) _ _ 32 3 (.int .i64 0) 1 8 rfl Try.underlying32 info_int rfl (by decide) (by decide) rfl hown1 rfl hI3 (by simp) (oneCell_ints _) (by omega) hsW ?_
                intro AT cT w2 hown2 hc2 hb2a hg2 hB2
                have hI1 := hI1.grown hg2 NE1
                have b2 := bW.trans hb2a
                have S2 := SB.out w2 b2
                have hIR : Ints w2 AT (L2 ++ L3) := by
                  unfold Ints
                  rw [List.map_append]
                  exact Sl.of_own hown2
                refine ⟨S2, ?_⟩
                clear hHeld
                have hHeld := S2
                clear S2 bW hb2a hg2 hB2 hown1
                try simp only [Act.put, List.setIfInBounds_toArray, List.set_cons_zero, List.set_cons_succ]
                rw [show L2.length + L3.length = (L2 ++ L3).length from List.length_append.symm]
                refine anyH_call (i := 12) (some 71) rfl rfl (by kernel_rfl) (by rfl) (by go_simp) (KQ.out _ E1 AT d1 cT hHeld.2.2.2.2.2.2 hI1 hIR) (fun X4 hS6 => ?_)
                clear hHeld
                have hHeld := hS6
                clear hS6
                try simp only [Act.put, List.setIfInBounds_toArray, List.set_cons_zero, List.set_cons_succ]
                refine anyH_take (i := 13) (v := ?_) (some 72) rfl rfl (by kernel_rfl) (by kernel_rfl) (by kernel_rfl) (fun _ _ _ h => h) (by rfl) (by assumption) ?_ ?_
                rotate_left
                · intro w hSw; (try dsimp only at hSw); go_split_ands; go_simp; try (with_reducible rfl)
                try simp only [Act.put, List.setIfInBounds_toArray, List.set_cons_zero, List.set_cons_succ]
                refine anyH_call (i := 14) (some 73) rfl rfl (by kernel_rfl) (by rfl) (by go_simp) (KA.out _ hHeld.2.2.2.2.2.2) (fun X5 hS6 => ?_)
                clear hHeld
                have hHeld := hS6
                clear hS6
                try simp only [Act.put, List.setIfInBounds_toArray, List.set_cons_zero, List.set_cons_succ]
                refine anyH_take (i := 15) (v := ?_) (some 74) rfl rfl (by kernel_rfl) (by kernel_rfl) (by kernel_rfl) (fun _ _ _ h => h) (by rfl) (by assumption) ?_ ?_
                rotate_left
                · intro w hSw; (try dsimp only at hSw); go_split_ands; go_simp; try (with_reducible rfl)
                try simp only [Act.put, List.setIfInBounds_toArray, List.set_cons_zero, List.set_cons_succ]
                refine anyH_take (i := 16) (v := ?_) (some 6) rfl rfl (by kernel_rfl) (by kernel_rfl) (by kernel_rfl) (fun _ _ _ h => h) (by rfl) (by assumption) ?_ ?_
                rotate_left
                · intro w hSw; (try dsimp only at hSw); go_split_ands; go_simp; try (with_reducible rfl)
                try simp only [Act.put, List.setIfInBounds_toArray, List.set_cons_zero, List.set_cons_succ]
                refine wpAnyH_done (by kernel_rfl) ?_ _
                have HBX := Lib.hid (hHeld.2.2.2.2.2.2)
                clear hHeld
                go_wp2_with fail
                go_ret
                exact ⟨rfl, hwS.trans (HBX.out.mono hwS.size)⟩
            · have Bn : Below Wd.heap.size Wd (Wd.alloc (.cells #[] 3)) := (Below.refl _ _).alloc (Nat.le_refl _) _
              have BP : Box (Wd.alloc (.cells #[] 3)) Wd.heap.size 3 [] := Box.new Wd 3 [] rfl
              have Sn := SB.out _ (hHeld.2.2.2.2.2.2.trans (Bn.mono hHeld.2.2.2.2.2.2.size))
              have hps : wr.heap.size ≤ Wd.heap.size := hHeld.2.2.2.2.2.2.size
              refine step_val2 (w' := (Wd.alloc (.cells #[] 3))) (v := .slice (some ⟨Wd.heap.size, 0, none⟩) 0 0) (some 62) rfl hK (by rfl) (by go_simp) Sn (fun _ => ?_)
              clear hK K
              clear hHeld
              have hHeld := Sn
              clear Sn
              generalize (Wd.alloc (.cells #[] 3)) = XB at *
              clear Bn
              generalize Wd.heap.size = p at *
              try simp only [Act.put, List.setIfInBounds_toArray, List.set_cons_zero, List.set_cons_succ]
              refine anyH_callE (i := 2) (some 61) rfl rfl (by kernel_rfl) (by rfl) (by go_simp) (K1.out _ hHeld.2.2.2.2.2.2) ?_
              rintro _ X1 hS6 ⟨E1, d1, rfl, hl1, hI1, hb1⟩
              clear hHeld
              have hHeld := hS6
              clear hS6
              have BP := BP.below hb1 BP.lt
              try simp only [Act.put, List.setIfInBounds_toArray, List.set_cons_zero, List.set_cons_succ]
              refine anyH_callE (i := 6) (some 65) rfl rfl (by kernel_rfl) (by rfl) (by go_simp) (K2.out _ hHeld.2.2.2.2.2.2) ?_
              rintro _ X2 hS6 ⟨E2, d2, rfl, hl2, hI2, hb2⟩
              clear hHeld
              have hHeld := hS6
              clear hS6
              have BP := BP.below hb2 BP.lt
              have hI1 := hI1.below hb2
              try simp only [Act.put, List.setIfInBounds_toArray, List.set_cons_zero, List.set_cons_succ]
              have hown0 : X2.ownsRow wr.heap.size 3 1 (.slice (some ⟨p, 0, none⟩) 0 0) 0 [] := ⟨rfl, .inr ⟨p, 0, #[], rfl, hps, BP, Nat.le_refl _, by unfold maxLen; omega, rfl, rfl⟩⟩
              have hsW : wr.heap.size ≤ X2.heap.size := hHeld.2.2.2.2.2.2.size
              have NE0 := hI1.off BP
              have bW := hHeld.2.2.2.2.2.2
              refine anyH_app (i := 7) (some 66) rfl rfl (by kernel_rfl) (by rfl) _ _ 32 3 (.int .i64 0) 1 8 rfl Try.underlying32 info_int rfl (by decide) (by decide) rfl hown0 rfl hI2 (by simp) (oneCell_ints _) (by omega) hsW ?_
              intro AR cR w1 hown1 hc1 hb1a hg1 hB1
              simp only [Nat.zero_add, List.nil_append] at hown1 hc1
              have NE1 : ∀ b o, E1 = some ⟨b, o, none⟩ → L1 ≠ [] → some b ≠ (Value.slice AR L2.length cR).ownBlock := fun b o hE hne => by
                subst hE
                rcases hB1 with rfl | rfl
                · simp only [Value.ownBlock]
                  exact fun e => NE0 b o rfl hne (by simpa using e)
                · have := hI1.lt hne
                  simp only [Value.ownBlock]
                  exact fun e => absurd e (by simp; omega)
              have hI1 := hI1.grown hg1 (fun b o hE hne => by
                simp only [Value.ownBlock]
                exact fun e => NE0 b o hE hne (by simpa using e))
              have b1 := bW.trans hb1a
              have S1 := SB.out w1 b1
              refine ⟨S1, ?_⟩
              clear hHeld
              have hHeld := S1
              clear S1 hown0 NE0 bW hb1a hg1 hB1 BP
              try simp only [Nat.zero_add]
              try simp only [Act.put, List.setIfInBounds_toArray, List.set_cons_zero, List.set_cons_succ]
              refine anyH_callE (i := 10) (some 69) rfl rfl (by kernel_rfl) (by rfl) (by go_simp) (K3.out _ hHeld.2.2.2.2.2.2) ?_
              rintro _ X3 hS6 ⟨E3, d3, rfl, hl3, hI3, hb3⟩
              clear hHeld
              have hHeld := hS6
              clear hS6
              have hI1 := hI1.below hb3
              have hown1 := own_keep hown1 hb3
              have hsW : wr.heap.size ≤ X3.heap.size := hHeld.2.2.2.2.2.2.size
              have bW := hHeld.2.2.2.2.2.2
              try simp only [Act.put, List.setIfInBounds_toArray, List.set_cons_zero, List.set_cons_succ]
              refine anyH_app (i := 11) (some 70) rfl rfl (by kernel_rfl) (by rfl) _ _ 32 3 (.int .i64 0) 1 8 rfl Try.underlying32 info_int rfl (by decide) (by decide) rfl hown1 rfl hI3 (by simp) (oneCell_ints _) (by omega) hsW ?_
              intro AT cT w2 hown2 hc2 hb2a hg2 hB2
              have hI1 := hI1.grown hg2 NE1
              have b2 := bW.trans hb2a
              have S2 := SB.out w2 b2
              have hIR : Ints w2 AT (L2 ++ L3) := by
                unfold Ints
                rw [List.map_append]
                exact Sl.of_own hown2
              refine ⟨S2, ?_⟩
              clear hHeld
              have hHeld := S2
              clear S2 bW hb2a hg2 hB2 hown1
              try simp only [Act.put, List.setIfInBounds_toArray, List.set_cons_zero, List.set_cons_succ]
              rw [show L2.length + L3.length = (L2 ++ L3).length from List.length_append.symm]
              refine anyH_call (i := 12) (some 71) rfl rfl (by kernel_rfl) (by rfl) (by go_simp) (KQ.out _ E1 AT d1 cT hHeld.2.2.2.2.2.2 hI1 hIR) (fun X4 hS6 => ?_)
              clear hHeld
              have hHeld := hS6
              clear hS6
              try simp only [Act.put, List.setIfInBounds_toArray, List.set_cons_zero, List.set_cons_succ]
              refine anyH_take (i := 13) (v := ?_) (some 72) rfl rfl (by kernel_rfl) (by kernel_rfl) (by kernel_rfl) (fun _ _ _ h => h) (by rfl) (by assumption) ?_ ?_
              rotate_left
              · intro w hSw; (try dsimp only at hSw); go_split_ands; go_simp; try (with_reducible rfl)
              try simp only [Act.put, List.setIfInBounds_toArray, List.set_cons_zero, List.set_cons_succ]
              refine anyH_call (i := 14) (some 73) rfl rfl (by kernel_rfl) (by rfl) (by go_simp) (KA.out _ hHeld.2.2.2.2.2.2) (fun X5 hS6 => ?_)
              clear hHeld
              have hHeld := hS6
              clear hS6
              try simp only [Act.put, List.setIfInBounds_toArray, List.set_cons_zero, List.set_cons_succ]
              refine anyH_take (i := 15) (v := ?_) (some 74) rfl rfl (by kernel_rfl) (by kernel_rfl) (by kernel_rfl) (fun _ _ _ h => h) (by rfl) (by assumption) ?_ ?_
              rotate_left
              · intro w hSw; (try dsimp only at hSw); go_split_ands; go_simp; try (with_reducible rfl)
              try simp only [Act.put, List.setIfInBounds_toArray, List.set_cons_zero, List.set_cons_succ]
              refine anyH_take (i := 16) (v := ?_) (some 6) rfl rfl (by kernel_rfl) (by kernel_rfl) (by kernel_rfl) (fun _ _ _ h => h) (by rfl) (by assumption) ?_ ?_
              rotate_left
              · intro w hSw; (try dsimp only at hSw); go_split_ands; go_simp; try (with_reducible rfl)
              try simp only [Act.put, List.setIfInBounds_toArray, List.set_cons_zero, List.set_cons_succ]
              refine wpAnyH_done (by kernel_rfl) ?_ _
              have HBX := Lib.hid (hHeld.2.2.2.2.2.2)
              clear hHeld
              go_wp2_with fail
              go_ret
              exact ⟨rfl, hwS.trans (HBX.out.mono hwS.size)⟩

end Go.Proofs.Ytpamkbbmbeeheaa
