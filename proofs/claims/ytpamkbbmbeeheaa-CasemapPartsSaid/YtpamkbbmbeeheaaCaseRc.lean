/- The contracts of the reference's titled and Title. Written by gen_caserc.py. -/
import Derived.Test.YtpamkbbmbeeheaaCaseRb
namespace Go.Proofs.Ytpamkbbmbeeheaa
open Go.RowKit Go.Maps Go.WideMaps

/-- what titled has written before the index i -/
def TdRel (D : Cse) (t : List Int) (lo i : Nat) (out : List Int) (found : Bool) : Prop :=
  (found = false ∧ out = joinI (sameAt t) lo i ∧ ∀ j, lo ≤ j → j < i → hasR D.cased (t.getD j 0) = false) ∨
  (found = true ∧ ∃ f, lo ≤ f ∧ f < i ∧ (∀ j, lo ≤ j → j < f → hasR D.cased (t.getD j 0) = false) ∧ hasR D.cased (t.getD f 0) = true ∧ out = joinI (sameAt t) lo f ++ upAt D.title t f ++ joinI (lowAt D t) (f + 1) i)
section
variable {D : Cse} {t : List Int} {lo i : Nat} {out : List Int} {found : Bool}
theorem TdRel.start : TdRel D t lo lo [] false := .inl ⟨rfl, by rw [joinI_nil _ (Nat.le_refl _)], fun j h1 h2 => by omega⟩
theorem TdRel.low (h : TdRel D t lo i out true) : TdRel D t lo (i + 1) (out ++ lowAt D t i) true := by
  rcases h with ⟨h, _⟩ | ⟨_, f, h1, h2, h3, h4, rfl⟩
  · cases h
  · exact .inr ⟨rfl, f, h1, by omega, h3, h4, by rw [joinI_snoc (lowAt D t) (by omega), List.append_assoc]⟩
theorem TdRel.up (h : TdRel D t lo i out false) (hl : lo ≤ i) (hc : hasR D.cased (t.getD i 0) = true) : TdRel D t lo (i + 1) (out ++ upAt D.title t i) true := by
  rcases h with ⟨_, rfl, h3⟩ | ⟨h, _⟩
  · exact .inr ⟨rfl, i, hl, by omega, h3, hc, by rw [joinI_nil _ (Nat.le_refl _), List.append_nil]⟩
  · cases h
theorem TdRel.same (h : TdRel D t lo i out false) (hl : lo ≤ i) (hc : hasR D.cased (t.getD i 0) = false) : TdRel D t lo (i + 1) (out ++ sameAt t i) false := by
  rcases h with ⟨_, rfl, h3⟩ | ⟨h, _⟩
  · exact .inl ⟨rfl, by rw [joinI_snoc (sameAt t) hl], fun j h1 h2 => by
      by_cases e : j = i
      · subst e; exact hc
      · exact h3 j h1 (by omega)⟩
  · cases h
theorem TdRel.end (h : TdRel D t lo i out found) (hl : lo ≤ i) : out = partT D t lo i := by
  rcases h with ⟨_, rfl, h3⟩ | ⟨_, f, h1, h2, h3, h4, rfl⟩
  · rw [partT_end hl h3]
  · rw [partT_at h1 h2 h3 h4]
theorem TdRel.len (h : TdRel D t lo i out found) (hl : lo ≤ i) (hok : CaseOk D) (hi : i ≤ 1048576) : out.length ≤ 67108864 := by
  rw [h.end hl]
  have := partT_len hok t hl
  have h3 : 64 * (i - lo) ≤ 64 * 1048576 := Nat.mul_le_mul_left _ (by omega)
  omega
end

set_option maxRecDepth 100000 in
set_option maxHeartbeats 12800000 in
theorem titled_any (v0 v1 v2 v3 v4 v5 : Value) (C : Cse) (A : Option Addr) (n a : Nat) (t : List Int) (lo hi : Nat) (w : World) (h : CaseAt w v0 v1 v2 v3 v4 v5 C) (hz : CaseSz C) (hok : CaseOk C) (hA : Ints w A t) (hn : t.length = n) (hb : n ≤ 1048576) (h1 : lo ≤ hi) (h2 : hi ≤ n) :
    Calls Try.prog 56 #[.agg #[v0, v1, v2, v3, v4, v5], .slice A n a, .agg #[.int .i64 lo, .int .i64 hi]] w (RetIs (partT C t lo hi) w) := by
  subst hn
  obtain ⟨A0, n0, c0, rfl⟩ := h.lower.sl
  obtain ⟨A1, n1, c1, rfl⟩ := h.upper.sl
  obtain ⟨A2, n2, c2, rfl⟩ := h.title.sl
  obtain ⟨A3, n3, c3, rfl⟩ := h.fold.sl
  obtain ⟨A4, n4, c4, rfl⟩ := h.cased.sl
  obtain ⟨A5, n5, c5, rfl⟩ := h.ign.sl
  have B0 : Below w.heap.size w ((w.alloc (.cells #[.slice A0 n0 c0, .slice A1 n1 c1, .slice A2 n2 c2, .slice A3 n3 c3, .slice A4 n4 c4, .slice A5 n5 c5] 27)).alloc (.cells #[.int .i64 lo, .int .i64 hi] 48)) := ((Below.refl _ _).alloc (Nat.le_refl _) _).alloc (by simp) _
  have X0 : Box ((w.alloc (.cells #[.slice A0 n0 c0, .slice A1 n1 c1, .slice A2 n2 c2, .slice A3 n3 c3, .slice A4 n4 c4, .slice A5 n5 c5] 27)).alloc (.cells #[.int .i64 lo, .int .i64 hi] 48)) w.heap.size 27 [.slice A0 n0 c0, .slice A1 n1 c1, .slice A2 n2 c2, .slice A3 n3 c3, .slice A4 n4 c4, .slice A5 n5 c5] := (Box.new w 27 [.slice A0 n0 c0, .slice A1 n1 c1, .slice A2 n2 c2, .slice A3 n3 c3, .slice A4 n4 c4, .slice A5 n5 c5] rfl).alloc _
  have P0 : Box ((w.alloc (.cells #[.slice A0 n0 c0, .slice A1 n1 c1, .slice A2 n2 c2, .slice A3 n3 c3, .slice A4 n4 c4, .slice A5 n5 c5] 27)).alloc (.cells #[.int .i64 lo, .int .i64 hi] 48)) (w.heap.size + 1) 48 [.int .i64 lo, .int .i64 hi] := Box.new _ 48 [.int .i64 lo, .int .i64 hi] (by simp)
  have W0E : ∃ W0, ((w.alloc (.cells #[.slice A0 n0 c0, .slice A1 n1 c1, .slice A2 n2 c2, .slice A3 n3 c3, .slice A4 n4 c4, .slice A5 n5 c5] 27)).alloc (.cells #[.int .i64 lo, .int .i64 hi] 48)) = W0 := ⟨_, rfl⟩
  have LC := Lib.hid (fun W k (hb' : Below w.heap.size w W) (hk : k < t.length) => refLower_any _ _ _ _ _ _ C A t.length a t k W (h.below hb') hz hok (hA.below hb') rfl hb hk)
  have MC := Lib.hid (fun W x (hb' : Below w.heap.size w W) => mapped_any _ C.title x W (h.below hb').title hz.title hok.title)
  have HC := Lib.hid (fun W x (hb' : Below w.heap.size w W) => (h.below hb').cased.has hz.cased x)
  have HA := Lib.hid (fun W (hb' : Below w.heap.size w W) => hA.below hb')
  have LF := Lib.hid (fun i => lowAt_len hok t i)
  have UF := Lib.hid (fun i => upAt_len hok.title t i)
  have HOK := Lib.hid hok
  clear h hz hA hok
  go_enter Try.func56, Try.ntmps56
  go_wp2_with fail
  obtain ⟨W0, hW0⟩ := W0E
  rw [hW0] at B0 X0 P0 ⊢
  clear hW0
  have HX := Lib.hid X0
  have HP := Lib.hid P0
  clear X0 P0
  go_loopw [7, 8, 9, 25, 33] (fun v fv u _ _ wr => ∃ (i : Nat) (out : List Int) (found : Bool), lo ≤ i ∧ i ≤ hi ∧ u = .int .i64 i ∧ fv = .bool found ∧ TdRel C t lo i out found ∧ RowI W0.heap.size wr v out ∧ Below W0.heap.size W0 wr) (fun _ _ u _ _ _ => hi - (intOf u).toNat)
  case atStart => exact ⟨lo, [], false, Nat.le_refl _, h1, rfl, rfl, TdRel.start, RowI.nil _ _, Below.refl _ _⟩
  case round =>
    obtain ⟨i, out, found, hi1, hi2, rfl, rfl, hTD, hrow, hbr⟩ := hrel
    have hbw := B0.trans (hbr.mono B0.size)
    have hol := hTD.len hi1 HOK.out (by omega)
    obtain ⟨AA, cc, rfl, hown⟩ := hrow
    have HO := Lib.hid hown
    have HTD := Lib.hid hTD
    clear hown hTD
    have p1 := (HP.out.below hbr HP.out.lt).cell (i := 1) rfl
    have hlp := (HP.out.below hbr HP.out.lt).lt
    by_cases hlt : i < hi
    · have hit : i < t.length := by omega
      obtain ⟨b1, o1, rfl, hcell⟩ := (HA.out W0 B0).at hit
      have d0 := hcell i hit
      have lb := World.block_lt_of_cell? W0 _ d0
      have ci0 : (0 : Int) ≤ i := by omega
      have ci1 : (i : Int) < t.length := by omega
      have GD := Lib.hid (getD_at hit)
      clear hcell
      cases found with
      | true =>
        have XD2 := HX.out.below hbr HX.out.lt
        have f0 := XD2.cell (i := 0) rfl
        have f1 := XD2.cell (i := 1) rfl
        have f2 := XD2.cell (i := 2) rfl
        have f3 := XD2.cell (i := 3) rfl
        have f4 := XD2.cell (i := 4) rfl
        have f5 := XD2.cell (i := 5) rfl
        have hl2 := XD2.lt
        have KL := Lib.hid (LC.out wr i hbw hit)
        have l2 := LF.out i
        have HT2 := Lib.hid HTD.out.low
        generalize lowAt C t i = Fi at *
        clear XD2 d0 lb
        go_wp2_with fail
        with_reducible refine KL.out.mono ?_
        rintro e W3 ⟨E, d, rfl, hd, hE, hb4⟩
        have HO1 := own_keep HO.out hb4
        have hb5 := hbr.trans (hb4.mono hbr.size)
        have hs1 : W0.heap.size ≤ W3.heap.size := hb5.size
        clear KL HO f0 f1 f2 f3 f4 f5
        go_wp2_with (at_builtin; refine wpList_app _ _ 32 3 (.int .i64 0) 1 8 rfl rfl Try.underlying32 info_int rfl (by decide) (by decide) rfl HO1 rfl hE (by simp) (oneCell_ints _) (by omega) hs1 ?_; intro A1 c1 w1 hown1 hc1 hb6 _ _)
        have HO2 := Lib.hid hown1
        have hb7 := hb5.trans hb6
        clear hown1 HO1 hE
        go_roundw
        case rel => exact ⟨i + 1, _, true, by omega, by omega, by go_num, rfl, HT2.out, ⟨A1, c1, by rw [List.length_append], by rw [List.length_append, List.map_append]; exact HO2.out⟩, hb7⟩
        case measure => simp [intOf]; omega
      | false =>
        generalize hti : t[i] = ti at *
        have SC := Lib.hid (fun W' (hb' : Below W0.heap.size W0 W') => show W'.cell? ⟨w.heap.size, 4, none⟩ = some (.slice A4 n4 c4) ∧ W'.cell? ⟨b1, o1 + i, none⟩ = some (.int .i64 ti) ∧ Below W0.heap.size W0 W' from ⟨(HX.out.below hb' HX.out.lt).cell (i := 4) rfl, (hb'.cell (p := ⟨b1, o1 + i, none⟩) lb).trans d0, hb'⟩)
        have ST := Lib.hid (fun W' (hb' : Below W0.heap.size W0 W') => show W'.cell? ⟨w.heap.size, 2, none⟩ = some (.slice A2 n2 c2) ∧ W'.cell? ⟨b1, o1 + i, none⟩ = some (.int .i64 ti) ∧ Below W0.heap.size W0 W' from ⟨(HX.out.below hb' HX.out.lt).cell (i := 2) rfl, (hb'.cell (p := ⟨b1, o1 + i, none⟩) lb).trans d0, hb'⟩)
        have KC := Lib.hid ((HC.out wr.drew ti hbw.drew).mono (R' := fun e W' => ∃ v, e = .returned v ∧ (W'.cell? ⟨w.heap.size, 4, none⟩ = some (.slice A4 n4 c4) ∧ W'.cell? ⟨b1, o1 + i, none⟩ = some (.int .i64 ti) ∧ Below W0.heap.size W0 W') ∧ (v = .bool (hasR C.cased ti) ∧ Below wr.heap.size wr W')) (fun e W' hh => ⟨_, hh.1, SC.out W' (hbr.trans ((Below.trans (Below.refl _ _).drew hh.2).mono hbr.size)), rfl, Below.trans (Below.refl _ _).drew hh.2⟩))
        have HQC := Lib.hid (show hasR C.cased (t.getD i 0) = hasR C.cased ti by rw [GD.out])
        have UE := Lib.hid (show upAt C.title t i = mapT C.title ti by unfold upAt; rw [GD.out])
        have SE := Lib.hid (show sameAt t i = [ti] by unfold sameAt; rw [GD.out])
        have TU := Lib.hid (fun hc => HTD.out.up hi1 hc)
        have TS := Lib.hid (fun hc => HTD.out.same hi1 hc)
        rw [UE.out] at TU
        rw [SE.out] at TS
        rw [HQC.out] at TU TS
        have l2 := UF.out i
        rw [UE.out] at l2
        clear hti GD HQC UE SE d0 lb HTD
        generalize hasR C.cased ti = qc at *
        go_wp2_with fail
        refine wp_region_held_drew (S := fun W' => W'.cell? ⟨w.heap.size, 4, none⟩ = some (.slice A4 n4 c4) ∧ W'.cell? ⟨b1, o1 + i, none⟩ = some (.int .i64 ti) ∧ Below W0.heap.size W0 W') (by kernel_rfl) (SC.out _ hbr.drew) (fun hHeld => ?_)
        refine anyH_take (i := 0) (v := ?_) (some 34) rfl rfl (by kernel_rfl) (by kernel_rfl) (by kernel_rfl) (fun _ _ _ h => h) (by rfl) (by assumption) ?_ ?_
        rotate_left
        · intro w hSw; (try dsimp only at hSw); go_split_ands; go_simp; try (with_reducible rfl)
        try simp only [Act.put, List.setIfInBounds_toArray, List.set_cons_zero, List.set_cons_succ]
        refine anyH_take (i := 1) (v := ?_) (some 35) rfl rfl (by kernel_rfl) (by kernel_rfl) (by kernel_rfl) (fun _ _ _ h => h) (by rfl) (by assumption) ?_ ?_
        rotate_left
        · intro w hSw; (try dsimp only at hSw); go_split_ands; go_simp; try (with_reducible rfl)
        try simp only [Act.put, List.setIfInBounds_toArray, List.set_cons_zero, List.set_cons_succ]
        refine anyH_take (i := 2) (v := ?_) (some 36) rfl rfl (by kernel_rfl) (by kernel_rfl) (by kernel_rfl) (fun _ _ _ h => h) (by rfl) (by assumption) ?_ ?_
        rotate_left
        · intro w hSw; (try dsimp only at hSw); go_split_ands; go_simp; try (with_reducible rfl)
        try simp only [Act.put, List.setIfInBounds_toArray, List.set_cons_zero, List.set_cons_succ]
        refine anyH_take (i := 3) (v := ?_) (some 37) rfl rfl (by kernel_rfl) (by kernel_rfl) (by kernel_rfl) (fun _ _ _ h => h) (by rfl) (by assumption) ?_ ?_
        rotate_left
        · intro w hSw; (try dsimp only at hSw); go_split_ands; go_simp; try (with_reducible rfl)
        try simp only [Act.put, List.setIfInBounds_toArray, List.set_cons_zero, List.set_cons_succ]
        refine anyH_take (i := 4) (v := ?_) (some 38) rfl rfl (by kernel_rfl) (by kernel_rfl) (by kernel_rfl) (fun _ _ _ h => h) (by rfl) (by assumption) ?_ ?_
        rotate_left
        · intro w hSw; (try dsimp only at hSw); go_split_ands; go_simp; try (with_reducible rfl)
        try simp only [Act.put, List.setIfInBounds_toArray, List.set_cons_zero, List.set_cons_succ]
        refine anyH_take (i := 5) (v := ?_) (some 39) rfl rfl (by kernel_rfl) (by kernel_rfl) (by kernel_rfl) (fun _ _ _ h => h) (by rfl) (by assumption) ?_ ?_
        rotate_left
        · intro w hSw; (try dsimp only at hSw); go_split_ands; go_simp; try (with_reducible rfl)
        try simp only [Act.put, List.setIfInBounds_toArray, List.set_cons_zero, List.set_cons_succ]
        refine anyH_callE (i := 6) (some 40) rfl rfl (by kernel_rfl) (by rfl) (by go_simp) KC.out ?_
        rintro _ W3 hS6 ⟨rfl, hb4⟩
        clear hHeld
        have hHeld := hS6
        clear hS6
        try simp only [Act.put, List.setIfInBounds_toArray, List.set_cons_zero, List.set_cons_succ]
        refine anyH_take (i := 7) (v := ?_) (some 33) rfl rfl (by kernel_rfl) (by kernel_rfl) (by kernel_rfl) (fun _ _ _ h => h) (by rfl) (by assumption) ?_ ?_
        rotate_left
        · intro w hSw; (try dsimp only at hSw); go_split_ands; go_simp; try (with_reducible rfl)
        try simp only [Act.put, List.setIfInBounds_toArray, List.set_cons_zero, List.set_cons_succ]
        refine wpAnyH_done (by kernel_rfl) ?_ _
        have hb5 := hbr.trans (hb4.mono hbr.size)
        have HO1 := Lib.hid (own_keep HO.out hb4)
        have d3 := hHeld.2.1
        have hbw3 := B0.trans (hb5.mono B0.size)
        have hs1 : W0.heap.size ≤ W3.heap.size := hb5.size
        clear KC hHeld SC HO
        cases qc with
        | true =>
          have HT2 := Lib.hid (TU.out rfl)
          clear TU TS d3
          have KM := Lib.hid ((MC.out W3.drew ti hbw3.drew).mono (R' := fun e W' => ∃ v, e = .returned v ∧ (W'.cell? ⟨w.heap.size, 2, none⟩ = some (.slice A2 n2 c2) ∧ W'.cell? ⟨b1, o1 + i, none⟩ = some (.int .i64 ti) ∧ Below W0.heap.size W0 W') ∧ (∃ E d, v = .slice E (mapT C.title ti).length d ∧ Ints W' E (mapT C.title ti) ∧ Below W3.heap.size W3 W')) (fun e W' ⟨E, d, he, g1, g2, g3⟩ => ⟨_, he, ST.out W' (hb5.trans ((Below.trans (Below.refl _ _).drew g3).mono hb5.size)), E, d, rfl, g2, Below.trans (Below.refl _ _).drew g3⟩))
          generalize mapT C.title ti = Fi at *
          go_wp2_with fail
          refine wp_region_held_drew (S := fun W' => W'.cell? ⟨w.heap.size, 2, none⟩ = some (.slice A2 n2 c2) ∧ W'.cell? ⟨b1, o1 + i, none⟩ = some (.int .i64 ti) ∧ Below W0.heap.size W0 W') (by kernel_rfl) (ST.out _ hb5.drew) (fun hHeld => ?_)
          refine anyH_take (i := 0) (v := ?_) (some 41) rfl rfl (by kernel_rfl) (by kernel_rfl) (by kernel_rfl) (fun _ _ _ h => h) (by rfl) (by assumption) ?_ ?_
          rotate_left
          · intro w hSw; (try dsimp only at hSw); go_split_ands; go_simp; try (with_reducible rfl)
          try simp only [Act.put, List.setIfInBounds_toArray, List.set_cons_zero, List.set_cons_succ]
          refine anyH_take (i := 1) (v := ?_) (some 42) rfl rfl (by kernel_rfl) (by kernel_rfl) (by kernel_rfl) (fun _ _ _ h => h) (by rfl) (by assumption) ?_ ?_
          rotate_left
          · intro w hSw; (try dsimp only at hSw); go_split_ands; go_simp; try (with_reducible rfl)
          try simp only [Act.put, List.setIfInBounds_toArray, List.set_cons_zero, List.set_cons_succ]
          refine anyH_take (i := 2) (v := ?_) (some 43) rfl rfl (by kernel_rfl) (by kernel_rfl) (by kernel_rfl) (fun _ _ _ h => h) (by rfl) (by assumption) ?_ ?_
          rotate_left
          · intro w hSw; (try dsimp only at hSw); go_split_ands; go_simp; try (with_reducible rfl)
          try simp only [Act.put, List.setIfInBounds_toArray, List.set_cons_zero, List.set_cons_succ]
          refine anyH_take (i := 3) (v := ?_) (some 44) rfl rfl (by kernel_rfl) (by kernel_rfl) (by kernel_rfl) (fun _ _ _ h => h) (by rfl) (by assumption) ?_ ?_
          rotate_left
          · intro w hSw; (try dsimp only at hSw); go_split_ands; go_simp; try (with_reducible rfl)
          try simp only [Act.put, List.setIfInBounds_toArray, List.set_cons_zero, List.set_cons_succ]
          refine anyH_take (i := 4) (v := ?_) (some 45) rfl rfl (by kernel_rfl) (by kernel_rfl) (by kernel_rfl) (fun _ _ _ h => h) (by rfl) (by assumption) ?_ ?_
          rotate_left
          · intro w hSw; (try dsimp only at hSw); go_split_ands; go_simp; try (with_reducible rfl)
          try simp only [Act.put, List.setIfInBounds_toArray, List.set_cons_zero, List.set_cons_succ]
          refine anyH_take (i := 5) (v := ?_) (some 46) rfl rfl (by kernel_rfl) (by kernel_rfl) (by kernel_rfl) (fun _ _ _ h => h) (by rfl) (by assumption) ?_ ?_
          rotate_left
          · intro w hSw; (try dsimp only at hSw); go_split_ands; go_simp; try (with_reducible rfl)
          try simp only [Act.put, List.setIfInBounds_toArray, List.set_cons_zero, List.set_cons_succ]
          refine anyH_take (i := 6) (v := ?_) (some 47) rfl rfl (by kernel_rfl) (by kernel_rfl) (by kernel_rfl) (fun _ _ _ h => h) (by rfl) (by assumption) ?_ ?_
          rotate_left
          · intro w hSw; (try dsimp only at hSw); go_split_ands; go_simp; try (with_reducible rfl)
          try simp only [Act.put, List.setIfInBounds_toArray, List.set_cons_zero, List.set_cons_succ]
          refine anyH_callE (i := 7) (some 48) rfl rfl (by kernel_rfl) (by rfl) (by go_simp) KM.out ?_
          rintro _ W4 hS6 ⟨E, d, rfl, hE, hb6⟩
          clear hHeld
          have hHeld := hS6
          clear hS6
          try simp only [Act.put, List.setIfInBounds_toArray, List.set_cons_zero, List.set_cons_succ]
          have HO3 := own_keep HO1.out hb6
          have hb7 := hb5.trans (hb6.mono hb5.size)
          have hs2 : W0.heap.size ≤ W4.heap.size := hb7.size
          refine anyH_app (i := 8) (some 49) rfl rfl (by kernel_rfl) (by rfl) _ _ 32 3 (.int .i64 0) 1 8 rfl Try.underlying32 info_int rfl (by decide) (by decide) rfl HO3 rfl hE (by simp) (oneCell_ints _) (by omega) hs2 ?_
          intro A1 c1 w1 hown1 hc1 hb8 _ _
          have HO2 := Lib.hid hown1
          have hb9 := hb7.trans hb8
          have S7 := ST.out w1 hb9
          clear hown1 HO1 HO3 hE hHeld KM
          refine ⟨S7, ?_⟩
          have hHeld := S7
          clear S7
          try simp only [Act.put, List.setIfInBounds_toArray, List.set_cons_zero, List.set_cons_succ]
          refine anyH_take (i := 9) (v := ?_) (some 7) rfl rfl (by kernel_rfl) (by kernel_rfl) (by kernel_rfl) (fun _ _ _ h => h) (by rfl) (by assumption) ?_ ?_
          rotate_left
          · intro w hSw; (try dsimp only at hSw); go_split_ands; go_simp; try (with_reducible rfl)
          try simp only [Act.put, List.setIfInBounds_toArray, List.set_cons_zero, List.set_cons_succ]
          refine wpAnyH_done (by kernel_rfl) ?_ _
          clear hHeld ST
          go_wp2_with fail
          go_roundw
          case rel => exact ⟨i + 1, _, true, by omega, by omega, by go_num, rfl, HT2.out, ⟨A1, c1, by rw [List.length_append], by rw [List.length_append, List.map_append]; exact HO2.out⟩, hb9⟩
          case measure => simp [intOf]; omega
        | false =>
          have HT2 := Lib.hid (TS.out rfl)
          have HOa := HO1.out.alloc (.cells #[.int .i64 ti] 3)
          have hEa := Ints_new W3 [ti] 3 rfl
          clear TU TS ST HO1
          go_wp2_with (at_builtin; refine wpList_app _ _ 32 3 (.int .i64 0) 1 8 rfl rfl Try.underlying32 info_int rfl (by decide) (by decide) rfl HOa rfl hEa (by simp) (oneCell_ints [ti]) (by omega) (by simp; omega) ?_; intro A1 c1 w1 hown1 hc1 hb8 _ _)
          have HO2 := Lib.hid hown1
          have hb9 := (hb5.alloc hb5.size (.cells #[.int .i64 ti] 3)).trans hb8
          clear hown1 HOa hEa
          go_roundw
          case rel => exact ⟨i + 1, _, false, by omega, by omega, by go_num, rfl, HT2.out, ⟨A1, c1, by rw [List.length_append]; rfl, by rw [List.length_append, List.map_append]; exact HO2.out⟩, hb9⟩
          case measure => simp [intOf]; omega
    · obtain rfl : i = hi := by omega
      have HE := Lib.hid (HTD.out.end hi1)
      have RR := Lib.hid (RowI.is (w := w) (base := W0.heap.size) ⟨AA, cc, rfl, HO.out⟩ hbw)
      go_wp2_with fail
      go_ret
      rw [← HE.out]
      exact RR.out

end Go.Proofs.Ytpamkbbmbeeheaa
