/- The contract of colltable.made: the table of a collation. Written by gen_made.py. -/
import Derived.Test.YtnfnoefjgiojoaaTab
import Derived.RegionTactic
namespace Go.Proofs.Ytnfnoefjgiojoaa
open Go.RowKit Go.Maps Go.WideMaps

/-- the codes of a valid collation's entries -/
theorem ents_ok {base : Int} {es : List Ent} {p : Option Ent} (h : entsErr base es p = 0) : ∀ x ∈ es, entErr1 base x = 0 := by
  induction es generalizing p with
  | nil => intro x hx; cases hx
  | cons y r ih =>
    intro x hx
    unfold entsErr at h
    by_cases h1 : entErr1 base y = 0
    · rcases List.mem_cons.1 hx with rfl | hx
      · exact h1
      · simp only [h1, ne_eq, not_true_eq_false, if_false] at h
        cases p with
        | none => exact ih h x hx
        | some z =>
          simp only at h
          split at h
          · cases h
          · exact ih h x hx
    · rw [if_pos h1] at h; exact absurd h h1
theorem ent_codes {base : Int} {x : Ent} (h : entErr1 base x = 0) : 1 ≤ x.codes.length ∧ x.codes.length ≤ 8 ∧ x.elems.length ≤ 16 ∧ ∀ z ∈ x.codes, 0 ≤ z ∧ z ≤ 1114111 := by
  unfold entErr1 at h
  split at h
  · cases h
  · next h1 =>
    split at h
    · cases h
    · next h2 =>
      refine ⟨by omega, by omega, by omega, fun z hz => ?_⟩
      simp at h2
      exact h2 z hz
theorem col_ents {c : Col} (h : colErr c = 0) : entsErr c.base c.ents none = 0 := by
  unfold colErr at h
  split at h
  · cases h
  · split at h
    · next h1 => exact absurd h h1
    · exact h
theorem codes_kok {base : Int} {x : Ent} (h : entErr1 base x = 0) : kok x.codes := by
  obtain ⟨_, h8, _, hz⟩ := ent_codes h
  exact ⟨h8, fun z hz' => by have := hz z hz'; exact wf_small (by omega) (by omega)⟩
theorem codes_at {c : Col} (h : colErr c = 0) {i : Nat} (hi : i < c.ents.length) : kok c.ents[i].codes ∧ 1 ≤ c.ents[i].codes.length ∧ c.ents[i].codes.length ≤ 8 := by
  have := ents_ok (col_ents h) _ (List.getElem_mem hi)
  exact ⟨codes_kok this, (ent_codes this).1, (ent_codes this).2.1⟩

set_option maxRecDepth 100000 in
set_option maxHeartbeats 6400000 in
theorem made_ok (A : Option Addr) (n a : Nat) (B : Option Addr) (m b : Nat) (c : Col) (w : World) (h : ColAt w A n B m c) (hz : ColSz c) (he : colErr c = 0) :
    Calls Try.prog 56 #[colV A n a B m b c] w (RetTab c w) := by
  have B0 : Below w.heap.size w (w.alloc (.cells #[.slice A n a, .slice B m b, .int .i64 c.base, .int .i64 c.second, .int .i64 c.third] 25)) := (Below.refl _ _).alloc (Nat.le_refl _) _
  have s0 : (w.alloc (.cells #[.slice A n a, .slice B m b, .int .i64 c.base, .int .i64 c.second, .int .i64 c.third] 25)).heap.size = w.heap.size + 1 := by simp
  have k0 : (w.alloc (.cells #[.slice A n a, .slice B m b, .int .i64 c.base, .int .i64 c.second, .int .i64 c.third] 25)).cell? ⟨w.heap.size, 0, none⟩ = some (.slice A n a) := by simp
  have k1 : (w.alloc (.cells #[.slice A n a, .slice B m b, .int .i64 c.base, .int .i64 c.second, .int .i64 c.third] 25)).cell? ⟨w.heap.size, 1, none⟩ = some (.slice B m b) := by simp
  have k2 : (w.alloc (.cells #[.slice A n a, .slice B m b, .int .i64 c.base, .int .i64 c.second, .int .i64 c.third] 25)).cell? ⟨w.heap.size, 2, none⟩ = some (.int .i64 c.base) := by simp
  have k3 : (w.alloc (.cells #[.slice A n a, .slice B m b, .int .i64 c.base, .int .i64 c.second, .int .i64 c.third] 25)).cell? ⟨w.heap.size, 3, none⟩ = some (.int .i64 c.second) := by simp
  have k4 : (w.alloc (.cells #[.slice A n a, .slice B m b, .int .i64 c.base, .int .i64 c.second, .int .i64 c.third] 25)).cell? ⟨w.heap.size, 4, none⟩ = some (.int .i64 c.third) := by simp
  have W0E : ∃ W0, w.alloc (.cells #[.slice A n a, .slice B m b, .int .i64 c.base, .int .i64 c.second, .int .i64 c.third] 25) = W0 := ⟨_, rfl⟩
  have CK := Lib.hid (fun W (hb : Below w.heap.size w W) => ckColl_any A n a B m b c W (h.below hb) hz)
  have HC := Lib.hid h
  have HE := Lib.hid h.ents
  have hn := h.hn
  have hnz := hz.n
  have HCD := Lib.hid (fun i hi => codes_at he (i := i) hi)
  have HER := Lib.hid he
  have LB := Lib.hid (fun i => longE_bd (es := c.ents.take i) (k := 8) (fun x hx => (ent_codes (ents_ok (col_ents he) x (List.mem_of_mem_take hx))).2.1))
  have hmm := @run_makeMap Try.prog
  clear h hz he
  unfold colV at *
  subst hn
  go_enter Try.func56, Try.ntmps56
  go_wp2_with fail
  obtain ⟨W0, hW0⟩ := W0E
  rw [hW0] at B0 s0 k0 k1 k2 k3 k4 ⊢
  clear hW0
  have hx0 : w.heap.size < W0.heap.size := by omega
  with_reducible refine (CK.out W0 B0).mono ?_
  rw [HER.out]
  rintro e W1 ⟨rfl, hb1⟩
  clear CK
  have hb2 := B0.trans (hb1.mono B0.size)
  have f0 := (hb1.cell (p := ⟨w.heap.size, 0, none⟩) hx0).trans k0
  have f1 := (hb1.cell (p := ⟨w.heap.size, 1, none⟩) hx0).trans k1
  have f2 := (hb1.cell (p := ⟨w.heap.size, 2, none⟩) hx0).trans k2
  have f3 := (hb1.cell (p := ⟨w.heap.size, 3, none⟩) hx0).trans k3
  have f4 := (hb1.cell (p := ⟨w.heap.size, 4, none⟩) hx0).trans k4
  have hx1 : w.heap.size < W1.heap.size := by have := hb1.size; omega
  have hx2 : ¬ w.heap.size = W1.heap.size := by omega
  have hx3 : ¬ w.heap.size = W1.heap.size + 1 := by omega
  have KC := Lib.hid (And.intro f0 (And.intro f1 (And.intro f2 (And.intro f3 f4))))
  clear k0 k1 k2 k3 k4
  have B2 : Below W1.heap.size W1 ((W1.alloc (.map #[] 0)).alloc (.cells #[.slice A c.ents.length a, .slice B m b, .int .i64 c.base, .int .i64 c.second, .int .i64 c.third, .map (some W1.heap.size), .int .i64 0, .slice none 0 0, .int .i64 0] 94)) := ((Below.refl _ _).alloc (Nat.le_refl _) _).alloc (by simp) _
  have X2 : Box ((W1.alloc (.map #[] 0)).alloc (.cells #[.slice A c.ents.length a, .slice B m b, .int .i64 c.base, .int .i64 c.second, .int .i64 c.third, .map (some W1.heap.size), .int .i64 0, .slice none 0 0, .int .i64 0] 94)) (W1.heap.size + 1) 94 (tabCells A c.ents.length a B m b c W1.heap.size (0) (.slice none 0 0) 0) := Box.new _ _ _ (by simp)
  have M2 : MapIs Try.prog 96 klit kok ((W1.alloc (.map #[] 0)).alloc (.cells #[.slice A c.ents.length a, .slice B m b, .int .i64 c.base, .int .i64 c.second, .int .i64 c.third, .map (some W1.heap.size), .int .i64 0, .slice none 0 0, .int .i64 0] 94)) W1.heap.size 0 (fun _ => none) := (MapIs.made Try.prog _ klit kok W1).alloc _
  have s2 : ((W1.alloc (.map #[] 0)).alloc (.cells #[.slice A c.ents.length a, .slice B m b, .int .i64 c.base, .int .i64 c.second, .int .i64 c.third, .map (some W1.heap.size), .int .i64 0, .slice none 0 0, .int .i64 0] 94)).heap.size = W1.heap.size + 2 := by simp
  have W2E : ∃ W2, (W1.alloc (.map #[] 0)).alloc (.cells #[.slice A c.ents.length a, .slice B m b, .int .i64 c.base, .int .i64 c.second, .int .i64 c.third, .map (some W1.heap.size), .int .i64 0, .slice none 0 0, .int .i64 0] 94) = W2 := ⟨_, rfl⟩
  go_wp2_with fail
  obtain ⟨W2, hW2⟩ := W2E
  rw [hW2] at B2 X2 M2 s2 ⊢
  clear hW2 f0 f1 f2 f3 f4
  have HX2 := Lib.hid X2
  have HM2 := Lib.hid M2
  clear X2 M2 hmm
  have L0 := Lib.hid (show longE (c.ents.take 0) = 0 from rfl)
  go_loopw [5, 17] (fun _ u wr => ∃ (i : Nat) (f : List Int → Option Value), i ≤ c.ents.length ∧ u = .int .i64 i ∧ Box wr (W1.heap.size + 1) 94 (tabCells A c.ents.length a B m b c W1.heap.size (longE (c.ents.take i)) (.slice none 0 0) 0) ∧ MapIs Try.prog 96 klit kok wr W1.heap.size i f ∧ TabF W1 f (c.ents.take i) ∧ Below W1.heap.size W1 wr) (fun _ u _ => c.ents.length - (intOf u).toNat)
  case atStart => exact ⟨0, fun _ => none, Nat.zero_le _, rfl, HX2.out, HM2.out, by rw [List.take_zero]; exact TabF.nil _, B2⟩
  case round =>
    obtain ⟨i, f, hi, rfl, hX, hM, hT, hbr⟩ := hrel
    have HX := Lib.hid hX; have HM := Lib.hid hM; have HT := Lib.hid hT
    have hXl := hX.lt
    clear hX hM hT HX2 HM2 L0
    by_cases hlt : i < c.ents.length
    · obtain ⟨b1, o1, rfl, hbl, hcell⟩ := (HE.out.below hb2).at hlt
      obtain ⟨C, cc, E, dd, c1', c2', hC, hE⟩ := hcell i hlt
      obtain ⟨hkok, hl1, hl8⟩ := HCD.out i hlt
      have c1 := (hbr.cell (p := ⟨b1, o1 + i * 2, none⟩) hbl).trans c1'
      have c2 := (hbr.cell (p := ⟨b1, o1 + i * 2 + 1, none⟩) hbl).trans c2'
      have HKK := Lib.hid hkok
      have HINT := Lib.hid (fun W (hb : Below W1.heap.size W1 W) => hC.below hb)
      have LS := Lib.hid (longE_take hlt)
      have lb := LB.out i
      have lb1 := LB.out (i + 1)
      have TP := Lib.hid (HT.out.put hlt (E := E) (d := dd) hE)
      have hbl2 : b1 < wr.heap.size := Nat.lt_of_lt_of_le hbl hbr.size
      have hn1 : ¬ b1 = wr.heap.size := by omega
      clear hcell hkok hC hE c1' c2' HT
      generalize c.ents[i].codes = cds at *
      generalize c.ents[i].elems = els at *
      have Ba : Below wr.heap.size wr (wr.alloc (.cells #[.slice C cds.length cc, .slice E els.length dd] 49)) := (Below.refl _ _).alloc (Nat.le_refl _) _
      have Xa : Box (wr.alloc (.cells #[.slice C cds.length cc, .slice E els.length dd] 49)) wr.heap.size 49 [.slice C cds.length cc, .slice E els.length dd] := Box.new _ _ _ rfl
      have sa : (wr.alloc (.cells #[.slice C cds.length cc, .slice E els.length dd] 49)).heap.size = wr.heap.size + 1 := by simp
      have WaE : ∃ Wa, wr.alloc (.cells #[.slice C cds.length cc, .slice E els.length dd] 49) = Wa := ⟨_, rfl⟩
      go_wp2_with fail
      obtain ⟨Wa, hWa⟩ := WaE
      rw [hWa] at Ba Xa sa ⊢
      clear hWa c1 c2
      have XT := HX.out.below Ba hXl
      have t5 := XT.cell (i := 5) (v := .map (some W1.heap.size)) rfl
      have e0 := Xa.cell (i := 0) rfl
      have e1 := Xa.cell (i := 1) rfl
      have HXT := Lib.hid XT; have HXA := Lib.hid Xa
      have hba := hbr.trans (Ba.mono hbr.size)
      have KY := Lib.hid ((keyOf_any C cds.length cc cds Wa.drew (HINT.out _ hba.drew) rfl hl1 hl8).mono (R' := fun e w' => e = .returned (keyV cds) ∧ (w'.cell? ⟨W1.heap.size + 1, 5, none⟩ = some (.map (some W1.heap.size)) ∧ w'.cell? ⟨wr.heap.size, 0, none⟩ = some (.slice C cds.length cc) ∧ w'.cell? ⟨wr.heap.size, 1, none⟩ = some (.slice E els.length dd)) ∧ Below Wa.heap.size Wa w') (fun e w' ⟨he, hb⟩ => by
        have hb' : Below Wa.heap.size Wa w' := ((Below.refl _ Wa).drew).trans hb
        exact ⟨he, ⟨(hb'.cell (p := ⟨W1.heap.size + 1, 5, none⟩) (show W1.heap.size + 1 < _ by omega)).trans t5, (hb'.cell (p := ⟨wr.heap.size, 0, none⟩) (show wr.heap.size < _ by omega)).trans e0, (hb'.cell (p := ⟨wr.heap.size, 1, none⟩) (show wr.heap.size < _ by omega)).trans e1⟩, hb'⟩))
      clear XT Xa
      refine wp_region_held_drew (S := fun W' => W'.cell? ⟨W1.heap.size + 1, 5, none⟩ = some (.map (some W1.heap.size)) ∧ W'.cell? ⟨wr.heap.size, 0, none⟩ = some (.slice C cds.length cc) ∧ W'.cell? ⟨wr.heap.size, 1, none⟩ = some (.slice E els.length dd)) (by kernel_rfl) ⟨t5, e0, e1⟩ (fun hHeld => ?_)
      refine anyH_take (i := 0) (v := ?_) (some 21) rfl rfl (by kernel_rfl) (by kernel_rfl) (by kernel_rfl) (fun _ _ _ h => h) (by rfl) (by assumption) ?_ ?_
      rotate_left
      · intro w hSw; (try dsimp only at hSw); go_split_ands; go_simp; try (with_reducible rfl)
      try simp only [Act.put, List.setIfInBounds_toArray, List.set_cons_zero, List.set_cons_succ]
      refine anyH_take (i := 1) (v := ?_) (some 22) rfl rfl (by kernel_rfl) (by kernel_rfl) (by kernel_rfl) (fun _ _ _ h => h) (by rfl) (by assumption) ?_ ?_
      rotate_left
      · intro w hSw; (try dsimp only at hSw); go_split_ands; go_simp; try (with_reducible rfl)
      try simp only [Act.put, List.setIfInBounds_toArray, List.set_cons_zero, List.set_cons_succ]
      refine anyH_take (i := 2) (v := ?_) (some 23) rfl rfl (by kernel_rfl) (by kernel_rfl) (by kernel_rfl) (fun _ _ _ h => h) (by rfl) (by assumption) ?_ ?_
      rotate_left
      · intro w hSw; (try dsimp only at hSw); go_split_ands; go_simp; try (with_reducible rfl)
      try simp only [Act.put, List.setIfInBounds_toArray, List.set_cons_zero, List.set_cons_succ]
      refine anyH_take (i := 3) (v := ?_) (some 24) rfl rfl (by kernel_rfl) (by kernel_rfl) (by kernel_rfl) (fun _ _ _ h => h) (by rfl) (by assumption) ?_ ?_
      rotate_left
      · intro w hSw; (try dsimp only at hSw); go_split_ands; go_simp; try (with_reducible rfl)
      try simp only [Act.put, List.setIfInBounds_toArray, List.set_cons_zero, List.set_cons_succ]
      refine anyH_take (i := 4) (v := ?_) (some 25) rfl rfl (by kernel_rfl) (by kernel_rfl) (by kernel_rfl) (fun _ _ _ h => h) (by rfl) (by assumption) ?_ ?_
      rotate_left
      · intro w hSw; (try dsimp only at hSw); go_split_ands; go_simp; try (with_reducible rfl)
      try simp only [Act.put, List.setIfInBounds_toArray, List.set_cons_zero, List.set_cons_succ]
      refine anyH_take (i := 5) (v := ?_) (some 26) rfl rfl (by kernel_rfl) (by kernel_rfl) (by kernel_rfl) (fun _ _ _ h => h) (by rfl) (by assumption) ?_ ?_
      rotate_left
      · intro w hSw; (try dsimp only at hSw); go_split_ands; go_simp; try (with_reducible rfl)
      try simp only [Act.put, List.setIfInBounds_toArray, List.set_cons_zero, List.set_cons_succ]
      refine anyH_take (i := 7) (v := ?_) (some 28) rfl rfl (by kernel_rfl) (by kernel_rfl) (by kernel_rfl) (fun _ _ _ h => h) (by rfl) (by assumption) ?_ ?_
      rotate_left
      · intro w hSw; (try dsimp only at hSw); go_split_ands; go_simp; try (with_reducible rfl)
      try simp only [Act.put, List.setIfInBounds_toArray, List.set_cons_zero, List.set_cons_succ]
      refine anyH_take (i := 8) (v := ?_) (some 29) rfl rfl (by kernel_rfl) (by kernel_rfl) (by kernel_rfl) (fun _ _ _ h => h) (by rfl) (by assumption) ?_ ?_
      rotate_left
      · intro w hSw; (try dsimp only at hSw); go_split_ands; go_simp; try (with_reducible rfl)
      try simp only [Act.put, List.setIfInBounds_toArray, List.set_cons_zero, List.set_cons_succ]
      refine anyH_callR (R := fun W' => Below Wa.heap.size Wa W') (i := 6) (some 27) rfl rfl (by kernel_rfl) (by rfl) (by go_simp) KY.out (fun w6 hS6 hR6 => ?_)
      clear hHeld KY
      have hHeld := hS6
      clear hS6
      try simp only [Act.put, List.setIfInBounds_toArray, List.set_cons_zero, List.set_cons_succ]
      have hwb := Ba.trans (hR6.mono Ba.size)
      refine anyH_mput (val := .slice E els.length dd) (i := 9) none rfl rfl (by kernel_rfl) (by rfl) _ _ _ _ rfl (HM.out.below hwb) law_key Try.underlying91 (by unfold maxLen; omega) rfl rfl rfl HKK.out (key_some HKK.out) (fun y hy e => klit_inj hy HKK.out e) (fun w' hg => ?_) (fun w7 hM7 hg7 => ?_)
      · have h6 := hR6.size
        exact ⟨(World.cell?_of_block (hg.block (W1.heap.size + 1) (by omega) (by simp))).trans hHeld.1, (World.cell?_of_block (hg.block wr.heap.size (by omega) (by simp; omega))).trans hHeld.2.1, (World.cell?_of_block (hg.block wr.heap.size (by omega) (by simp; omega))).trans hHeld.2.2⟩
      refine wpAnyH_done (by kernel_rfl) ?_ _
      have h6 := hR6.size
      have hb7 := below_grown (hba.trans (hR6.mono (by omega : W1.heap.size ≤ Wa.heap.size))) hg7 (Nat.le_refl _) (by omega)
      have X7 := (HXT.out.below hR6 (by omega)).grown hg7 (by simp)
      have Y7 := (HXA.out.below hR6 (by omega)).grown hg7 (by simp; omega)
      have HX7 := Lib.hid X7
      have HM7 := Lib.hid hM7
      have t6 := X7.cell (i := 6) (v := .int .i64 (longE (c.ents.take i))) rfl
      have z6 := X7.free 6
      have u0 := Y7.cell (i := 0) rfl
      have g7 := hg7.size
      clear X7 Y7 hM7 hg7 HM HX HXT HXA hHeld t5 e0 e1
      generalize longE (c.ents.take i) = l0 at *
      go_wp2_with fail
      go_region
      all_goals
        go_wp2_with fail
        go_roundw
        case rel =>
          have e : (if l0 < (cds.length : Int) then (cds.length : Int) else l0) = longE (c.ents.take (i + 1)) := by rw [LS.out]; split <;> omega
          refine ⟨i + 1, _, by omega, by go_num, ?_, (HM7.out.kept (grown_set _ _ _) (by simp)).below ((Below.refl _ _).drew), TP.out, (hb7.setCell (p := ⟨W1.heap.size + 1, 6, none⟩) (by show W1.heap.size ≤ W1.heap.size + 1; omega) _).drew⟩
          rw [e]
          exact HX7.out.set 6 _
        case measure => simp [intOf]; omega
    · obtain rfl : i = c.ents.length := by omega
      have hXX := HX.out
      have hTT := HT.out
      rw [List.take_length] at hXX hTT
      have HXX := Lib.hid hXX
      have HTT := Lib.hid hTT
      clear hXX hTT HT HX
      go_wp2_with fail
      go_ret
      exact ⟨W1.heap.size + 1, rfl, by omega, ⟨A, c.ents.length, a, B, m, b, W1.heap.size, _, _, HXX.out, HC.out.below (hb2.trans (hbr.mono hb2.size)), HM.out, HTT.out.below hbr⟩, hb2.trans (hbr.mono hb2.size)⟩

end Go.Proofs.Ytnfnoefjgiojoaa
