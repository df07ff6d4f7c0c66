/- Contracts of colltable.Check and of the reference's entry and Check: the first error of a collation. -/
import Derived.Test.YtnfnoefjgiojoaaCkEntry
import Derived.Test.YtnfnoefjgiojoaaCompare
import Derived.Test.YtnfnoefjgiojoaaCmp
namespace Go.Proofs.Ytnfnoefjgiojoaa
open Go.RowKit Go.Maps Go.WideMaps

/-- the entry in front -/
def prevE (es : List Ent) : Nat → Option Ent
  | 0 => none
  | j + 1 => es[j]?
/-- the error of entry i -/
def entI (base : Int) (es : List Ent) (i : Nat) : Int :=
  match es[i]? with
  | none => 0
  | some x => if entErr1 base x ≠ 0 then entErr1 base x else match prevE es i with
    | none => 0
    | some y => if 0 ≤ cmpL y.codes x.codes then 4 else 0

theorem ents_step (base : Int) (es : List Ent) (i : Nat) (hi : i < es.length) :
    entsErr base (es.drop i) (prevE es i) = if entI base es i ≠ 0 then entI base es i else entsErr base (es.drop (i + 1)) (prevE es (i + 1)) := by
  rw [List.drop_eq_getElem_cons hi]
  unfold entI
  rw [List.getElem?_eq_getElem hi]
  have hp : prevE es (i + 1) = some es[i] := List.getElem?_eq_getElem hi
  rw [hp]
  simp only [entsErr]
  by_cases h1 : entErr1 base es[i] = 0
  · simp only [h1, ne_eq, not_true_eq_false, if_false]
    cases prevE es i with
    | none => simp
    | some y =>
      simp only
      by_cases h2 : 0 ≤ cmpL y.codes es[i].codes
      · simp [h2]
      · simp [h2]
  · simp [h1]
theorem ents_end (base : Int) (es : List Ent) (i : Nat) (hi : es.length ≤ i) : entsErr base (es.drop i) (prevE es i) = 0 := by
  rw [List.drop_eq_nil_of_le hi]; rfl

section
variable {base : Int} {es : List Ent} {i : Nat}
theorem entI_1 (hi : i < es.length) (h : entErr1 base es[i] ≠ 0) : entI base es i = entErr1 base es[i] := by
  unfold entI; rw [List.getElem?_eq_getElem hi]; simp [h]
theorem entI_0 (hi : 0 < es.length) (h : entErr1 base es[0] = 0) : entI base es 0 = 0 := by
  unfold entI; rw [List.getElem?_eq_getElem hi]; simp [h, prevE]
theorem entI_4 (hi : i + 1 < es.length) (h : entErr1 base es[i + 1] = 0) (h4 : 0 ≤ cmpL es[i].codes es[i + 1].codes) : entI base es (i + 1) = 4 := by
  unfold entI; rw [List.getElem?_eq_getElem hi]; simp [h, prevE, List.getElem?_eq_getElem (show i < es.length by omega), h4]
theorem entI_ok (hi : i + 1 < es.length) (h : entErr1 base es[i + 1] = 0) (h4 : ¬ 0 ≤ cmpL es[i].codes es[i + 1].codes) : entI base es (i + 1) = 0 := by
  unfold entI; rw [List.getElem?_eq_getElem hi]; simp [h, prevE, List.getElem?_eq_getElem (show i < es.length by omega), h4]
end

/-- bounds on the sizes -/
structure ColSz (c : Col) : Prop where
  e : ∀ i, (hi : i < c.ents.length) → c.ents[i].codes.length ≤ 1048576 ∧ c.ents[i].elems.length ≤ 1048576
  n : c.ents.length ≤ 1048576
  m : c.grps.length ≤ 1048576

section
variable {c : Col}
theorem col1 (h : c.base < 1 ∨ 65502 < c.base ∨ inR 1 65535 c.second = false ∨ inR 1 65535 c.third = false) : colErr c = 1 := by unfold colErr; rw [if_pos h]
theorem colG (h : ¬ (c.base < 1 ∨ 65502 < c.base ∨ inR 1 65535 c.second = false ∨ inR 1 65535 c.third = false)) (hg : grpErr c.base c.grps ≠ 0) : colErr c = grpErr c.base c.grps := by
  unfold colErr; rw [if_neg h, if_pos hg]
theorem colE (h : ¬ (c.base < 1 ∨ 65502 < c.base ∨ inR 1 65535 c.second = false ∨ inR 1 65535 c.third = false)) (hg : grpErr c.base c.grps = 0) : colErr c = entsErr c.base c.ents none := by
  unfold colErr; rw [if_neg h, if_neg (by simpa using hg)]
end

set_option maxRecDepth 100000 in
set_option maxHeartbeats 8000000 in
theorem ckColl_any (A : Option Addr) (n a : Nat) (B : Option Addr) (m b : Nat) (c : Col) (w : World) (h : ColAt w A n B m c) (hz : ColSz c) :
    Calls Try.prog 23 #[colV A n a B m b c] w (RetInt (colErr c) w) := by
  have B0 : Below w.heap.size w (w.alloc (.cells #[.slice A n a, .slice B m b, .int .i64 c.base, .int .i64 c.second, .int .i64 c.third] 25)) := (Below.refl _ _).alloc (Nat.le_refl _) _
  have H1 := Lib.hid (col1 (c := c))
  have HG := Lib.hid (colG (c := c))
  have HE := Lib.hid (colE (c := c))
  have CG := Lib.hid (fun W (hb : Below w.heap.size w W) (h65 : c.base ≤ 65502) => ckGroups_any A n a B m b c W (h.below hb) h65 (by rw [← h.hm]; exact hz.m))
  obtain ⟨es, gs, base, second, third⟩ := c
  dsimp only at *
  unfold colV at *
  dsimp only at *
  have CI := Lib.hid isWeight_any
  have HEN := Lib.hid h.ents
  have hnn := h.hn
  have HSZ := Lib.hid hz
  dsimp only at hnn
  subst hnn
  clear h hz
  by_cases q1 : base < 1
  · have HQ := Lib.hid (H1.out (.inl q1))
    go_enter Try.func23, Try.ntmps23
    go_wp2_with fail
    go_ret
    exact ⟨ret_int HQ.out.symm, B0⟩
  · by_cases q2 : 65502 < base
    · have HQ := Lib.hid (H1.out (.inr (.inl q2)))
      go_enter Try.func23, Try.ntmps23
      go_wp2_with fail
      go_ret
      exact ⟨ret_int HQ.out.symm, B0⟩
    · cases q3 : inR 1 65535 second
      · have HQ := Lib.hid (H1.out (.inr (.inr (.inl q3))))
        go_enter Try.func23, Try.ntmps23
        go_wp2_with fail
        refine (CI.out second _).mono ?_
        rw [q3]; rintro e w' ⟨rfl, rfl⟩
        go_wp2_with fail
        go_ret
        exact ⟨ret_int HQ.out.symm, B0⟩
      · cases q4 : inR 1 65535 third
        · have HQ := Lib.hid (H1.out (.inr (.inr (.inr q4))))
          go_enter Try.func23, Try.ntmps23
          go_wp2_with fail
          refine (CI.out second _).mono ?_
          rw [q3]; rintro e w' ⟨rfl, rfl⟩
          go_wp2_with fail
          refine (CI.out third _).mono ?_
          rw [q4]; rintro e w' ⟨rfl, rfl⟩
          go_wp2_with fail
          go_ret
          exact ⟨ret_int HQ.out.symm, B0⟩
        · have hno : ¬ (base < 1 ∨ 65502 < base ∨ inR 1 65535 second = false ∨ inR 1 65535 third = false) := by rw [q3, q4]; simp; omega
          have HG' := Lib.hid (HG.out hno); have HE' := Lib.hid (HE.out hno)
          clear HG HE H1 hno
          go_enter Try.func23, Try.ntmps23
          go_wp2_with fail
          refine (CI.out second _).mono ?_
          rw [q3]; rintro e w' ⟨rfl, rfl⟩
          go_wp2_with fail
          refine (CI.out third _).mono ?_
          rw [q4]; rintro e w' ⟨rfl, rfl⟩
          go_wp2_with fail
          have s0 : (w.alloc (.cells #[.slice A es.length a, .slice B m b, .int .i64 base, .int .i64 second, .int .i64 third] 25)).heap.size = w.heap.size + 1 := by simp
          have k0 : (w.alloc (.cells #[.slice A es.length a, .slice B m b, .int .i64 base, .int .i64 second, .int .i64 third] 25)).cell? ⟨w.heap.size, 0, none⟩ = some (.slice A es.length a) := by simp
          have k2 : (w.alloc (.cells #[.slice A es.length a, .slice B m b, .int .i64 base, .int .i64 second, .int .i64 third] 25)).cell? ⟨w.heap.size, 2, none⟩ = some (.int .i64 base) := by simp
          obtain ⟨W0, hW0⟩ : ∃ W0, w.alloc (.cells #[.slice A es.length a, .slice B m b, .int .i64 base, .int .i64 second, .int .i64 third] 25) = W0 := ⟨_, rfl⟩
          rw [hW0] at B0 s0 k0 k2 ⊢
          clear hW0
          have HEN0 := Lib.hid (HEN.out.below B0)
          have K := Lib.hid (And.intro k0 k2)
          have hx0 : w.heap.size < W0.heap.size := by omega
          clear HEN k0 k2 s0 q3 q4 CI
          refine (CG.out W0 B0 (by omega)).mono ?_
          rintro e W1 ⟨rfl, hb1⟩
          clear CG
          by_cases hgz : grpErr base gs = 0
          · have g1 : (grpErr base gs != 0) = false := by simpa using hgz
            have HQ := Lib.hid (HE'.out hgz)
            clear hgz HG' HE'
            generalize grpErr base gs = ge at *
            generalize colErr ⟨es, gs, base, second, third⟩ = R at *
            have f0 := (hb1.cell (p := ⟨w.heap.size, 0, none⟩) hx0).trans K.out.1
            go_wp2_with fail
            clear f0
            go_loopw [4, 5, 6, 35] (fun _ _ _ u wr => ∃ i : Nat, i ≤ es.length ∧ u = .int .i64 i ∧ entsErr base es none = entsErr base (es.drop i) (prevE es i) ∧ Below W0.heap.size W0 wr) (fun _ _ _ u _ => es.length - (intOf u).toNat)
            case atStart => exact ⟨0, Nat.zero_le _, rfl, rfl, hb1⟩
            case round =>
              obtain ⟨i, hi, rfl, hen, hb⟩ := hrel
              have HEE := Lib.hid hen; clear hen hb1
              by_cases hlt : i < es.length
              · obtain ⟨b1, o1, rfl, hbl, hcell⟩ := (HEN0.out.below hb).at hlt
                obtain ⟨C, cc, E, d, c1, c2, hC, hE⟩ := hcell i hlt
                obtain ⟨z1, z2⟩ := HSZ.out.e i hlt
                dsimp only at z1 z2
                have f2 := (hb.cell (p := ⟨w.heap.size, 2, none⟩) hx0).trans K.out.2
                have f0 := (hb.cell (p := ⟨w.heap.size, 0, none⟩) hx0).trans K.out.1
                have hx1 : w.heap.size < wr.heap.size := by have := hb.size; omega
                have hnz : es.length ≤ 1048576 := HSZ.out.n
                have ST := Lib.hid (ents_step base es i hlt)
                have E1 := Lib.hid (fun h => entI_1 (base := base) hlt h)
                have HPV := Lib.hid (show 0 < i → ∃ D dd, wr.cell? ⟨b1, o1 + (i - 1) * 2, none⟩ = some (.slice D (es[i - 1]'(by omega)).codes.length dd) ∧ Ints wr D (es[i - 1]'(by omega)).codes ∧ (es[i - 1]'(by omega)).codes.length ≤ 1048576 ∧ (entErr1 base es[i] = 0 → (0 ≤ cmpL (es[i - 1]'(by omega)).codes es[i].codes → entI base es i = 4) ∧ (¬ 0 ≤ cmpL (es[i - 1]'(by omega)).codes es[i].codes → entI base es i = 0)) from fun hp => by
                  obtain ⟨j, rfl⟩ : ∃ j, i = j + 1 := ⟨i - 1, by omega⟩
                  obtain ⟨D, dd, _, _, e1, _, e3, _⟩ := hcell j (by omega)
                  exact ⟨D, dd, e1, e3, (HSZ.out.e j (show j < es.length by omega)).1, fun hz => ⟨fun h => entI_4 hlt hz h, fun h => entI_ok hlt hz h⟩⟩)
                have HP0 := Lib.hid (show ¬ 0 < i → entErr1 base es[i] = 0 → entI base es i = 0 from fun hp hz => by
                  obtain rfl : i = 0 := by omega
                  exact entI_0 hlt hz)
                have CE := Lib.hid (fun W (hb' : Below wr.heap.size wr W) => ckEntry_any C cc E d es[i] base W (hC.below hb') (hE.below hb') z1 z2)
                clear hcell hE
                generalize entErr1 base es[i] = ev at *
                generalize es[i].elems = els at *
                generalize es[i].codes = cds at *
                generalize entI base es i = ei at *
                have hal : Below wr.heap.size wr (wr.alloc (.cells #[.slice C cds.length cc, .slice E els.length d] 49)) := (Below.refl _ _).alloc (Nat.le_refl _) _
                have m0 : (wr.alloc (.cells #[.slice C cds.length cc, .slice E els.length d] 49)).cell? ⟨wr.heap.size, 0, none⟩ = some (.slice C cds.length cc) := by simp
                have HAL := Lib.hid (And.intro hal m0)
                clear hal m0
                go_wp2_with fail
                refine (CE.out _ HAL.out.1).mono ?_
                rintro e w3 ⟨rfl, hb3⟩
                have hb4 := HAL.out.1.trans (hb3.mono (by simp))
                have hb5 := hb.trans (hb4.mono hb.size)
                have m1 := (hb3.cell (p := ⟨wr.heap.size, 0, none⟩) (by simp)).trans HAL.out.2
                have f0' := (hb5.cell (p := ⟨w.heap.size, 0, none⟩) hx0).trans K.out.1
                clear HAL hb3 CE c1 c2 f0 f2
                by_cases hev : ev = 0
                · have e1 : (ev != 0) = false := by simpa using hev
                  by_cases hp : 0 < i
                  · obtain ⟨D, dd, d1, hD, z3, hcmp⟩ := HPV.out hp
                    have HCMP := Lib.hid (hcmp hev)
                    have d1' := (hb4.cell (p := ⟨b1, o1 + (i - 1) * 2, none⟩) (World.block_lt_of_cell? wr _ d1)).trans d1
                    have CC := Lib.hid (fun n => cpCompare_any D C _ _ dd cc _ cds (w3.drewN n) (Sl.drewN (hD.below hb4) n) (Sl.drewN (hC.below hb4) n) rfl rfl (by omega) (by omega))
                    clear hcmp hev E1 HPV HP0 hD d1
                    generalize (es[i - 1]'(by omega)).codes = pcs at *
                    generalize cmpL pcs cds = cv at *
                    have i1 : (0 : Int) ≤ (i : Int) - 1 := by omega
                    have i2 : (i : Int) - 1 < (es.length : Int) := by omega
                    have i3 : ((i : Int) - 1).toNat = i - 1 := by omega
                    have w1 : IntKind.i64.wrap ((i : Int) - 1) = (i : Int) - 1 := IntWalk.i64_in _ (by omega)
                    by_cases hcv : 0 ≤ cv
                    · have q9 : decide (0 ≤ cv) = true := by simpa using hcv
                      have HV := Lib.hid (HCMP.out.1 (by omega))
                      clear hcv HCMP
                      go_wp2_with fail
                      go_quiet ((go_at_call 43; exact quiet_qt (CC.out _)))
                      clear i3 w1
                      go_wp2_with fail
                      go_ret
                      exact ⟨ret_int (by rw [HQ.out, HEE.out, ST.out, HV.out]; rfl), B0.trans ((below_drewN hb5 _).mono B0.size)⟩
                    · have q9 : decide (0 ≤ cv) = false := by simpa using hcv
                      have HV := Lib.hid (HCMP.out.2 (by omega))
                      clear hcv HCMP
                      go_wp2_with fail
                      go_quiet ((go_at_call 43; exact quiet_qt (CC.out _)))
                      clear i3 w1
                      go_wp2_with fail
                      go_roundw
                      case rel => exact ⟨i + 1, by omega, by go_num, by rw [HEE.out, ST.out, HV.out]; rfl, below_drewN hb5 _⟩
                      case measure => simp [intOf]; omega
                  · have hp0 : decide ((0 : Int) < (i : Int)) = false := by simp; omega
                    have HV := Lib.hid (HP0.out hp hev)
                    clear hev E1 HPV HP0
                    go_wp2_with fail
                    go_quiet (fail)
                    go_wp2_with fail
                    go_roundw
                    case rel => exact ⟨i + 1, by omega, by go_num, by rw [HEE.out, ST.out, HV.out]; rfl, below_drewN hb5 _⟩
                    case measure => simp [intOf]; omega
                · have e1 : (ev != 0) = true := by simpa using hev
                  have HV := Lib.hid (E1.out hev)
                  have HZ := Lib.hid hev
                  clear hev E1 HPV HP0
                  go_wp2_with fail
                  go_ret
                  exact ⟨ret_int (by rw [HQ.out, HEE.out, ST.out, HV.out, if_pos HZ.out]), B0.trans (hb5.mono B0.size)⟩
              · have HF := Lib.hid (ents_end base es i (by omega))
                go_wp2
                go_ret
                exact ⟨ret_int (by rw [HQ.out, HEE.out, HF.out]), B0.trans (hb.mono B0.size)⟩
          · have g1 : (grpErr base gs != 0) = true := by simpa using hgz
            have HQ := Lib.hid (HG'.out hgz)
            clear hgz HG' HE'
            generalize grpErr base gs = ge at *
            go_wp2_with fail
            go_ret
            exact ⟨ret_int HQ.out.symm, B0.trans (hb1.mono B0.size)⟩

end Go.Proofs.Ytnfnoefjgiojoaa
