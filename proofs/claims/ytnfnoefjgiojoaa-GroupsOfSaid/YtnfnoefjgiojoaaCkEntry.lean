/- The contract of colltable.checkEntry: the error of an entry by itself. Plain facts of the errors of entries. -/
import Derived.Test.YtnfnoefjgiojoaaRefGroups
namespace Go.Proofs.Ytnfnoefjgiojoaa
open Go.RowKit Go.Maps Go.WideMaps

section
variable {base : Int} {x : Ent}
theorem firstErr_at {α : Type} {f : α → Int} {l : List α} {k : Nat} (hk : k < l.length) (h0 : ∀ t, (ht : t < l.length) → t < k → f l[t] = 0) (h : f l[k] ≠ 0) : firstErr (l.map f) = f l[k] := by
  induction l generalizing k with
  | nil => simp at hk
  | cons a r ih =>
    cases k with
    | zero =>
      simp only [List.getElem_cons_zero] at *
      simp [firstErr, h]
    | succ k =>
      have := h0 0 (by simp) (by omega)
      simp only [List.getElem_cons_zero] at this
      simp only [List.map_cons, firstErr, this, if_true, List.getElem_cons_succ]
      exact ih (by simpa using hk) (fun t ht h9 => by have := h0 (t + 1) (by simpa using ht) (by omega); simpa using this) (by simpa using h)
theorem firstErr_zero {α : Type} {f : α → Int} {l : List α} (h0 : ∀ t, (ht : t < l.length) → f l[t] = 0) : firstErr (l.map f) = 0 := by
  induction l with
  | nil => rfl
  | cons a r ih =>
    have := h0 0 (by simp)
    simp only [List.getElem_cons_zero] at this
    simp only [List.map_cons, firstErr, this, if_true]
    exact ih fun t ht => by have := h0 (t + 1) (by simpa using ht); simpa using this

def szBad (x : Ent) : Prop := x.codes.length < 1 ∨ 8 < x.codes.length ∨ 16 < x.elems.length
theorem ent2 (h : szBad x) : entErr1 base x = 2 := by unfold szBad at h; unfold entErr1; rw [if_pos h]
theorem ent1 (h : ¬ szBad x) {k : Nat} (hk : k < x.codes.length) (hc : inR 0 1114111 x.codes[k] = false) : entErr1 base x = 1 := by
  unfold szBad at h
  unfold entErr1
  rw [if_neg h, if_pos (anyT hk (by simpa using inR_false.1 hc))]
theorem codes_ok (h : ∀ t, (ht : t < x.codes.length) → inR 0 1114111 x.codes[t] = true) : x.codes.any (fun c => decide (c < 0 ∨ 1114111 < c)) = false := anyF fun t ht => by
  have := inR_iff.1 (h t ht)
  simp; omega
theorem entE (h : ¬ szBad x) (hc : ∀ t, (ht : t < x.codes.length) → inR 0 1114111 x.codes[t] = true) {k : Nat} (hk : k < x.elems.length) (h0 : ∀ t, (ht : t < x.elems.length) → t < k → eltErr x.elems[t] = 0) (he : eltErr x.elems[k] ≠ 0) : entErr1 base x = eltErr x.elems[k] := by
  unfold szBad at h
  unfold entErr1
  rw [if_neg h, if_neg (by rw [codes_ok hc]; simp), firstErr_at hk h0 he, if_pos he]
theorem entP (h : ¬ szBad x) (hc : ∀ t, (ht : t < x.codes.length) → inR 0 1114111 x.codes[t] = true) (h0 : ∀ t, (ht : t < x.elems.length) → eltErr x.elems[t] = 0) {k : Nat} (hk : k < x.elems.length) (he : base ≤ x.elems[k].p) : entErr1 base x = 1 := by
  unfold szBad at h
  unfold entErr1
  rw [if_neg h, if_neg (by rw [codes_ok hc]; simp), firstErr_zero h0, if_neg (by simp), if_pos (anyT hk (by simpa using he))]
theorem ent0 (h : ¬ szBad x) (hc : ∀ t, (ht : t < x.codes.length) → inR 0 1114111 x.codes[t] = true) (h0 : ∀ t, (ht : t < x.elems.length) → eltErr x.elems[t] = 0) (he : ∀ t, (ht : t < x.elems.length) → ¬ base ≤ x.elems[t].p) : entErr1 base x = 0 := by
  unfold szBad at h
  unfold entErr1
  rw [if_neg h, if_neg (by rw [codes_ok hc]; simp), firstErr_zero h0, if_neg (by simp), if_neg (by rw [anyF fun t ht => by simpa using he t ht]; simp)]
end

set_option maxRecDepth 100000 in
set_option maxHeartbeats 8000000 in
theorem ckEntry_any (C : Option Addr) (c : Nat) (E : Option Addr) (d : Nat) (x : Ent) (base : Int) (w : World) (hC : Ints w C x.codes) (hE : Elts w E x.elems) (h1 : x.codes.length ≤ 1048576) (h2 : x.elems.length ≤ 1048576) :
    Calls Try.prog 42 #[.agg #[.slice C x.codes.length c, .slice E x.elems.length d], .int .i64 base] w (RetInt (entErr1 base x) w) := by
  have HSZ := Lib.hid (show szBad x ↔ (x.codes.length < 1 ∨ 8 < x.codes.length ∨ 16 < x.elems.length) from Iff.rfl)
  have HC := Lib.hid hC; have HE := Lib.hid hE
  have B0 : Below w.heap.size w (w.alloc (.cells #[.slice C x.codes.length c, .slice E x.elems.length d] 49)) := (Below.refl _ _).alloc (Nat.le_refl _) _
  clear hC hE
  by_cases hsz : x.codes.length < 1 ∨ 8 < x.codes.length ∨ 16 < x.elems.length
  · have HQ := Lib.hid (ent2 (base := base) (HSZ.out.2 hsz))
    generalize entErr1 base x = R at *
    obtain hsz | ⟨g1, hsz⟩ | ⟨g1, g2, hsz⟩ : x.codes.length < 1 ∨ (¬ x.codes.length < 1 ∧ 8 < x.codes.length) ∨ (¬ x.codes.length < 1 ∧ ¬ 8 < x.codes.length ∧ 16 < x.elems.length) := by omega
    all_goals
      go_enter Try.func42, Try.ntmps42
      go_wp2
      go_ret
      exact ⟨ret_int HQ.out.symm, B0⟩
  · have HSZN := Lib.hid (fun h => hsz (HSZ.out.1 h))
    have z1 : ¬ x.codes.length < 1 := by omega
    have z2 : ¬ 8 < x.codes.length := by omega
    have z3 : ¬ 16 < x.elems.length := by omega
    clear hsz HSZ
    go_enter Try.func42, Try.ntmps42
    go_wp2
    have s0 : (w.alloc (.cells #[.slice C x.codes.length c, .slice E x.elems.length d] 49)).heap.size = w.heap.size + 1 := by simp
    have k1 : (w.alloc (.cells #[.slice C x.codes.length c, .slice E x.elems.length d] 49)).cell? ⟨w.heap.size, 1, none⟩ = some (.slice E x.elems.length d) := by simp
    obtain ⟨W0, hW0⟩ : ∃ W0, w.alloc (.cells #[.slice C x.codes.length c, .slice E x.elems.length d] 49) = W0 := ⟨_, rfl⟩
    rw [hW0] at B0 s0 k1 ⊢
    clear hW0
    have HC0 := Lib.hid (HC.out.below B0); have HE0 := Lib.hid (HE.out.below B0)
    have K := Lib.hid k1
    have hx0 : w.heap.size < W0.heap.size := by omega
    clear HC HE k1 s0
    go_loop [6, 31] (fun _ u => ∃ i : Nat, i ≤ x.codes.length ∧ u = .int .i64 i ∧ (∀ t, (ht : t < x.codes.length) → t < i → inR 0 1114111 x.codes[t] = true)) (fun _ u => x.codes.length - (intOf u).toNat)
    case atStart => exact ⟨0, Nat.zero_le _, rfl, fun t _ h => by omega⟩
    case round =>
      obtain ⟨i, hi, rfl, g1⟩ := hrel
      have G1 := Lib.hid g1; clear g1
      by_cases hlt : i < x.codes.length
      · obtain ⟨b1, o1, rfl, hcell⟩ := HC0.out.at hlt
        have c1 := hcell i hlt
        have HB := Lib.hid (fun h => ent1 (base := base) HSZN.out hlt h)
        have HN := Lib.hid (fun h => all_up (P := fun c => inR 0 1114111 c = true) hlt G1.out h)
        clear hcell
        generalize x.codes[i] = cd at *
        go_wp2_with fail
        refine (cpValid_any cd _).mono ?_
        rintro e w1 ⟨rfl, rfl⟩
        cases hv : inR 0 1114111 cd
        · have HQ := Lib.hid (HB.out hv)
          go_wp2_with fail
          go_ret
          exact ⟨ret_int HQ.out.symm, B0⟩
        · have HQ := Lib.hid (HN.out hv)
          go_wp2_with fail
          go_round
          case rel => exact ⟨i + 1, by omega, by go_num, HQ.out⟩
          case measure => simp [intOf]; omega
      · have G1' := Lib.hid (fun t (ht : t < x.codes.length) => G1.out t ht (by omega))
        clear G1
        have f1 := K.out
        go_wp2
        clear f1
        go_loopw [8, 9, 42] (fun _ _ u wr => ∃ i : Nat, i ≤ x.elems.length ∧ u = .int .i64 i ∧ (∀ t, (ht : t < x.elems.length) → t < i → eltErr x.elems[t] = 0) ∧ Below W0.heap.size W0 wr) (fun _ _ u _ => x.elems.length - (intOf u).toNat)
        case atStart => exact ⟨0, Nat.zero_le _, rfl, fun t _ h => by omega, Below.refl _ _⟩
        case round =>
          obtain ⟨i, hi, rfl, g2, hb⟩ := hrel
          have G2 := Lib.hid g2; clear g2
          by_cases hlt : i < x.elems.length
          · obtain ⟨b1, o1, rfl, hbl, hcell⟩ := (HE0.out.below hb).at hlt
            obtain ⟨c1, c2, c3, c4⟩ := hcell i hlt
            have HB := Lib.hid (fun h => entE (base := base) HSZN.out G1'.out hlt G2.out h)
            have HN := Lib.hid (fun h => all_up (P := fun e => eltErr e = 0) hlt G2.out h)
            have CE := Lib.hid (fun W => eltCheck_any x.elems[i] W)
            clear hcell
            generalize eltErr x.elems[i] = ev at *
            generalize x.elems[i].p = p at *
            generalize x.elems[i].s = s at *
            generalize x.elems[i].t = t at *
            generalize x.elems[i].v = v at *
            go_wp2_with fail
            refine (CE.out _).mono ?_
            rintro e w1 ⟨rfl, hb1⟩
            have hb2 := (hb.alloc hb.size (.cells #[.int .i64 p, .int .i64 s, .int .i64 t, .bool v] 51)).trans (hb1.mono (by have := hb.size; simp; omega))
            clear hb1 c1 c2 c3 c4
            by_cases hz : ev = 0
            · have q1 : (ev != 0) = false := by simpa using hz
              have HQ := Lib.hid (HN.out hz)
              clear hz HB HN
              go_wp2_with fail
              go_roundw
              case rel => exact ⟨i + 1, by omega, by go_num, HQ.out, hb2⟩
              case measure => simp [intOf]; omega
            · have q1 : (ev != 0) = true := by simpa using hz
              have HQ := Lib.hid (HB.out hz)
              clear hz HB HN
              go_wp2_with fail
              go_ret
              exact ⟨ret_int HQ.out.symm, B0.trans (hb2.mono B0.size)⟩
          · have G2' := Lib.hid (fun t (ht : t < x.elems.length) => G2.out t ht (by omega))
            clear G2
            have f1 := (hb.cell (p := ⟨w.heap.size, 1, none⟩) hx0).trans K.out
            go_wp2
            clear f1
            go_loopw [11, 55] (fun _ u wr => ∃ i : Nat, i ≤ x.elems.length ∧ u = .int .i64 i ∧ (∀ t, (ht : t < x.elems.length) → t < i → ¬ base ≤ x.elems[t].p) ∧ Below W0.heap.size W0 wr) (fun _ u _ => x.elems.length - (intOf u).toNat)
            case atStart => exact ⟨0, Nat.zero_le _, rfl, fun t _ h => by omega, hb⟩
            case round =>
              obtain ⟨i, hi, rfl, g3, hb⟩ := hrel
              have G3 := Lib.hid g3; clear g3
              by_cases hlt : i < x.elems.length
              · obtain ⟨b1, o1, rfl, hbl, hcell⟩ := (HE0.out.below hb).at hlt
                obtain ⟨c1, c2, c3, c4⟩ := hcell i hlt
                have HB := Lib.hid (fun h => entP (base := base) HSZN.out G1'.out G2'.out hlt h)
                have HN := Lib.hid (fun h => all_up (P := fun e => ¬ base ≤ e.p) hlt G3.out h)
                clear hcell
                generalize x.elems[i].p = p at *
                generalize x.elems[i].s = s at *
                generalize x.elems[i].t = t at *
                generalize x.elems[i].v = v at *
                by_cases hz : base ≤ p
                · have HQ := Lib.hid (HB.out hz)
                  clear HB HN
                  go_wp2
                  go_ret
                  exact ⟨ret_int HQ.out.symm, B0.trans ((hb.alloc hb.size _).mono B0.size)⟩
                · have HQ := Lib.hid (HN.out hz)
                  clear HB HN
                  go_wp2
                  go_roundw
                  case rel => exact ⟨i + 1, by omega, by go_num, HQ.out, hb.alloc hb.size _⟩
                  case measure => simp [intOf]; omega
              · have HQ := Lib.hid (ent0 (base := base) HSZN.out G1'.out G2'.out (fun t ht => G3.out t ht (by omega)))
                go_wp2
                go_ret
                exact ⟨ret_int HQ.out.symm, B0.trans (hb.mono B0.size)⟩

end Go.Proofs.Ytnfnoefjgiojoaa
