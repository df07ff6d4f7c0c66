/- Texts that are merged into one file: MapCk, RefMap. -/
import Derived.Test.YtjglanjfgbipmaaDoorG03
import Derived.Test.YtjglanjfgbipmaaDoorG04
import Derived.Test.YtjglanjfgbipmaaDoorG06
/- Contracts of mapping.parts and mapping.Check: the first error of mappings. Written by gen_mapck.py. -/
namespace Go.Proofs.YtjglanjfgbipmaaDoor
open Go.RowKit Go.Maps Go.WideMaps

section
variable {ms : List Mp}
theorem parts1 {k : Nat} (hk : k < ms.length) (h : mpBad ms[k] = true) : partsErr ms = 1 := by unfold partsErr; rw [if_pos (anyT hk h)]
theorem parts2 (h1 : ∀ t, (ht : t < ms.length) → mpBad ms[t] = false) {k : Nat} (hk : k < ms.length) (h : 64 < ms[k].to.length) : partsErr ms = 2 := by
  unfold partsErr; rw [if_neg (by rw [anyF h1]; simp), if_pos (anyT hk (by simpa using h))]
theorem parts6 (h1 : ∀ t, (ht : t < ms.length) → mpBad ms[t] = false) (h2 : ∀ t, (ht : t < ms.length) → ¬ 64 < ms[t].to.length) {k : Nat} (hk : k < ms.length) (h : tagBad ms[k] = true) : partsErr ms = 6 := by
  unfold partsErr; rw [if_neg (by rw [anyF h1]; simp), if_neg (by rw [anyF (fun t ht => by simpa using h2 t ht)]; simp), if_pos (anyT hk h)]
theorem parts0 (h1 : ∀ t, (ht : t < ms.length) → mpBad ms[t] = false) (h2 : ∀ t, (ht : t < ms.length) → ¬ 64 < ms[t].to.length) (h3 : ∀ t, (ht : t < ms.length) → tagBad ms[t] = false) : partsErr ms = 0 := by
  unfold partsErr; rw [if_neg (by rw [anyF h1]; simp), if_neg (by rw [anyF (fun t ht => by simpa using h2 t ht)]; simp), if_neg (by rw [anyF h3]; simp)]
theorem parts_ok (h : partsErr ms = 0) : ∀ m ∈ ms, mpBad m = false ∧ m.to.length ≤ 64 ∧ tagBad m = false := by
  unfold partsErr at h
  split at h
  · cases h
  · next h1 =>
    split at h
    · cases h
    · next h2 =>
      split at h
      · cases h
      · next h3 =>
        intro m hm
        simp only [Bool.not_eq_true, List.any_eq_false] at h1 h2 h3
        have a := h1 m hm
        have b := h2 m hm
        have c := h3 m hm
        refine ⟨by simpa using a, ?_, by simpa using c⟩
        simp at b
        exact b
end
theorem mpBad_from {m : Mp} (h : inR 0 1114111 m.frm = false) : mpBad m = true := by unfold mpBad; rw [h]; rfl
theorem mpBad_to {m : Mp} {k : Nat} (hk : k < m.to.length) (h : inR 0 1114111 m.to[k] = false) : mpBad m = true := by
  unfold mpBad
  rw [Bool.or_eq_true]
  right
  exact anyT hk (by rw [h]; rfl)
theorem mpBad_no {m : Mp} (h0 : inR 0 1114111 m.frm = true) (h : ∀ t, (ht : t < m.to.length) → inR 0 1114111 m.to[t] = true) : mpBad m = false := by
  unfold mpBad
  rw [h0, anyF (fun t ht => by rw [h t ht]; rfl)]
  rfl
theorem mpBad_facts {m : Mp} (h : mpBad m = false) : (0 ≤ m.frm ∧ m.frm ≤ 1114111) ∧ ∀ z ∈ m.to, 0 ≤ z ∧ z ≤ 1114111 := by
  unfold mpBad at h
  rw [Bool.or_eq_false_iff] at h
  refine ⟨inR_iff.1 (by simpa using h.1), fun z hz => ?_⟩
  have := List.any_eq_false.1 h.2 z hz
  exact inR_iff.1 (by simpa using this)
theorem tagBad_facts {m : Mp} (h : tagBad m = false) : m.tag.size ≤ 32 := by
  unfold tagBad at h
  by_cases h0 : m.tag.size = 0
  · omega
  · have : nameOk m.tag = true := by simpa [h0] using h
    unfold nameOk at this
    simp at this
    omega
theorem tagBad_empty {m : Mp} (h : m.tag.size = 0) : tagBad m = false := by unfold tagBad; simp [h]
theorem tagBad_name {m : Mp} (h : ¬ m.tag.size = 0) : tagBad m = !nameOk m.tag := by unfold tagBad; simp [h]

set_option maxRecDepth 100000 in
set_option maxHeartbeats 6400000 in
theorem parts_any (A : Option Addr) (n a : Nat) (ms : List Mp) (w : World) (hA : Mps w A ms) (hn : ms.length = n) (hz : MpsSz ms) :
    Calls Tryd.prog 49 #[.slice A n a] w (RetInt (partsErr ms) w) := by
  subst hn
  have HA := Lib.hid hA
  have hnz := hz.n
  have HZ := Lib.hid hz.e
  have P1 := Lib.hid (fun k hk h => parts1 (ms := ms) (k := k) hk h)
  have P2 := Lib.hid (fun h1 k hk h => parts2 (ms := ms) h1 (k := k) hk h)
  have P6 := Lib.hid (fun h1 h2 k hk h => parts6 (ms := ms) h1 h2 (k := k) hk h)
  have P0 := Lib.hid (parts0 (ms := ms))
  clear hA hz
  generalize partsErr ms = R at *
  go_enter Tryd.func49, Tryd.ntmps49
  go_wp2_with fail
  go_loopw [13] (fun u wr => ∃ i : Nat, i ≤ ms.length ∧ u = .int .i64 i ∧ (∀ t, (ht : t < ms.length) → t < i → mpBad ms[t] = false) ∧ Below w.heap.size w wr) (fun u _ => ms.length - (intOf u).toNat)
  case atStart => exact ⟨0, Nat.zero_le _, rfl, fun t _ h => by omega, Below.refl _ _⟩
  case round =>
    obtain ⟨i, hi, rfl, hno, hbr⟩ := hrel
    have HNO := Lib.hid hno
    clear hno
    by_cases hlt : i < ms.length
    · obtain ⟨b1, o1, rfl, hbl, hcell⟩ := (HA.out.below hbr).at hlt
      obtain ⟨C, cc, c0, c1, c2, hcc, hC⟩ := hcell i hlt
      obtain ⟨z1, z2⟩ := HZ.out i hlt
      have HB := Lib.hid (fun h => P1.out i hlt h)
      have HN := Lib.hid (fun h => all_up (P := fun m => mpBad m = false) hlt HNO.out h)
      clear hcell
      generalize ms[i] = mi at *
      have M0 := Lib.hid (mpBad_from (m := mi))
      have M1 := Lib.hid (fun k hk h => mpBad_to (m := mi) (k := k) hk h)
      have M2 := Lib.hid (mpBad_no (m := mi))
      generalize mpBad mi = bd at *
      obtain ⟨mf, mt, mg⟩ := mi
      dsimp only at *
      have Ba : Below wr.heap.size wr (wr.alloc (.cells #[.int .i64 mf, .slice C mt.length cc, .string mg] 40)) := (Below.refl _ _).alloc (Nat.le_refl _) _
      have HCa := Lib.hid (hC.below Ba)
      have hb2 := hbr.trans (Ba.mono hbr.size)
      have e1 : (wr.alloc (.cells #[.int .i64 mf, .slice C mt.length cc, .string mg] 40)).cell? ⟨wr.heap.size, 1, none⟩ = some (.slice C mt.length cc) := by simp
      have E1 := Lib.hid e1
      have WaE : ∃ Wa, (wr.alloc (.cells #[.int .i64 mf, .slice C mt.length cc, .string mg] 40)) = Wa := ⟨_, rfl⟩
      clear hC e1
      cases hv : inR 0 1114111 mf with
      | false =>
        obtain rfl := M0.out hv
        have HR := Lib.hid (HB.out rfl)
        go_wp2_with (go_at_call 35; refine (cpValid_any mf _).mono ?_; rw [hv]; rintro e w' ⟨rfl, rfl⟩)
        go_ret
        exact ⟨ret_int HR.out.symm, hb2⟩
      | true =>
        go_wp2_with (go_at_call 35; refine (cpValid_any mf _).mono ?_; rw [hv]; rintro e w' ⟨rfl, rfl⟩)
        obtain ⟨Wa, hWa⟩ := WaE
        rw [hWa] at Ba HCa hb2 E1 ⊢
        clear hWa c0 c1 c2
        obtain ⟨wr0, rfl⟩ : ∃ wr0 : World, wr0 = wr := ⟨_, rfl⟩
        go_loop [24] (fun u => ∃ k : Nat, k ≤ mt.length ∧ u = .int .i64 k ∧ (∀ t, (ht : t < mt.length) → t < k → inR 0 1114111 mt[t] = true)) (fun u => mt.length - (intOf u).toNat)
        case atStart => exact ⟨0, Nat.zero_le _, rfl, fun t _ h => by omega⟩
        case round =>
          obtain ⟨k, hk, rfl, hok⟩ := hrel
          have HOK := Lib.hid hok
          clear hok
          by_cases hltk : k < mt.length
          · obtain ⟨b2, o2, rfl, hc2⟩ := HCa.out.at hltk
            have d0 := hc2 k hltk
            have HBK := Lib.hid (fun h => M1.out k hltk h)
            have HNK := Lib.hid (fun h => all_up (P := fun z => inR 0 1114111 z = true) hltk HOK.out h)
            clear hc2
            generalize mt[k] = z at *
            cases hvz : inR 0 1114111 z with
            | false =>
              obtain rfl := HBK.out hvz
              have HR := Lib.hid (HB.out rfl)
              go_wp2_with (go_at_call 35; refine (cpValid_any z _).mono ?_; rw [hvz]; rintro e w' ⟨rfl, rfl⟩)
              go_ret
              exact ⟨ret_int HR.out.symm, hb2⟩
            | true =>
              have HQ := Lib.hid (HNK.out hvz)
              go_wp2_with (go_at_call 35; refine (cpValid_any z _).mono ?_; rw [hvz]; rintro e w' ⟨rfl, rfl⟩)
              go_round
              case rel => exact ⟨k + 1, by omega, by go_num, HQ.out⟩
              case measure => simp [intOf]; omega
          · obtain rfl := M2.out hv (fun t ht => HOK.out t ht (by omega))
            have HQ := Lib.hid (HN.out rfl)
            go_wp2_with fail
            go_roundw
            case rel => exact ⟨i + 1, by omega, by go_num, HQ.out, hb2⟩
            case measure => simp [intOf]; omega
    · have H1 := Lib.hid (fun t (ht : t < ms.length) => HNO.out t ht (by omega))
      clear HNO P1
      go_wp2_with fail
      go_loopw [35] (fun u wr => ∃ i : Nat, i ≤ ms.length ∧ u = .int .i64 i ∧ (∀ t, (ht : t < ms.length) → t < i → ¬ 64 < ms[t].to.length) ∧ Below w.heap.size w wr) (fun u _ => ms.length - (intOf u).toNat)
      case atStart => exact ⟨0, Nat.zero_le _, rfl, fun t _ h => by omega, hbr⟩
      case round =>
        obtain ⟨i, hi, rfl, hno, hbr⟩ := hrel
        have HNO := Lib.hid hno
        clear hno
        by_cases hlt : i < ms.length
        · obtain ⟨b1, o1, rfl, hbl, hcell⟩ := (HA.out.below hbr).at hlt
          obtain ⟨C, cc, c0, c1, c2, hcc, hC⟩ := hcell i hlt
          obtain ⟨z1, z2⟩ := HZ.out i hlt
          have HB := Lib.hid (fun h => P2.out H1.out i hlt h)
          have HN := Lib.hid (fun h => all_up (P := fun m : Mp => ¬ 64 < m.to.length) hlt HNO.out h)
          clear hcell hC
          generalize ms[i] = mi at *
          obtain ⟨mf, mt, mg⟩ := mi
          dsimp only at *
          have hb2 := hbr.trans (((Below.refl wr.heap.size wr).alloc (Nat.le_refl _) (.cells #[.int .i64 mf, .slice C mt.length cc, .string mg] 40)).mono hbr.size)
          by_cases h64 : 64 < mt.length
          · have q1 : decide ((64 : Int) < (mt.length : Int)) = true := by simp; omega
            obtain rfl := HB.out h64
            go_wp2_with fail
            go_ret
            exact ⟨rfl, hb2⟩
          · have q1 : decide ((64 : Int) < (mt.length : Int)) = false := by simp; omega
            have HQ := Lib.hid (HN.out h64)
            go_wp2_with fail
            go_roundw
            case rel => exact ⟨i + 1, by omega, by go_num, HQ.out, hb2⟩
            case measure => simp [intOf]; omega
        · have H2 := Lib.hid (fun t (ht : t < ms.length) => HNO.out t ht (by omega))
          clear HNO P2
          go_wp2_with fail
          go_loopw [46] (fun u wr => ∃ i : Nat, i ≤ ms.length ∧ u = .int .i64 i ∧ (∀ t, (ht : t < ms.length) → t < i → tagBad ms[t] = false) ∧ Below w.heap.size w wr) (fun u _ => ms.length - (intOf u).toNat)
          case atStart => exact ⟨0, Nat.zero_le _, rfl, fun t _ h => by omega, hbr⟩
          case round =>
            obtain ⟨i, hi, rfl, hno, hbr⟩ := hrel
            have HNO := Lib.hid hno
            clear hno
            by_cases hlt : i < ms.length
            · obtain ⟨b1, o1, rfl, hbl, hcell⟩ := (HA.out.below hbr).at hlt
              obtain ⟨C, cc, c0, c1, c2, hcc, hC⟩ := hcell i hlt
              obtain ⟨z1, z2⟩ := HZ.out i hlt
              have HB := Lib.hid (fun h => P6.out H1.out H2.out i hlt h)
              have HN := Lib.hid (fun h => all_up (P := fun m : Mp => tagBad m = false) hlt HNO.out h)
              clear hcell hC
              generalize ms[i] = mi at *
              have T0 := Lib.hid (tagBad_empty (m := mi))
              have T1 := Lib.hid (tagBad_name (m := mi))
              generalize tagBad mi = tb at *
              obtain ⟨mf, mt, mg⟩ := mi
              dsimp only at *
              have hb2 := hbr.trans (((Below.refl wr.heap.size wr).alloc (Nat.le_refl _) (.cells #[.int .i64 mf, .slice C mt.length cc, .string mg] 40)).mono hbr.size)
              by_cases hg : mg.size = 0
              · have g0 : mg.toList = [] := str_nil hg
                have HQ := Lib.hid (HN.out (T0.out hg))
                clear T0 T1 HB HN
                go_wp2_with fail
                go_roundw
                case rel => exact ⟨i + 1, by omega, by go_num, HQ.out, hb2⟩
                case measure => simp [intOf]; omega
              · have g0 : ¬ mg.toList = [] := str_cons hg
                have g1 : mg.toList.isEmpty = false := by simpa using g0
                have hT := T1.out hg
                cases hnm : nameOk mg with
                | true =>
                  rw [hnm] at hT
                  have HQ := Lib.hid (HN.out hT)
                  clear hT T0 T1 HB HN
                  go_wp2_with (go_at_call 62; refine (mapName_any mg _ z2).mono ?_; rw [hnm]; rintro e w' ⟨rfl, rfl⟩)
                  go_roundw
                  case rel => exact ⟨i + 1, by omega, by go_num, HQ.out, hb2⟩
                  case measure => simp [intOf]; omega
                | false =>
                  rw [hnm] at hT
                  obtain rfl := HB.out hT
                  clear hT T0 T1 HB HN
                  go_wp2_with (go_at_call 62; refine (mapName_any mg _ z2).mono ?_; rw [hnm]; rintro e w' ⟨rfl, rfl⟩)
                  go_ret
                  exact ⟨rfl, hb2⟩
            · obtain rfl := P0.out H1.out H2.out (fun t ht => HNO.out t ht (by omega))
              go_wp2_with fail
              go_ret
              exact ⟨rfl, hbr⟩

theorem ascM_take {ms : List Mp} {i : Nat} (h1 : 1 ≤ i) (hi : i < ms.length) : ascM (ms.take (i + 1)) = (ascM (ms.take i) && decide (cmpM (ms[i - 1]'(by omega)) ms[i] < 0)) := by
  induction ms generalizing i with
  | nil => simp at hi
  | cons a r ih =>
    cases r with
    | nil => simp at hi; omega
    | cons b r =>
      by_cases e : i = 1
      · subst e; simp [ascM]
      · obtain ⟨j, rfl⟩ : ∃ j, i = j + 2 := ⟨i - 2, by omega⟩
        have := ih (i := j + 1) (by omega) (by simpa using hi)
        simp only [List.take_succ_cons, ascM] at this ⊢
        rw [this, Bool.and_assoc]
        simp
theorem ascM_one {ms : List Mp} {i : Nat} (h : i ≤ 1) : ascM (ms.take i) = true := by
  match i, ms with
  | 0, _ => rfl
  | 1, [] => rfl
  | 1, _ :: _ => rfl
section
variable {ms : List Mp}
theorem mapP (h : partsErr ms ≠ 0) : mapErr ms = partsErr ms := by unfold mapErr; rw [if_pos h]
theorem map0 (h : partsErr ms = 0) (ha : ascM ms = true) : mapErr ms = 0 := by unfold mapErr; rw [if_neg (by simpa using h), if_pos ha]
theorem map5 (h : partsErr ms = 0) (ha : ascM ms = false) (hd : ¬ (ms.map keyM).Nodup) : mapErr ms = 5 := by unfold mapErr; rw [if_neg (by simpa using h), if_neg (by simp [ha]), if_neg hd]
theorem map4 (h : partsErr ms = 0) (ha : ascM ms = false) (hd : (ms.map keyM).Nodup) : mapErr ms = 4 := by unfold mapErr; rw [if_neg (by simpa using h), if_neg (by simp [ha]), if_pos hd]
def kms (ms : List Mp) (k : Nat) : List (Int × ByteArray) := (ms.take k).map keyM
theorem kms_succ {k : Nat} (hk : k < ms.length) : kms ms (k + 1) = kms ms k ++ [keyM ms[k]] := by
  unfold kms; rw [List.take_succ_eq_append_getElem hk, List.map_append]; rfl
theorem kms_dup {k : Nat} (hk : k < ms.length) (h : keyM ms[k] ∈ kms ms k) : ¬ (ms.map keyM).Nodup := by
  intro hn
  have hs : (kms ms (k + 1)).Sublist (ms.map keyM) := by unfold kms; exact (List.take_sublist _ _).map _
  have h1 := hn.sublist hs
  rw [kms_succ hk, List.nodup_append] at h1
  exact h1.2.2 _ h _ (List.mem_singleton.2 rfl) rfl
theorem kms_nodup {k : Nat} (hk : k < ms.length) (hn : (kms ms k).Nodup) (h : keyM ms[k] ∉ kms ms k) : (kms ms (k + 1)).Nodup := by
  rw [kms_succ hk, List.nodup_append]
  refine ⟨hn, by simp, fun a ha b hb e => ?_⟩
  rw [List.mem_singleton] at hb
  subst hb; subst e
  exact h ha
theorem key_mok {m : Mp} (h1 : mpBad m = false) (h2 : tagBad m = false) : mok (keyM m) := by
  have a := (mpBad_facts h1).1
  have b := tagBad_facts h2
  refine ⟨?_, by unfold maxLen; show m.tag.size ≤ _; omega⟩
  exact wf_small (by show _ ≤ m.frm; omega) (by show m.frm ≤ _; omega)
end

set_option maxRecDepth 100000 in
set_option maxHeartbeats 6400000 in
theorem mapCheck_any (A : Option Addr) (n a : Nat) (ms : List Mp) (w : World) (hA : Mps w A ms) (hn : ms.length = n) (hz : MpsSz ms) :
    Calls Tryd.prog 31 #[.slice A n a] w (RetInt (mapErr ms) w) := by
  subst hn
  have PC := Lib.hid (parts_any A ms.length a ms w hA rfl hz)
  have HA := Lib.hid hA
  have hnz := hz.n
  have EP := Lib.hid (mapP (ms := ms))
  have E0 := Lib.hid (map0 (ms := ms))
  have E4 := Lib.hid (map4 (ms := ms))
  have E5 := Lib.hid (map5 (ms := ms))
  have OKS := Lib.hid (parts_ok (ms := ms))
  have hmm := @run_makeMap Tryd.prog
  clear hA hz
  generalize mapErr ms = R at *
  generalize partsErr ms = pe at *
  go_enter Tryd.func31, Tryd.ntmps31
  go_wp2_with fail
  with_reducible refine PC.out.mono ?_
  rintro e W1 ⟨rfl, hb1⟩
  clear PC
  by_cases hpe : pe = 0
  rotate_left
  · have q1 : (pe != 0) = true := by simpa using hpe
    obtain rfl := EP.out hpe
    clear hpe EP E0 E4 E5
    go_wp2_with fail
    go_ret
    exact ⟨rfl, hb1⟩
  have q1 : (pe != 0) = false := by simpa using hpe
  have E0' := Lib.hid (E0.out hpe)
  have E4' := Lib.hid (E4.out hpe)
  have E5' := Lib.hid (E5.out hpe)
  have OK := Lib.hid (fun i (hi : i < ms.length) => OKS.out hpe ms[i] (List.getElem_mem hi))
  have A1 := Lib.hid (ascM_one (ms := ms) (i := 1) (by omega))
  clear EP E0 E4 E5 OKS hpe
  go_wp2_with fail
  go_loopw [4, 5] (fun v u wr => ∃ i : Nat, 1 ≤ i ∧ (i ≤ ms.length ∨ i = 1) ∧ u = .int .i64 i ∧ v = .bool (ascM (ms.take i)) ∧ Below w.heap.size w wr) (fun _ u _ => ms.length - (intOf u).toNat)
  case atStart => exact ⟨1, by omega, .inr rfl, rfl, by rw [A1.out], hb1⟩
  case round =>
    obtain ⟨i, hi1, hi2, rfl, rfl, hbr⟩ := hrel
    by_cases hlt : i < ms.length
    · obtain ⟨b1, o1, rfl, hbl, hcell⟩ := (HA.out.below hbr).at hlt
      obtain ⟨C, cc, c0, c1, c2, _, _⟩ := hcell i hlt
      obtain ⟨D, dd, d0, d1, d2, _, _⟩ := hcell (i - 1) (by omega)
      have HT := Lib.hid (ascM_take hi1 hlt)
      have MC := Lib.hid (fun W => mapCompare_any (ms[i - 1]'(by omega)) ms[i] (.slice D (ms[i - 1]'(by omega)).to.length dd) (.slice C ms[i].to.length cc) W)
      clear hcell
      generalize cmpM (ms[i - 1]'(by omega)) ms[i] = cv at *
      generalize (ms[i - 1]'(by omega)) = ma at *
      generalize ms[i] = mb at *
      obtain ⟨af, al', ag⟩ := ma
      obtain ⟨bf, bl'', bg⟩ := mb
      dsimp only at *
      generalize al'.length = al at *
      generalize bl''.length = bl' at *
      have i1 : (0 : Int) ≤ (i : Int) - 1 := by omega
      have i2 : (i : Int) - 1 < (ms.length : Int) := by omega
      have i3 : ((i : Int) - 1).toNat = i - 1 := by omega
      have i4 : (i : Int) < (ms.length : Int) := by omega
      have i5 : (0 : Int) ≤ (i : Int) := by omega
      have i6 : (1 : Int) ≤ (i : Int) := by omega
      have w1 : IntKind.i64.wrap ((i : Int) - 1) = (i : Int) - 1 := IntWalk.i64_in _ (by omega)
      have KS := Lib.hid (show ∀ W', Below wr.heap.size wr W' → W'.cell? ⟨b1, o1 + (i - 1) * 3, none⟩ = some (.int .i64 af) ∧ W'.cell? ⟨b1, o1 + (i - 1) * 3 + 1, none⟩ = some (.slice D al dd) ∧ W'.cell? ⟨b1, o1 + (i - 1) * 3 + 2, none⟩ = some (.string ag) ∧ W'.cell? ⟨b1, o1 + i * 3, none⟩ = some (.int .i64 bf) ∧ W'.cell? ⟨b1, o1 + i * 3 + 1, none⟩ = some (.slice C bl' cc) ∧ W'.cell? ⟨b1, o1 + i * 3 + 2, none⟩ = some (.string bg) ∧ Below wr.heap.size wr W' from fun W' hb => ⟨(hb.cell (p := ⟨b1, o1 + (i - 1) * 3, none⟩) hbl).trans d0, (hb.cell (p := ⟨b1, o1 + (i - 1) * 3 + 1, none⟩) hbl).trans d1, (hb.cell (p := ⟨b1, o1 + (i - 1) * 3 + 2, none⟩) hbl).trans d2, (hb.cell (p := ⟨b1, o1 + i * 3, none⟩) hbl).trans c0, (hb.cell (p := ⟨b1, o1 + i * 3 + 1, none⟩) hbl).trans c1, (hb.cell (p := ⟨b1, o1 + i * 3 + 2, none⟩) hbl).trans c2, hb⟩)
      have MC1 := Lib.hid (fun W' (hb : Below wr.heap.size wr W') => (MC.out W').mono (R' := fun e W' => e = .returned (.int .i64 cv) ∧ (W'.cell? ⟨b1, o1 + (i - 1) * 3, none⟩ = some (.int .i64 af) ∧ W'.cell? ⟨b1, o1 + (i - 1) * 3 + 1, none⟩ = some (.slice D al dd) ∧ W'.cell? ⟨b1, o1 + (i - 1) * 3 + 2, none⟩ = some (.string ag) ∧ W'.cell? ⟨b1, o1 + i * 3, none⟩ = some (.int .i64 bf) ∧ W'.cell? ⟨b1, o1 + i * 3 + 1, none⟩ = some (.slice C bl' cc) ∧ W'.cell? ⟨b1, o1 + i * 3 + 2, none⟩ = some (.string bg) ∧ Below wr.heap.size wr W')) (fun e w' ⟨he, hb'⟩ => ⟨he, KS.out w' (hb.trans (hb'.mono hb.size))⟩))
      go_wp2_with fail
      refine wp_region_held_drew (S := fun W' => W'.cell? ⟨b1, o1 + (i - 1) * 3, none⟩ = some (.int .i64 af) ∧ W'.cell? ⟨b1, o1 + (i - 1) * 3 + 1, none⟩ = some (.slice D al dd) ∧ W'.cell? ⟨b1, o1 + (i - 1) * 3 + 2, none⟩ = some (.string ag) ∧ W'.cell? ⟨b1, o1 + i * 3, none⟩ = some (.int .i64 bf) ∧ W'.cell? ⟨b1, o1 + i * 3 + 1, none⟩ = some (.slice C bl' cc) ∧ W'.cell? ⟨b1, o1 + i * 3 + 2, none⟩ = some (.string bg) ∧ Below wr.heap.size wr W') (by kernel_rfl) (KS.out _ (Below.refl _ _).drew) (fun hHeld => ?_)
      refine anyH_take (i := 0) (v := ?_) (some 20) rfl rfl (by kernel_rfl) (by kernel_rfl) (by kernel_rfl) (fun _ _ _ h => h) (by rfl) (by assumption) ?_ ?_
      rotate_left
      · intro w hSw; (try dsimp only at hSw); go_split_ands; go_simp; try (with_reducible rfl)
      try simp only [Act.put, List.setIfInBounds_toArray, List.set_cons_zero, List.set_cons_succ]
      refine anyH_take (i := 1) (v := ?_) (some 21) rfl rfl (by kernel_rfl) (by kernel_rfl) (by kernel_rfl) (fun _ _ _ h => h) (by rfl) (by assumption) ?_ ?_
      rotate_left
      · intro w hSw; (try dsimp only at hSw); go_split_ands; go_simp; try (with_reducible rfl)
      try simp only [Act.put, List.setIfInBounds_toArray, List.set_cons_zero, List.set_cons_succ]
      refine anyH_take (i := 2) (v := ?_) (some 22) rfl rfl (by kernel_rfl) (by kernel_rfl) (by kernel_rfl) (fun _ _ _ h => h) (by rfl) (by assumption) ?_ ?_
      rotate_left
      · intro w hSw; (try dsimp only at hSw); go_split_ands; go_simp; try (with_reducible rfl)
      try simp only [Act.put, List.setIfInBounds_toArray, List.set_cons_zero, List.set_cons_succ]
      refine anyH_take (i := 3) (v := ?_) (some 23) rfl rfl (by kernel_rfl) (by kernel_rfl) (by kernel_rfl) (fun _ _ _ h => h) (by rfl) (by assumption) ?_ ?_
      rotate_left
      · intro w hSw; (try dsimp only at hSw); go_split_ands; go_simp; try (with_reducible rfl)
      try simp only [Act.put, List.setIfInBounds_toArray, List.set_cons_zero, List.set_cons_succ]
      refine anyH_take (i := 4) (v := ?_) (some 24) rfl rfl (by kernel_rfl) (by kernel_rfl) (by kernel_rfl) (fun _ _ _ h => h) (by rfl) (by assumption) ?_ ?_
      rotate_left
      · intro w hSw; (try dsimp only at hSw); go_split_ands; go_simp; try (with_reducible rfl)
      try simp only [Act.put, List.setIfInBounds_toArray, List.set_cons_zero, List.set_cons_succ]
      refine anyH_take (i := 5) (v := ?_) (some 25) rfl rfl (by kernel_rfl) (by kernel_rfl) (by kernel_rfl) (fun _ _ _ h => h) (by rfl) (by assumption) ?_ ?_
      rotate_left
      · intro w hSw; (try dsimp only at hSw); go_split_ands; go_simp; try (with_reducible rfl)
      try simp only [Act.put, List.setIfInBounds_toArray, List.set_cons_zero, List.set_cons_succ]
      refine anyH_take (i := 6) (v := ?_) (some 26) rfl rfl (by kernel_rfl) (by kernel_rfl) (by kernel_rfl) (fun _ _ _ h => h) (by rfl) (by assumption) ?_ ?_
      rotate_left
      · intro w hSw; (try dsimp only at hSw); go_split_ands; go_simp; try (with_reducible rfl)
      try simp only [Act.put, List.setIfInBounds_toArray, List.set_cons_zero, List.set_cons_succ]
      refine anyH_take (i := 7) (v := ?_) (some 27) rfl rfl (by kernel_rfl) (by kernel_rfl) (by kernel_rfl) (fun _ _ _ h => h) (by rfl) (by assumption) ?_ ?_
      rotate_left
      · intro w hSw; (try dsimp only at hSw); go_split_ands; go_simp; try (with_reducible rfl)
      try simp only [Act.put, List.setIfInBounds_toArray, List.set_cons_zero, List.set_cons_succ]
      refine anyH_take (i := 8) (v := ?_) (some 28) rfl rfl (by kernel_rfl) (by kernel_rfl) (by kernel_rfl) (fun _ _ _ h => h) (by rfl) (by assumption) ?_ ?_
      rotate_left
      · intro w hSw; (try dsimp only at hSw); go_split_ands; go_simp; try (with_reducible rfl)
      try simp only [Act.put, List.setIfInBounds_toArray, List.set_cons_zero, List.set_cons_succ]
      refine anyH_call (i := 9) (some 29) rfl rfl (by kernel_rfl) (by rfl) (by go_simp) (MC1.out _ hHeld.2.2.2.2.2.2) (fun W3 hS6 => ?_)
      clear hHeld
      have hHeld := hS6
      clear hS6
      try simp only [Act.put, List.setIfInBounds_toArray, List.set_cons_zero, List.set_cons_succ]
      refine anyH_take (i := 10) (v := ?_) (some 30) rfl rfl (by kernel_rfl) (by kernel_rfl) (by kernel_rfl) (fun _ _ _ h => h) (by rfl) (by assumption) ?_ ?_
      rotate_left
      · intro w hSw; (try dsimp only at hSw); go_split_ands; go_simp; try (with_reducible rfl)
      try simp only [Act.put, List.setIfInBounds_toArray, List.set_cons_zero, List.set_cons_succ]
      refine wpAnyH_done (by kernel_rfl) ?_ _
      have Bp := hHeld.2.2.2.2.2.2
      have hb2 := hbr.trans (Bp.mono hbr.size)
      clear hHeld c0 c1 c2 d0 d1 d2 KS MC MC1 i1 i2 i3 i4 i5 i6 w1
      by_cases hcv : 0 ≤ cv
      · have q9 : decide (0 ≤ cv) = true := by simpa using hcv
        have ht := HT.out
        rw [show decide (cv < 0) = false by simp; omega, Bool.and_false] at ht
        have HF := Lib.hid ht
        clear ht HT
        go_wp2_with fail
        go_roundw
        case rel => exact ⟨i + 1, by omega, .inl (by omega), by go_num, by rw [HF.out], hb2⟩
        case measure => simp [intOf]; omega
      · have q9 : decide (0 ≤ cv) = false := by simpa using hcv
        have ht := HT.out
        rw [show decide (cv < 0) = true by simp; omega, Bool.and_true] at ht
        have HF := Lib.hid ht
        clear ht HT
        go_wp2_with fail
        go_roundw
        case rel => exact ⟨i + 1, by omega, .inl (by omega), by go_num, by rw [HF.out], hb2⟩
        case measure => simp [intOf]; omega
    · have hlen : ms.length ≤ i := by omega
      rw [List.take_of_length_le hlen]
      cases hasc : ascM ms with
      | true =>
        obtain rfl := E0'.out hasc
        clear E4' E5' hasc
        go_wp2_with fail
        go_ret
        exact ⟨rfl, hbr⟩
      | false =>
        have E4'' := Lib.hid (E4'.out hasc)
        have E5'' := Lib.hid (E5'.out hasc)
        clear E0' E4' E5' hasc hlen
        have B2 : Below wr.heap.size wr (wr.alloc (.map #[] 0)) := (Below.refl _ _).alloc (Nat.le_refl _) _
        have M2 := MapIs.made Tryd.prog 93 mlit mok wr
        have s2 : (wr.alloc (.map #[] 0)).heap.size = wr.heap.size + 1 := by simp
        have W2E : ∃ W2, wr.alloc (.map #[] 0) = W2 := ⟨_, rfl⟩
        have HAW := Lib.hid (HA.out.below hbr)
        obtain ⟨W5, rfl⟩ : ∃ W5 : World, W5 = wr := ⟨_, rfl⟩
        go_wp2_with fail
        obtain ⟨W2, hW2⟩ := W2E
        rw [hW2] at B2 M2 s2 ⊢
        clear hW2
        have HM2 := Lib.hid M2
        clear M2
        go_loopw [35] (fun u wr => ∃ i : Nat, i ≤ ms.length ∧ u = .int .i64 i ∧ (kms ms i).Nodup ∧ MapIs Tryd.prog 93 mlit mok wr W5.heap.size i (setM (kms ms i)) ∧ Below W5.heap.size W5 wr ∧ W5.heap.size < wr.heap.size) (fun u _ => ms.length - (intOf u).toNat)
        case atStart => exact ⟨0, Nat.zero_le _, rfl, by simp [kms], HM2.out.ext (fun x _ => by simp [kms, setM]), B2, by omega⟩
        case round =>
          obtain ⟨i, hi, rfl, hnd, hM, hb6, hs6⟩ := hrel
          have HND := Lib.hid hnd; have HM := Lib.hid hM
          clear hnd hM HM2
          by_cases hlt : i < ms.length
          · obtain ⟨b1, o1, rfl, hbl, hcell⟩ := (HAW.out.below hb6).at hlt
            obtain ⟨C, cc, c0, c1, c2, _, _⟩ := hcell i hlt
            obtain ⟨ok1, _, ok3⟩ := OK.out i hlt
            have HKK := Lib.hid (key_mok ok1 ok3)
            have HD := Lib.hid (fun h => E5''.out (kms_dup hlt h))
            have HN := Lib.hid (fun h => kms_nodup hlt HND.out h)
            have HE := Lib.hid (kms_succ hlt)
            have KO := Lib.hid (fun W => mapKeyOf_any ms[i] (.slice C ms[i].to.length cc) W)
            clear hcell ok1 ok3
            generalize keyM ms[i] = kx at *
            generalize ms[i] = mi at *
            obtain ⟨mf, mt, mg⟩ := mi
            dsimp only at *
            have Ba : Below wr.heap.size wr (wr.alloc (.cells #[.int .i64 mf, .slice C mt.length cc, .string mg] 40)) := (Below.refl _ _).alloc (Nat.le_refl _) _
            have x0 : (wr.alloc (.cells #[.int .i64 mf, .slice C mt.length cc, .string mg] 40)).cell? ⟨wr.heap.size, 0, none⟩ = some (.int .i64 mf) := by simp
            have x1 : (wr.alloc (.cells #[.int .i64 mf, .slice C mt.length cc, .string mg] 40)).cell? ⟨wr.heap.size, 1, none⟩ = some (.slice C mt.length cc) := by simp
            have x2 : (wr.alloc (.cells #[.int .i64 mf, .slice C mt.length cc, .string mg] 40)).cell? ⟨wr.heap.size, 2, none⟩ = some (.string mg) := by simp
            have sa : (wr.alloc (.cells #[.int .i64 mf, .slice C mt.length cc, .string mg] 40)).heap.size = wr.heap.size + 1 := by simp
            have WaE : ∃ Wa, (wr.alloc (.cells #[.int .i64 mf, .slice C mt.length cc, .string mg] 40)) = Wa := ⟨_, rfl⟩
            go_wp2_with fail
            obtain ⟨Wa, hWa⟩ := WaE
            rw [hWa] at Ba x0 x1 x2 sa ⊢
            clear hWa c0 c1 c2
            with_reducible refine (KO.out Wa).mono ?_
            rintro e Wb ⟨rfl, hbb⟩
            have hxa : wr.heap.size < Wa.heap.size := by omega
            have y0 := (hbb.cell (p := ⟨wr.heap.size, 0, none⟩) hxa).trans x0
            have y1 := (hbb.cell (p := ⟨wr.heap.size, 1, none⟩) hxa).trans x1
            have y2 := (hbb.cell (p := ⟨wr.heap.size, 2, none⟩) hxa).trans x2
            have sb := hbb.size
            have Bw := Ba.trans (hbb.mono Ba.size)
            have HMB := Lib.hid (HM.out.below Bw)
            have hb7 := hb6.trans (Bw.mono hb6.size)
            clear x0 x1 x2
            by_cases hin : kx ∈ kms ms i
            · have HV := Lib.hid (setM_yes hin)
              obtain rfl := HD.out hin
              clear HN HD hin
              go_wp2_with (at_lookup; refine wpList_look rfl _ _ 91 rfl HMB.out law_mkey Tryd.underlying91 (zero_boolM _) rfl rfl HKK.out (mkey_some HKK.out) ?_; rw [HV.out])
              go_ret
              exact ⟨rfl, hbr.trans (hb7.mono hbr.size)⟩
            · have HV := Lib.hid (setM_no hin)
              have HP := Lib.hid (fun x => setM_put (kms ms i) kx x)
              have HQ := Lib.hid (HN.out hin)
              clear HN HD hin
              go_wp2_with (at_lookup; refine wpList_look rfl _ _ 91 rfl HMB.out law_mkey Tryd.underlying91 (zero_boolM _) rfl rfl HKK.out (mkey_some HKK.out) ?_; rw [HV.out])
              with_reducible refine (KO.out Wb).mono ?_
              rintro e Wc ⟨rfl, hbc⟩
              have HMC := Lib.hid (HMB.out.below hbc)
              have hb8 := hb7.trans (hbc.mono hb7.size)
              have sc := hbc.size
              clear y0 y1 y2 HMB
              go_wp2_with (at_mapUpdate; refine wpList_mput rfl _ _ _ 91 rfl HMC.out law_mkey Tryd.underlying91 (by unfold maxLen; omega) rfl rfl rfl HKK.out (mkey_some HKK.out) (fun y hy e => mlit_inj hy HKK.out e) ?_; intro w9 hM9 hg9; have HM9 := Lib.hid hM9; have HG9 := Lib.hid hg9; have sg := hg9.size; clear hM9 hg9)
              go_roundw
              case rel => exact ⟨i + 1, by omega, by go_num, HQ.out, by rw [HE.out]; exact HM9.out.ext (fun x _ => HP.out x), below_grown hb8 HG9.out (Nat.le_refl _) hb8.size, by omega⟩
              case measure => simp [intOf]; omega
          · have hnd := HND.out
            unfold kms at hnd
            rw [List.take_of_length_le (show ms.length ≤ i by omega)] at hnd
            obtain rfl := E4''.out hnd
            clear hnd HND
            go_wp2_with fail
            go_ret
            exact ⟨rfl, hbr.trans (hb6.mono hbr.size)⟩

end Go.Proofs.YtjglanjfgbipmaaDoor
/- Contracts of the reference's functions on mappings, and of mapping.Get. Written by gen_refmap.py. -/
namespace Go.Proofs.YtjglanjfgbipmaaDoor
open Go.RowKit Go.Maps Go.WideMaps

section
variable {ms : List Mp}
theorem dup_yes {i k : Nat} (hi : i < ms.length) (hk : k < i) (h : keyM ms[i] = keyM (ms[k]'(by omega))) : ¬ (ms.map keyM).Nodup := fun hn => by
  have := List.pairwise_iff_getElem.1 hn k i (by simp; omega) (by simpa using hi) hk
  simp at this
  exact this h.symm
theorem dup_no (h : ∀ i, (hi : i < ms.length) → ∀ k, (hk : k < i) → keyM ms[i] ≠ keyM (ms[k]'(by omega))) : (ms.map keyM).Nodup := by
  refine List.pairwise_iff_getElem.2 (fun k i hk hi hki => ?_)
  have := h i (by simpa using hi) k hki
  simp
  exact fun e => this e.symm
end
def dupM (ms : List Mp) : Bool := !decide (ms.map keyM).Nodup

def unErr (ms : List Mp) : Int := if partsErr ms ≠ 0 then partsErr ms else if dupM ms = true then 5 else 0
section
variable {ms : List Mp}
theorem un1 {k : Nat} (hk : k < ms.length) (h : mpBad ms[k] = true) : unErr ms = 1 := by unfold unErr; rw [parts1 hk h]; rfl
theorem un2 (h1 : ∀ t, (ht : t < ms.length) → mpBad ms[t] = false) {k : Nat} (hk : k < ms.length) (h : 64 < ms[k].to.length) : unErr ms = 2 := by unfold unErr; rw [parts2 h1 hk h]; rfl
theorem un6 (h1 : ∀ t, (ht : t < ms.length) → mpBad ms[t] = false) (h2 : ∀ t, (ht : t < ms.length) → ¬ 64 < ms[t].to.length) {k : Nat} (hk : k < ms.length) (h : tagBad ms[k] = true) : unErr ms = 6 := by unfold unErr; rw [parts6 h1 h2 hk h]; rfl
theorem un0 (h1 : ∀ t, (ht : t < ms.length) → mpBad ms[t] = false) (h2 : ∀ t, (ht : t < ms.length) → ¬ 64 < ms[t].to.length) (h3 : ∀ t, (ht : t < ms.length) → tagBad ms[t] = false) : unErr ms = if dupM ms = true then 5 else 0 := by unfold unErr; rw [parts0 h1 h2 h3]; rfl
end

section
variable {ms : List Mp}
theorem unD : dupM ms = !decide (ms.map keyM).Nodup := rfl
theorem refU (h : unErr ms ≠ 0) : mapErr ms = unErr ms := by
  rw [← refMapErr_eq]
  unfold refMapErr
  unfold unErr at h ⊢
  by_cases h1 : partsErr ms = 0
  · simp only [h1, ne_eq, not_true_eq_false, if_false] at h ⊢
    cases hd : dupM ms with
    | true =>
      have : ¬ (ms.map keyM).Nodup := by rw [unD] at hd; simpa using hd
      simp [this]
    | false => rw [hd] at h; simp at h
  · simp [h1]
theorem refZ (h : unErr ms = 0) : mapErr ms = if ascM ms then 0 else 4 := by
  rw [← refMapErr_eq]
  unfold refMapErr
  unfold unErr at h
  by_cases h1 : partsErr ms = 0
  · simp only [h1, ne_eq, not_true_eq_false, if_false] at h ⊢
    cases hd : dupM ms with
    | true => rw [hd] at h; simp at h
    | false =>
      have : (ms.map keyM).Nodup := by rw [unD] at hd; simpa using hd
      simp [this]
  · simp [h1] at h
theorem refZ0 (h : unErr ms = 0) (ha : ∀ t, (ht : t + 1 < ms.length) → cmpM ms[t] ms[t + 1] < 0) : mapErr ms = 0 := by rw [refZ h, ascM_true ha]; rfl
theorem refZ4 (h : unErr ms = 0) {k : Nat} (hk : k + 1 < ms.length) (ha : ¬ cmpM ms[k] ms[k + 1] < 0) : mapErr ms = 4 := by rw [refZ h, ascM_false hk ha]; rfl
end

/-- the result of a look for a mapping -/
def RetGet (r : Option (List Int)) (w : World) (e : Ending) (w' : World) : Prop := ∃ E d, e = .returned (.tuple #[.slice E (r.getD []).length d, .bool r.isSome]) ∧ (r.getD []).length ≤ d ∧ Ints w' E (r.getD []) ∧ Below w.heap.size w w'

/-- mappings that count -/
def valM (ms : List Mp) : List Mp := if mapErr ms = 0 then ms else []
theorem getV_val (ms : List Mp) (x : Int) (tag : ByteArray) : getM (valM ms) x tag = getV ms x tag := by
  unfold valM getV
  split
  · rfl
  · rfl
theorem valM_sz {ms : List Mp} (h : MpsSz ms) : MpsSz (valM ms) := by
  unfold valM
  split
  · exact h
  · exact ⟨by decide, fun _ hi => absurd hi (Nat.not_lt_zero _)⟩

def smallM (ms : List Mp) : Bool := decide (ms.length ≤ 20) && ms.all (fun m => decide (m.to.length ≤ 65) && decide (m.tag.size ≤ 40))
theorem smallM_sz {ms : List Mp} (h : smallM ms = true) : MpsSz ms ∧ ms.length ≤ 20 ∧ ∀ m ∈ ms, m.to.length ≤ 65 ∧ m.tag.size ≤ 40 := by
  simp only [smallM, Bool.and_eq_true, decide_eq_true_eq, List.all_eq_true] at h
  refine ⟨⟨by omega, fun i hi => ?_⟩, h.1, h.2⟩
  have := h.2 ms[i] (List.getElem_mem hi)
  omega
theorem smallM1 {ms : List Mp} (h : ¬ ms.length ≤ 20) : smallM ms = false := by simp [smallM]; omega
theorem smallM2 {ms : List Mp} {k : Nat} (hk : k < ms.length) (h : ¬ (ms[k].to.length ≤ 65 ∧ ms[k].tag.size ≤ 40)) : smallM ms = false := by
  cases e : smallM ms with
  | false => rfl
  | true => exact absurd ((smallM_sz e).2.2 ms[k] (List.getElem_mem hk)) h
theorem smallM3 {ms : List Mp} (h1 : ms.length ≤ 20) (h : ∀ t, (ht : t < ms.length) → ms[t].to.length ≤ 65 ∧ ms[t].tag.size ≤ 40) : smallM ms = true := by
  simp only [smallM, Bool.and_eq_true, decide_eq_true_eq, List.all_eq_true]
  refine ⟨h1, fun m hm => ?_⟩
  obtain ⟨t, ht, rfl⟩ := List.getElem_of_mem hm
  exact h t ht

end Go.Proofs.YtjglanjfgbipmaaDoor
