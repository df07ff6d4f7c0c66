/- Texts that are merged into one file: MapCk, RefMap, Once, MapI, MeasA, MeasB. -/
import Derived.Test.YtpfbnikbebccjaaGreatDoorG02
import Derived.Test.YtpfbnikbebccjaaGreatDoorG03
import Derived.Test.YtpfbnikbebccjaaGreatDoorG04
import Derived.Test.YtpfbnikbebccjaaGreatDoorProg
/- Contracts of mapping.parts and mapping.Check: the first error of mappings. Written by gen_mapck.py. -/
namespace Go.Proofs.YtpfbnikbebccjaaGreatDoor
open Go.RowKit Go.Maps Go.WideMaps

section
variable {ms : List Mp}
theorem parts1 {k : Nat} (hk : k < ms.length) (h : mpBad ms[k] = true) : partsErr ms = 1 := by unfold partsErr; rw [if_pos (anyT hk h)]
theorem parts2 (h1 : ∀ t, (ht : t < ms.length) → mpBad ms[t] = false) {k : Nat} (hk : k < ms.length) (h : 64 < ms[k].to.length) : partsErr ms = 2 := by
  unfold partsErr; rw [if_neg (by rw [anyF h1]; simp), if_pos (anyT hk (by simpa using h))]
theorem parts6 (h1 : ∀ t, (ht : t < ms.length) → mpBad ms[t] = false) (h2 : ∀ t, (ht : t < ms.length) → ¬ 64 < ms[t].to.length) {k : Nat} (hk : k < ms.length) (h : tagBad ms[k] = true) : partsErr ms = 6 := by
  unfold partsErr; rw [if_neg (by rw [anyF h1]; simp), if_neg (by rw [anyF (fun t ht => by simpa using h2 t ht)]; simp), if_pos (anyT hk h)]
theorem parts0 (h1 : ∀ t, (ht : t < ms.length) → mpBad ms[t] = false) (h2 : ∀ t, (ht : t < ms.length) → ¬ 64 < ms[t].to.length) (h3 : ∀ t, (ht : t < ms.length) → tagBad ms[t] = false) : partsErr ms = 0 := by
  unfold partsErr; rw [if_neg (by rw [anyF h1]; simp), if_neg (by rw [anyF (fun t ht => by simpa using h2 t ht)]; simp), if_neg (by rw [anyF h3]; simp)]
theorem parts_ok (h : partsErr ms = 0) : ∀ m ∈ ms, mpBad m = false ∧ m.to.length ≤ 64 ∧ tagBad m = false := by
  unfold partsErr at h
  split at h
  · cases h
  · next h1 =>
    split at h
    · cases h
    · next h2 =>
      split at h
      · cases h
      · next h3 =>
        intro m hm
        simp only [Bool.not_eq_true, List.any_eq_false] at h1 h2 h3
        have a := h1 m hm
        have b := h2 m hm
        have c := h3 m hm
        refine ⟨by simpa using a, ?_, by simpa using c⟩
        simp at b
        exact b
end
theorem mpBad_from {m : Mp} (h : inR 0 1114111 m.frm = false) : mpBad m = true := by unfold mpBad; rw [h]; rfl
theorem mpBad_to {m : Mp} {k : Nat} (hk : k < m.to.length) (h : inR 0 1114111 m.to[k] = false) : mpBad m = true := by
  unfold mpBad
  rw [Bool.or_eq_true]
  right
  exact anyT hk (by rw [h]; rfl)
theorem mpBad_no {m : Mp} (h0 : inR 0 1114111 m.frm = true) (h : ∀ t, (ht : t < m.to.length) → inR 0 1114111 m.to[t] = true) : mpBad m = false := by
  unfold mpBad
  rw [h0, anyF (fun t ht => by rw [h t ht]; rfl)]
  rfl
theorem mpBad_facts {m : Mp} (h : mpBad m = false) : (0 ≤ m.frm ∧ m.frm ≤ 1114111) ∧ ∀ z ∈ m.to, 0 ≤ z ∧ z ≤ 1114111 := by
  unfold mpBad at h
  rw [Bool.or_eq_false_iff] at h
  refine ⟨inR_iff.1 (by simpa using h.1), fun z hz => ?_⟩
  have := List.any_eq_false.1 h.2 z hz
  exact inR_iff.1 (by simpa using this)
theorem tagBad_facts {m : Mp} (h : tagBad m = false) : m.tag.size ≤ 32 := by
  unfold tagBad at h
  by_cases h0 : m.tag.size = 0
  · omega
  · have : nameOk m.tag = true := by simpa [h0] using h
    unfold nameOk at this
    simp at this
    omega
theorem tagBad_empty {m : Mp} (h : m.tag.size = 0) : tagBad m = false := by unfold tagBad; simp [h]
theorem tagBad_name {m : Mp} (h : ¬ m.tag.size = 0) : tagBad m = !nameOk m.tag := by unfold tagBad; simp [h]

set_option maxRecDepth 100000 in
set_option maxHeartbeats 6400000 in
theorem parts_any (A : Option Addr) (n a : Nat) (ms : List Mp) (w : World) (hA : Mps w A ms) (hn : ms.length = n) (hz : MpsSz ms) :
    Calls Tryz.prog 98 #[.slice A n a] w (RetInt (partsErr ms) w) := by
  subst hn
  have HA := Lib.hid hA
  have hnz := hz.n
  have HZ := Lib.hid hz.e
  have P1 := Lib.hid (fun k hk h => parts1 (ms := ms) (k := k) hk h)
  have P2 := Lib.hid (fun h1 k hk h => parts2 (ms := ms) h1 (k := k) hk h)
  have P6 := Lib.hid (fun h1 h2 k hk h => parts6 (ms := ms) h1 h2 (k := k) hk h)
  have P0 := Lib.hid (parts0 (ms := ms))
  clear hA hz
  generalize partsErr ms = R at *
  go_enter Tryz.func98, Tryz.ntmps98
  go_wp2_with fail
  go_loopw [13] (fun u wr => ∃ i : Nat, i ≤ ms.length ∧ u = .int .i64 i ∧ (∀ t, (ht : t < ms.length) → t < i → mpBad ms[t] = false) ∧ Below w.heap.size w wr) (fun u _ => ms.length - (intOf u).toNat)
  case atStart => exact ⟨0, Nat.zero_le _, rfl, fun t _ h => by omega, Below.refl _ _⟩
  case round =>
    obtain ⟨i, hi, rfl, hno, hbr⟩ := hrel
    have HNO := Lib.hid hno
    clear hno
    by_cases hlt : i < ms.length
    · obtain ⟨b1, o1, rfl, hbl, hcell⟩ := (HA.out.below hbr).at hlt
      obtain ⟨C, cc, c0, c1, c2, hcc, hC⟩ := hcell i hlt
      obtain ⟨z1, z2⟩ := HZ.out i hlt
      have HB := Lib.hid (fun h => P1.out i hlt h)
      have HN := Lib.hid (fun h => all_up (P := fun m => mpBad m = false) hlt HNO.out h)
      clear hcell
      generalize ms[i] = mi at *
      have M0 := Lib.hid (mpBad_from (m := mi))
      have M1 := Lib.hid (fun k hk h => mpBad_to (m := mi) (k := k) hk h)
      have M2 := Lib.hid (mpBad_no (m := mi))
      generalize mpBad mi = bd at *
      obtain ⟨mf, mt, mg⟩ := mi
      dsimp only at *
      have Ba : Below wr.heap.size wr (wr.alloc (.cells #[.int .i64 mf, .slice C mt.length cc, .string mg] 116)) := (Below.refl _ _).alloc (Nat.le_refl _) _
      have HCa := Lib.hid (hC.below Ba)
      have hb2 := hbr.trans (Ba.mono hbr.size)
      have e1 : (wr.alloc (.cells #[.int .i64 mf, .slice C mt.length cc, .string mg] 116)).cell? ⟨wr.heap.size, 1, none⟩ = some (.slice C mt.length cc) := by simp
      have E1 := Lib.hid e1
      have WaE : ∃ Wa, (wr.alloc (.cells #[.int .i64 mf, .slice C mt.length cc, .string mg] 116)) = Wa := ⟨_, rfl⟩
      clear hC e1
      cases hv : inR 0 1114111 mf with
      | false =>
        obtain rfl := M0.out hv
        have HR := Lib.hid (HB.out rfl)
        go_wp2_with (go_at_call 108; refine (cpValid_any mf _).mono ?_; rw [hv]; rintro e w' ⟨rfl, rfl⟩)
        go_ret
        exact ⟨ret_int HR.out.symm, hb2⟩
      | true =>
        go_wp2_with (go_at_call 108; refine (cpValid_any mf _).mono ?_; rw [hv]; rintro e w' ⟨rfl, rfl⟩)
        obtain ⟨Wa, hWa⟩ := WaE
        rw [hWa] at Ba HCa hb2 E1 ⊢
        clear hWa c0 c1 c2
        obtain ⟨wr0, rfl⟩ : ∃ wr0 : World, wr0 = wr := ⟨_, rfl⟩
        go_loop [24] (fun u => ∃ k : Nat, k ≤ mt.length ∧ u = .int .i64 k ∧ (∀ t, (ht : t < mt.length) → t < k → inR 0 1114111 mt[t] = true)) (fun u => mt.length - (intOf u).toNat)
        case atStart => exact ⟨0, Nat.zero_le _, rfl, fun t _ h => by omega⟩
        case round =>
          obtain ⟨k, hk, rfl, hok⟩ := hrel
          have HOK := Lib.hid hok
          clear hok
          by_cases hltk : k < mt.length
          · obtain ⟨b2, o2, rfl, hc2⟩ := HCa.out.at hltk
            have d0 := hc2 k hltk
            have HBK := Lib.hid (fun h => M1.out k hltk h)
            have HNK := Lib.hid (fun h => all_up (P := fun z => inR 0 1114111 z = true) hltk HOK.out h)
            clear hc2
            generalize mt[k] = z at *
            cases hvz : inR 0 1114111 z with
            | false =>
              obtain rfl := HBK.out hvz
              have HR := Lib.hid (HB.out rfl)
              go_wp2_with (go_at_call 108; refine (cpValid_any z _).mono ?_; rw [hvz]; rintro e w' ⟨rfl, rfl⟩)
              go_ret
              exact ⟨ret_int HR.out.symm, hb2⟩
            | true =>
              have HQ := Lib.hid (HNK.out hvz)
              go_wp2_with (go_at_call 108; refine (cpValid_any z _).mono ?_; rw [hvz]; rintro e w' ⟨rfl, rfl⟩)
              go_round
              case rel => exact ⟨k + 1, by omega, by go_num, HQ.out⟩
              case measure => simp [intOf]; omega
          · obtain rfl := M2.out hv (fun t ht => HOK.out t ht (by omega))
            have HQ := Lib.hid (HN.out rfl)
            go_wp2_with fail
            go_roundw
            case rel => exact ⟨i + 1, by omega, by go_num, HQ.out, hb2⟩
            case measure => simp [intOf]; omega
    · have H1 := Lib.hid (fun t (ht : t < ms.length) => HNO.out t ht (by omega))
      clear HNO P1
      go_wp2_with fail
      go_loopw [35] (fun u wr => ∃ i : Nat, i ≤ ms.length ∧ u = .int .i64 i ∧ (∀ t, (ht : t < ms.length) → t < i → ¬ 64 < ms[t].to.length) ∧ Below w.heap.size w wr) (fun u _ => ms.length - (intOf u).toNat)
      case atStart => exact ⟨0, Nat.zero_le _, rfl, fun t _ h => by omega, hbr⟩
      case round =>
        obtain ⟨i, hi, rfl, hno, hbr⟩ := hrel
        have HNO := Lib.hid hno
        clear hno
        by_cases hlt : i < ms.length
        · obtain ⟨b1, o1, rfl, hbl, hcell⟩ := (HA.out.below hbr).at hlt
          obtain ⟨C, cc, c0, c1, c2, hcc, hC⟩ := hcell i hlt
          obtain ⟨z1, z2⟩ := HZ.out i hlt
          have HB := Lib.hid (fun h => P2.out H1.out i hlt h)
          have HN := Lib.hid (fun h => all_up (P := fun m : Mp => ¬ 64 < m.to.length) hlt HNO.out h)
          clear hcell hC
          generalize ms[i] = mi at *
          obtain ⟨mf, mt, mg⟩ := mi
          dsimp only at *
          have hb2 := hbr.trans (((Below.refl wr.heap.size wr).alloc (Nat.le_refl _) (.cells #[.int .i64 mf, .slice C mt.length cc, .string mg] 116)).mono hbr.size)
          by_cases h64 : 64 < mt.length
          · have q1 : decide ((64 : Int) < (mt.length : Int)) = true := by simp; omega
            obtain rfl := HB.out h64
            go_wp2_with fail
            go_ret
            exact ⟨rfl, hb2⟩
          · have q1 : decide ((64 : Int) < (mt.length : Int)) = false := by simp; omega
            have HQ := Lib.hid (HN.out h64)
            go_wp2_with fail
            go_roundw
            case rel => exact ⟨i + 1, by omega, by go_num, HQ.out, hb2⟩
            case measure => simp [intOf]; omega
        · have H2 := Lib.hid (fun t (ht : t < ms.length) => HNO.out t ht (by omega))
          clear HNO P2
          go_wp2_with fail
          go_loopw [46] (fun u wr => ∃ i : Nat, i ≤ ms.length ∧ u = .int .i64 i ∧ (∀ t, (ht : t < ms.length) → t < i → tagBad ms[t] = false) ∧ Below w.heap.size w wr) (fun u _ => ms.length - (intOf u).toNat)
          case atStart => exact ⟨0, Nat.zero_le _, rfl, fun t _ h => by omega, hbr⟩
          case round =>
            obtain ⟨i, hi, rfl, hno, hbr⟩ := hrel
            have HNO := Lib.hid hno
            clear hno
            by_cases hlt : i < ms.length
            · obtain ⟨b1, o1, rfl, hbl, hcell⟩ := (HA.out.below hbr).at hlt
              obtain ⟨C, cc, c0, c1, c2, hcc, hC⟩ := hcell i hlt
              obtain ⟨z1, z2⟩ := HZ.out i hlt
              have HB := Lib.hid (fun h => P6.out H1.out H2.out i hlt h)
              have HN := Lib.hid (fun h => all_up (P := fun m : Mp => tagBad m = false) hlt HNO.out h)
              clear hcell hC
              generalize ms[i] = mi at *
              have T0 := Lib.hid (tagBad_empty (m := mi))
              have T1 := Lib.hid (tagBad_name (m := mi))
              generalize tagBad mi = tb at *
              obtain ⟨mf, mt, mg⟩ := mi
              dsimp only at *
              have hb2 := hbr.trans (((Below.refl wr.heap.size wr).alloc (Nat.le_refl _) (.cells #[.int .i64 mf, .slice C mt.length cc, .string mg] 116)).mono hbr.size)
              by_cases hg : mg.size = 0
              · have g0 : mg.toList = [] := str_nil hg
                have HQ := Lib.hid (HN.out (T0.out hg))
                clear T0 T1 HB HN
                go_wp2_with fail
                go_roundw
                case rel => exact ⟨i + 1, by omega, by go_num, HQ.out, hb2⟩
                case measure => simp [intOf]; omega
              · have g0 : ¬ mg.toList = [] := str_cons hg
                have g1 : mg.toList.isEmpty = false := by simpa using g0
                have hT := T1.out hg
                cases hnm : nameOk mg with
                | true =>
                  rw [hnm] at hT
                  have HQ := Lib.hid (HN.out hT)
                  clear hT T0 T1 HB HN
                  go_wp2_with (go_at_call 129; refine (mapName_any mg _ z2).mono ?_; rw [hnm]; rintro e w' ⟨rfl, rfl⟩)
                  go_roundw
                  case rel => exact ⟨i + 1, by omega, by go_num, HQ.out, hb2⟩
                  case measure => simp [intOf]; omega
                | false =>
                  rw [hnm] at hT
                  obtain rfl := HB.out hT
                  clear hT T0 T1 HB HN
                  go_wp2_with (go_at_call 129; refine (mapName_any mg _ z2).mono ?_; rw [hnm]; rintro e w' ⟨rfl, rfl⟩)
                  go_ret
                  exact ⟨rfl, hb2⟩
            · obtain rfl := P0.out H1.out H2.out (fun t ht => HNO.out t ht (by omega))
              go_wp2_with fail
              go_ret
              exact ⟨rfl, hbr⟩

theorem ascM_take {ms : List Mp} {i : Nat} (h1 : 1 ≤ i) (hi : i < ms.length) : ascM (ms.take (i + 1)) = (ascM (ms.take i) && decide (cmpM (ms[i - 1]'(by omega)) ms[i] < 0)) := by
  induction ms generalizing i with
  | nil => simp at hi
  | cons a r ih =>
    cases r with
    | nil => simp at hi; omega
    | cons b r =>
      by_cases e : i = 1
      · subst e; simp [ascM]
      · obtain ⟨j, rfl⟩ : ∃ j, i = j + 2 := ⟨i - 2, by omega⟩
        have := ih (i := j + 1) (by omega) (by simpa using hi)
        simp only [List.take_succ_cons, ascM] at this ⊢
        rw [this, Bool.and_assoc]
        simp
theorem ascM_one {ms : List Mp} {i : Nat} (h : i ≤ 1) : ascM (ms.take i) = true := by
  match i, ms with
  | 0, _ => rfl
  | 1, [] => rfl
  | 1, _ :: _ => rfl
section
variable {ms : List Mp}
theorem mapP (h : partsErr ms ≠ 0) : mapErr ms = partsErr ms := by unfold mapErr; rw [if_pos h]
theorem map0 (h : partsErr ms = 0) (ha : ascM ms = true) : mapErr ms = 0 := by unfold mapErr; rw [if_neg (by simpa using h), if_pos ha]
theorem map5 (h : partsErr ms = 0) (ha : ascM ms = false) (hd : ¬ (ms.map keyM).Nodup) : mapErr ms = 5 := by unfold mapErr; rw [if_neg (by simpa using h), if_neg (by simp [ha]), if_neg hd]
theorem map4 (h : partsErr ms = 0) (ha : ascM ms = false) (hd : (ms.map keyM).Nodup) : mapErr ms = 4 := by unfold mapErr; rw [if_neg (by simpa using h), if_neg (by simp [ha]), if_pos hd]
def kms (ms : List Mp) (k : Nat) : List (Int × ByteArray) := (ms.take k).map keyM
theorem kms_succ {k : Nat} (hk : k < ms.length) : kms ms (k + 1) = kms ms k ++ [keyM ms[k]] := by
  unfold kms; rw [List.take_succ_eq_append_getElem hk, List.map_append]; rfl
theorem kms_dup {k : Nat} (hk : k < ms.length) (h : keyM ms[k] ∈ kms ms k) : ¬ (ms.map keyM).Nodup := by
  intro hn
  have hs : (kms ms (k + 1)).Sublist (ms.map keyM) := by unfold kms; exact (List.take_sublist _ _).map _
  have h1 := hn.sublist hs
  rw [kms_succ hk, List.nodup_append] at h1
  exact h1.2.2 _ h _ (List.mem_singleton.2 rfl) rfl
theorem kms_nodup {k : Nat} (hk : k < ms.length) (hn : (kms ms k).Nodup) (h : keyM ms[k] ∉ kms ms k) : (kms ms (k + 1)).Nodup := by
  rw [kms_succ hk, List.nodup_append]
  refine ⟨hn, by simp, fun a ha b hb e => ?_⟩
  rw [List.mem_singleton] at hb
  subst hb; subst e
  exact h ha
theorem key_mok {m : Mp} (h1 : mpBad m = false) (h2 : tagBad m = false) : mok (keyM m) := by
  have a := (mpBad_facts h1).1
  have b := tagBad_facts h2
  refine ⟨?_, by unfold maxLen; show m.tag.size ≤ _; omega⟩
  exact wf_small (by show _ ≤ m.frm; omega) (by show m.frm ≤ _; omega)
end

set_option maxRecDepth 100000 in
set_option maxHeartbeats 6400000 in
theorem mapCheck_any (A : Option Addr) (n a : Nat) (ms : List Mp) (w : World) (hA : Mps w A ms) (hn : ms.length = n) (hz : MpsSz ms) :
    Calls Tryz.prog 58 #[.slice A n a] w (RetInt (mapErr ms) w) := by
  subst hn
  have PC := Lib.hid (parts_any A ms.length a ms w hA rfl hz)
  have HA := Lib.hid hA
  have hnz := hz.n
  have EP := Lib.hid (mapP (ms := ms))
  have E0 := Lib.hid (map0 (ms := ms))
  have E4 := Lib.hid (map4 (ms := ms))
  have E5 := Lib.hid (map5 (ms := ms))
  have OKS := Lib.hid (parts_ok (ms := ms))
  have hmm := @run_makeMap Tryz.prog
  clear hA hz
  generalize mapErr ms = R at *
  generalize partsErr ms = pe at *
  go_enter Tryz.func58, Tryz.ntmps58
  go_wp2_with fail
  with_reducible refine PC.out.mono ?_
  rintro e W1 ⟨rfl, hb1⟩
  clear PC
  by_cases hpe : pe = 0
  rotate_left
  · have q1 : (pe != 0) = true := by simpa using hpe
    obtain rfl := EP.out hpe
    clear hpe EP E0 E4 E5
    go_wp2_with fail
    go_ret
    exact ⟨rfl, hb1⟩
  have q1 : (pe != 0) = false := by simpa using hpe
  have E0' := Lib.hid (E0.out hpe)
  have E4' := Lib.hid (E4.out hpe)
  have E5' := Lib.hid (E5.out hpe)
  have OK := Lib.hid (fun i (hi : i < ms.length) => OKS.out hpe ms[i] (List.getElem_mem hi))
  have A1 := Lib.hid (ascM_one (ms := ms) (i := 1) (by omega))
  clear EP E0 E4 E5 OKS hpe
  go_wp2_with fail
  go_loopw [4, 5] (fun v u wr => ∃ i : Nat, 1 ≤ i ∧ (i ≤ ms.length ∨ i = 1) ∧ u = .int .i64 i ∧ v = .bool (ascM (ms.take i)) ∧ Below w.heap.size w wr) (fun _ u _ => ms.length - (intOf u).toNat)
  case atStart => exact ⟨1, by omega, .inr rfl, rfl, by rw [A1.out], hb1⟩
  case round =>
    obtain ⟨i, hi1, hi2, rfl, rfl, hbr⟩ := hrel
    by_cases hlt : i < ms.length
    · obtain ⟨b1, o1, rfl, hbl, hcell⟩ := (HA.out.below hbr).at hlt
      obtain ⟨C, cc, c0, c1, c2, _, _⟩ := hcell i hlt
      obtain ⟨D, dd, d0, d1, d2, _, _⟩ := hcell (i - 1) (by omega)
      have HT := Lib.hid (ascM_take hi1 hlt)
      have MC := Lib.hid (fun W => mapCompare_any (ms[i - 1]'(by omega)) ms[i] (.slice D (ms[i - 1]'(by omega)).to.length dd) (.slice C ms[i].to.length cc) W)
      clear hcell
      generalize cmpM (ms[i - 1]'(by omega)) ms[i] = cv at *
      generalize (ms[i - 1]'(by omega)) = ma at *
      generalize ms[i] = mb at *
      obtain ⟨af, al', ag⟩ := ma
      obtain ⟨bf, bl'', bg⟩ := mb
      dsimp only at *
      generalize al'.length = al at *
      generalize bl''.length = bl' at *
      have i1 : (0 : Int) ≤ (i : Int) - 1 := by omega
      have i2 : (i : Int) - 1 < (ms.length : Int) := by omega
      have i3 : ((i : Int) - 1).toNat = i - 1 := by omega
      have i4 : (i : Int) < (ms.length : Int) := by omega
      have i5 : (0 : Int) ≤ (i : Int) := by omega
      have i6 : (1 : Int) ≤ (i : Int) := by omega
      have w1 : IntKind.i64.wrap ((i : Int) - 1) = (i : Int) - 1 := IntWalk.i64_in _ (by omega)
      have KS := Lib.hid (show ∀ W', Below wr.heap.size wr W' → W'.cell? ⟨b1, o1 + (i - 1) * 3, none⟩ = some (.int .i64 af) ∧ W'.cell? ⟨b1, o1 + (i - 1) * 3 + 1, none⟩ = some (.slice D al dd) ∧ W'.cell? ⟨b1, o1 + (i - 1) * 3 + 2, none⟩ = some (.string ag) ∧ W'.cell? ⟨b1, o1 + i * 3, none⟩ = some (.int .i64 bf) ∧ W'.cell? ⟨b1, o1 + i * 3 + 1, none⟩ = some (.slice C bl' cc) ∧ W'.cell? ⟨b1, o1 + i * 3 + 2, none⟩ = some (.string bg) ∧ Below wr.heap.size wr W' from fun W' hb => ⟨(hb.cell (p := ⟨b1, o1 + (i - 1) * 3, none⟩) hbl).trans d0, (hb.cell (p := ⟨b1, o1 + (i - 1) * 3 + 1, none⟩) hbl).trans d1, (hb.cell (p := ⟨b1, o1 + (i - 1) * 3 + 2, none⟩) hbl).trans d2, (hb.cell (p := ⟨b1, o1 + i * 3, none⟩) hbl).trans c0, (hb.cell (p := ⟨b1, o1 + i * 3 + 1, none⟩) hbl).trans c1, (hb.cell (p := ⟨b1, o1 + i * 3 + 2, none⟩) hbl).trans c2, hb⟩)
      have MC1 := Lib.hid (fun W' (hb : Below wr.heap.size wr W') => (MC.out W').mono (R' := fun e W' => e = .returned (.int .i64 cv) ∧ (W'.cell? ⟨b1, o1 + (i - 1) * 3, none⟩ = some (.int .i64 af) ∧ W'.cell? ⟨b1, o1 + (i - 1) * 3 + 1, none⟩ = some (.slice D al dd) ∧ W'.cell? ⟨b1, o1 + (i - 1) * 3 + 2, none⟩ = some (.string ag) ∧ W'.cell? ⟨b1, o1 + i * 3, none⟩ = some (.int .i64 bf) ∧ W'.cell? ⟨b1, o1 + i * 3 + 1, none⟩ = some (.slice C bl' cc) ∧ W'.cell? ⟨b1, o1 + i * 3 + 2, none⟩ = some (.string bg) ∧ Below wr.heap.size wr W')) (fun e w' ⟨he, hb'⟩ => ⟨he, KS.out w' (hb.trans (hb'.mono hb.size))⟩))
      go_wp2_with fail
      refine wp_region_held_drew (S := fun W' => W'.cell? ⟨b1, o1 + (i - 1) * 3, none⟩ = some (.int .i64 af) ∧ W'.cell? ⟨b1, o1 + (i - 1) * 3 + 1, none⟩ = some (.slice D al dd) ∧ W'.cell? ⟨b1, o1 + (i - 1) * 3 + 2, none⟩ = some (.string ag) ∧ W'.cell? ⟨b1, o1 + i * 3, none⟩ = some (.int .i64 bf) ∧ W'.cell? ⟨b1, o1 + i * 3 + 1, none⟩ = some (.slice C bl' cc) ∧ W'.cell? ⟨b1, o1 + i * 3 + 2, none⟩ = some (.string bg) ∧ Below wr.heap.size wr W') (by kernel_rfl) (KS.out _ (Below.refl _ _).drew) (fun hHeld => ?_)
      refine anyH_take (i := 0) (v := ?_) (some 20) rfl rfl (by kernel_rfl) (by kernel_rfl) (by kernel_rfl) (fun _ _ _ h => h) (by rfl) (by assumption) ?_ ?_
      rotate_left
      · intro w hSw; (try dsimp only at hSw); go_split_ands; go_simp; try (with_reducible rfl)
      try simp only [Act.put, List.setIfInBounds_toArray, List.set_cons_zero, List.set_cons_succ]
      refine anyH_take (i := 1) (v := ?_) (some 21) rfl rfl (by kernel_rfl) (by kernel_rfl) (by kernel_rfl) (fun _ _ _ h => h) (by rfl) (by assumption) ?_ ?_
      rotate_left
      · intro w hSw; (try dsimp only at hSw); go_split_ands; go_simp; try (with_reducible rfl)
      try simp only [Act.put, List.setIfInBounds_toArray, List.set_cons_zero, List.set_cons_succ]
      refine anyH_take (i := 2) (v := ?_) (some 22) rfl rfl (by kernel_rfl) (by kernel_rfl) (by kernel_rfl) (fun _ _ _ h => h) (by rfl) (by assumption) ?_ ?_
      rotate_left
      · intro w hSw; (try dsimp only at hSw); go_split_ands; go_simp; try (with_reducible rfl)
      try simp only [Act.put, List.setIfInBounds_toArray, List.set_cons_zero, List.set_cons_succ]
      refine anyH_take (i := 3) (v := ?_) (some 23) rfl rfl (by kernel_rfl) (by kernel_rfl) (by kernel_rfl) (fun _ _ _ h => h) (by rfl) (by assumption) ?_ ?_
      rotate_left
      · intro w hSw; (try dsimp only at hSw); go_split_ands; go_simp; try (with_reducible rfl)
      try simp only [Act.put, List.setIfInBounds_toArray, List.set_cons_zero, List.set_cons_succ]
      refine anyH_take (i := 4) (v := ?_) (some 24) rfl rfl (by kernel_rfl) (by kernel_rfl) (by kernel_rfl) (fun _ _ _ h => h) (by rfl) (by assumption) ?_ ?_
      rotate_left
      · intro w hSw; (try dsimp only at hSw); go_split_ands; go_simp; try (with_reducible rfl)
      try simp only [Act.put, List.setIfInBounds_toArray, List.set_cons_zero, List.set_cons_succ]
      refine anyH_take (i := 5) (v := ?_) (some 25) rfl rfl (by kernel_rfl) (by kernel_rfl) (by kernel_rfl) (fun _ _ _ h => h) (by rfl) (by assumption) ?_ ?_
      rotate_left
      · intro w hSw; (try dsimp only at hSw); go_split_ands; go_simp; try (with_reducible rfl)
      try simp only [Act.put, List.setIfInBounds_toArray, List.set_cons_zero, List.set_cons_succ]
      refine anyH_take (i := 6) (v := ?_) (some 26) rfl rfl (by kernel_rfl) (by kernel_rfl) (by kernel_rfl) (fun _ _ _ h => h) (by rfl) (by assumption) ?_ ?_
      rotate_left
      · intro w hSw; (try dsimp only at hSw); go_split_ands; go_simp; try (with_reducible rfl)
      try simp only [Act.put, List.setIfInBounds_toArray, List.set_cons_zero, List.set_cons_succ]
      refine anyH_take (i := 7) (v := ?_) (some 27) rfl rfl (by kernel_rfl) (by kernel_rfl) (by kernel_rfl) (fun _ _ _ h => h) (by rfl) (by assumption) ?_ ?_
      rotate_left
      · intro w hSw; (try dsimp only at hSw); go_split_ands; go_simp; try (with_reducible rfl)
      try simp only [Act.put, List.setIfInBounds_toArray, List.set_cons_zero, List.set_cons_succ]
      refine anyH_take (i := 8) (v := ?_) (some 28) rfl rfl (by kernel_rfl) (by kernel_rfl) (by kernel_rfl) (fun _ _ _ h => h) (by rfl) (by assumption) ?_ ?_
      rotate_left
      · intro w hSw; (try dsimp only at hSw); go_split_ands; go_simp; try (with_reducible rfl)
      try simp only [Act.put, List.setIfInBounds_toArray, List.set_cons_zero, List.set_cons_succ]
      refine anyH_call (i := 9) (some 29) rfl rfl (by kernel_rfl) (by rfl) (by go_simp) (MC1.out _ hHeld.2.2.2.2.2.2) (fun W3 hS6 => ?_)
      clear hHeld
      have hHeld := hS6
      clear hS6
      try simp only [Act.put, List.setIfInBounds_toArray, List.set_cons_zero, List.set_cons_succ]
      refine anyH_take (i := 10) (v := ?_) (some 30) rfl rfl (by kernel_rfl) (by kernel_rfl) (by kernel_rfl) (fun _ _ _ h => h) (by rfl) (by assumption) ?_ ?_
      rotate_left
      · intro w hSw; (try dsimp only at hSw); go_split_ands; go_simp; try (with_reducible rfl)
      try simp only [Act.put, List.setIfInBounds_toArray, List.set_cons_zero, List.set_cons_succ]
      refine wpAnyH_done (by kernel_rfl) ?_ _
      have Bp := hHeld.2.2.2.2.2.2
      have hb2 := hbr.trans (Bp.mono hbr.size)
      clear hHeld c0 c1 c2 d0 d1 d2 KS MC MC1 i1 i2 i3 i4 i5 i6 w1
      by_cases hcv : 0 ≤ cv
      · have q9 : decide (0 ≤ cv) = true := by simpa using hcv
        have ht := HT.out
        rw [show decide (cv < 0) = false by simp; omega, Bool.and_false] at ht
        have HF := Lib.hid ht
        clear ht HT
        go_wp2_with fail
        go_roundw
        case rel => exact ⟨i + 1, by omega, .inl (by omega), by go_num, by rw [HF.out], hb2⟩
        case measure => simp [intOf]; omega
      · have q9 : decide (0 ≤ cv) = false := by simpa using hcv
        have ht := HT.out
        rw [show decide (cv < 0) = true by simp; omega, Bool.and_true] at ht
        have HF := Lib.hid ht
        clear ht HT
        go_wp2_with fail
        go_roundw
        case rel => exact ⟨i + 1, by omega, .inl (by omega), by go_num, by rw [HF.out], hb2⟩
        case measure => simp [intOf]; omega
    · have hlen : ms.length ≤ i := by omega
      rw [List.take_of_length_le hlen]
      cases hasc : ascM ms with
      | true =>
        obtain rfl := E0'.out hasc
        clear E4' E5' hasc
        go_wp2_with fail
        go_ret
        exact ⟨rfl, hbr⟩
      | false =>
        have E4'' := Lib.hid (E4'.out hasc)
        have E5'' := Lib.hid (E5'.out hasc)
        clear E0' E4' E5' hasc hlen
        have B2 : Below wr.heap.size wr (wr.alloc (.map #[] 0)) := (Below.refl _ _).alloc (Nat.le_refl _) _
        have M2 := MapIs.made Tryz.prog 153 mlit mok wr
        have s2 : (wr.alloc (.map #[] 0)).heap.size = wr.heap.size + 1 := by simp
        have W2E : ∃ W2, wr.alloc (.map #[] 0) = W2 := ⟨_, rfl⟩
        have HAW := Lib.hid (HA.out.below hbr)
        obtain ⟨W5, rfl⟩ : ∃ W5 : World, W5 = wr := ⟨_, rfl⟩
        go_wp2_with fail
        obtain ⟨W2, hW2⟩ := W2E
        rw [hW2] at B2 M2 s2 ⊢
        clear hW2
        have HM2 := Lib.hid M2
        clear M2
        go_loopw [35] (fun u wr => ∃ i : Nat, i ≤ ms.length ∧ u = .int .i64 i ∧ (kms ms i).Nodup ∧ MapIs Tryz.prog 153 mlit mok wr W5.heap.size i (setM (kms ms i)) ∧ Below W5.heap.size W5 wr ∧ W5.heap.size < wr.heap.size) (fun u _ => ms.length - (intOf u).toNat)
        case atStart => exact ⟨0, Nat.zero_le _, rfl, by simp [kms], HM2.out.ext (fun x _ => by simp [kms, setM]), B2, by omega⟩
        case round =>
          obtain ⟨i, hi, rfl, hnd, hM, hb6, hs6⟩ := hrel
          have HND := Lib.hid hnd; have HM := Lib.hid hM
          clear hnd hM HM2
          by_cases hlt : i < ms.length
          · obtain ⟨b1, o1, rfl, hbl, hcell⟩ := (HAW.out.below hb6).at hlt
            obtain ⟨C, cc, c0, c1, c2, _, _⟩ := hcell i hlt
            obtain ⟨ok1, _, ok3⟩ := OK.out i hlt
            have HKK := Lib.hid (key_mok ok1 ok3)
            have HD := Lib.hid (fun h => E5''.out (kms_dup hlt h))
            have HN := Lib.hid (fun h => kms_nodup hlt HND.out h)
            have HE := Lib.hid (kms_succ hlt)
            have KO := Lib.hid (fun W => mapKeyOf_any ms[i] (.slice C ms[i].to.length cc) W)
            clear hcell ok1 ok3
            generalize keyM ms[i] = kx at *
            generalize ms[i] = mi at *
            obtain ⟨mf, mt, mg⟩ := mi
            dsimp only at *
            have Ba : Below wr.heap.size wr (wr.alloc (.cells #[.int .i64 mf, .slice C mt.length cc, .string mg] 116)) := (Below.refl _ _).alloc (Nat.le_refl _) _
            have x0 : (wr.alloc (.cells #[.int .i64 mf, .slice C mt.length cc, .string mg] 116)).cell? ⟨wr.heap.size, 0, none⟩ = some (.int .i64 mf) := by simp
            have x1 : (wr.alloc (.cells #[.int .i64 mf, .slice C mt.length cc, .string mg] 116)).cell? ⟨wr.heap.size, 1, none⟩ = some (.slice C mt.length cc) := by simp
            have x2 : (wr.alloc (.cells #[.int .i64 mf, .slice C mt.length cc, .string mg] 116)).cell? ⟨wr.heap.size, 2, none⟩ = some (.string mg) := by simp
            have sa : (wr.alloc (.cells #[.int .i64 mf, .slice C mt.length cc, .string mg] 116)).heap.size = wr.heap.size + 1 := by simp
            have WaE : ∃ Wa, (wr.alloc (.cells #[.int .i64 mf, .slice C mt.length cc, .string mg] 116)) = Wa := ⟨_, rfl⟩
            go_wp2_with fail
            obtain ⟨Wa, hWa⟩ := WaE
            rw [hWa] at Ba x0 x1 x2 sa ⊢
            clear hWa c0 c1 c2
            with_reducible refine (KO.out Wa).mono ?_
            rintro e Wb ⟨rfl, hbb⟩
            have hxa : wr.heap.size < Wa.heap.size := by omega
            have y0 := (hbb.cell (p := ⟨wr.heap.size, 0, none⟩) hxa).trans x0
            have y1 := (hbb.cell (p := ⟨wr.heap.size, 1, none⟩) hxa).trans x1
            have y2 := (hbb.cell (p := ⟨wr.heap.size, 2, none⟩) hxa).trans x2
            have sb := hbb.size
            have Bw := Ba.trans (hbb.mono Ba.size)
            have HMB := Lib.hid (HM.out.below Bw)
            have hb7 := hb6.trans (Bw.mono hb6.size)
            clear x0 x1 x2
            by_cases hin : kx ∈ kms ms i
            · have HV := Lib.hid (setM_yes hin)
              obtain rfl := HD.out hin
              clear HN HD hin
              go_wp2_with (at_lookup; refine wpList_look rfl _ _ 151 rfl HMB.out law_mkey Tryz.underlying151 (zero_boolM _) rfl rfl HKK.out (mkey_some HKK.out) ?_; rw [HV.out])
              go_ret
              exact ⟨rfl, hbr.trans (hb7.mono hbr.size)⟩
            · have HV := Lib.hid (setM_no hin)
              have HP := Lib.hid (fun x => setM_put (kms ms i) kx x)
              have HQ := Lib.hid (HN.out hin)
              clear HN HD hin
              go_wp2_with (at_lookup; refine wpList_look rfl _ _ 151 rfl HMB.out law_mkey Tryz.underlying151 (zero_boolM _) rfl rfl HKK.out (mkey_some HKK.out) ?_; rw [HV.out])
              with_reducible refine (KO.out Wb).mono ?_
              rintro e Wc ⟨rfl, hbc⟩
              have HMC := Lib.hid (HMB.out.below hbc)
              have hb8 := hb7.trans (hbc.mono hb7.size)
              have sc := hbc.size
              clear y0 y1 y2 HMB
              go_wp2_with (at_mapUpdate; refine wpList_mput rfl _ _ _ 151 rfl HMC.out law_mkey Tryz.underlying151 (by unfold maxLen; omega) rfl rfl rfl HKK.out (mkey_some HKK.out) (fun y hy e => mlit_inj hy HKK.out e) ?_; intro w9 hM9 hg9; have HM9 := Lib.hid hM9; have HG9 := Lib.hid hg9; have sg := hg9.size; clear hM9 hg9)
              go_roundw
              case rel => exact ⟨i + 1, by omega, by go_num, HQ.out, by rw [HE.out]; exact HM9.out.ext (fun x _ => HP.out x), below_grown hb8 HG9.out (Nat.le_refl _) hb8.size, by omega⟩
              case measure => simp [intOf]; omega
          · have hnd := HND.out
            unfold kms at hnd
            rw [List.take_of_length_le (show ms.length ≤ i by omega)] at hnd
            obtain rfl := E4''.out hnd
            clear hnd HND
            go_wp2_with fail
            go_ret
            exact ⟨rfl, hbr.trans (hb6.mono hbr.size)⟩

end Go.Proofs.YtpfbnikbebccjaaGreatDoor
/- Contracts of the reference's functions on mappings, and of mapping.Get. Written by gen_refmap.py. -/
namespace Go.Proofs.YtpfbnikbebccjaaGreatDoor
open Go.RowKit Go.Maps Go.WideMaps

section
variable {ms : List Mp}
end
section
variable {ms : List Mp}
end

section
variable {ms : List Mp}
end

/-- the result of a look for a mapping -/
def RetGet (r : Option (List Int)) (w : World) (e : Ending) (w' : World) : Prop := ∃ E d, e = .returned (.tuple #[.slice E (r.getD []).length d, .bool r.isSome]) ∧ (r.getD []).length ≤ d ∧ Ints w' E (r.getD []) ∧ Below w.heap.size w w'

end Go.Proofs.YtpfbnikbebccjaaGreatDoor
/- Contracts of decompose.once$1, BinarySearchFunc at mappings, and decompose.once: what a number is replaced by, where the mappings are in order. -/
namespace Go.Proofs.YtpfbnikbebccjaaGreatDoor
open Go.RowKit

/-- the mappings are in order, with at most one for each number -/
def StF (ms : List Mp) : Prop := ∀ i j, (hi : i < ms.length) → (hj : j < ms.length) → i < j → ms[i].frm < ms[j].frm

theorem onceF_any (f : Int) (va : Value) (t : ByteArray) (c : Int) (w : World) : Calls Tryz.prog 138 #[.agg #[.int .i64 f, va, .string t], .int .i64 c] w (RetInt (cmpI f c) w) := by
  have C := Lib.hid (fun W => cmpCompare_any f c W)
  generalize cmpI f c = r at *
  go_enter Tryz.func138, Tryz.ntmps138
  go_wp2_with fail
  with_reducible refine (C.out _).mono ?_
  rintro e w1 ⟨rfl, rfl⟩
  go_wp2_with fail
  go_ret
  exact ⟨rfl, (Below.refl _ _).alloc (Nat.le_refl _) _⟩

/-- where a search for a number ends -/
structure SrchM (ms : List Mp) (c : Int) (i : Nat) (f : Bool) : Prop where
  le : i ≤ ms.length
  lo : ∀ t, (ht : t < ms.length) → t < i → ms[t].frm < c
  hi : ∀ t, (ht : t < ms.length) → i ≤ t → c ≤ ms[t].frm
  fd : f = decide (∃ h : i < ms.length, ms[i].frm = c)
def RetSrchM (ms : List Mp) (c : Int) (w : World) (e : Ending) (w' : World) : Prop := ∃ (i : Nat) (f : Bool), e = .returned (.tuple #[.int .i64 i, .bool f]) ∧ SrchM ms c i f ∧ Below w.heap.size w w'

set_option maxHeartbeats 1600000 in
theorem bsearchM_any (A : Option Addr) (n k : Nat) (ms : List Mp) (c : Int) (w : World) (hA : Mps w A ms) (hn : ms.length = n) (hbig : n ≤ 1048576) (hasc : StF ms) :
    Calls Tryz.prog 137 #[.slice A n k, .int .i64 c, .func (.func 138) #[] #[]] w (RetSrchM ms c w) := by
  subst hn
  have HS := Lib.hid hasc; clear hasc
  go_enter Tryz.func137, Tryz.ntmps137
  go_wp2
  go_loopw [9, 10] (fun u v wr => ∃ i j : Nat, i ≤ j ∧ j ≤ ms.length ∧ u = .int .i64 i ∧ v = .int .i64 j ∧ (∀ t, (ht : t < ms.length) → t < i → ms[t].frm < c) ∧ (∀ t, (ht : t < ms.length) → j ≤ t → c ≤ ms[t].frm) ∧ Below w.heap.size w wr)
    (fun u v _ => (intOf v).toNat - (intOf u).toNat)
  case atStart => exact ⟨0, ms.length, Nat.zero_le _, Nat.le_refl _, rfl, rfl, fun t _ h => by omega, fun t h1 h2 => by omega, Below.refl _ _⟩
  case round =>
    obtain ⟨i, j, hij, hj, rfl, rfl, hlo, hhi, hbel⟩ := hrel
    have HLO := Lib.hid hlo; have HHI := Lib.hid hhi; clear hlo hhi
    by_cases hlt : i < j
    · obtain ⟨h, hh, h1, h2, h3⟩ : ∃ h : Nat, ((i : Int) + (j : Int)) / 2 = (h : Int) ∧ i ≤ h ∧ h < j ∧ h < ms.length := ⟨(i + j) / 2, by omega, by omega, by omega, by omega⟩
      obtain ⟨b, o, rfl, _, hcell⟩ := (hA.below hbel).at h3
      obtain ⟨D, d, c1, c2, c3, _, _⟩ := hcell h h3
      clear hcell
      have HO := Lib.hid (fun t (ht : t < ms.length) (hth : t < h) => HS.out t h ht h3 hth)
      have HO2 := Lib.hid (fun t (ht : t < ms.length) (hth : h < t) => HS.out h t h3 ht hth)
      generalize hf : ms[h].frm = f at *
      generalize ms[h].to.length = tl at *
      generalize ms[h].tag = tg at *
      have E2 := Lib.hid hf
      have C := Lib.hid (fun W => onceF_any f (.slice D tl d) tg c W)
      clear hf
      by_cases hk : f < c
      · have hsc : cmpI f c = -1 := by unfold cmpI; rw [if_pos hk]
        rw [hsc] at C; clear hsc
        go_wp2_with (go_at_call 138; refine (C.out _).mono ?_; rintro e w1 ⟨rfl, hb1⟩)
        go_roundw
        case rel =>
          refine ⟨h + 1, j, by omega, hj, by go_num, rfl, fun t ht g => ?_, HHI.out, hbel.trans (hb1.mono hbel.size)⟩
          by_cases e : t = h
          · subst e; rw [E2.out]; exact hk
          · have a1 := HO.out t ht (by omega)
            omega
        case measure => simp [intOf]; omega
      · have hsc : 0 ≤ cmpI f c := by unfold cmpI; rw [if_neg hk]; split <;> omega
        generalize cmpI f c = sc at *
        go_wp2_with (go_at_call 138; refine (C.out _).mono ?_; rintro e w1 ⟨rfl, hb1⟩)
        go_roundw
        case rel =>
          refine ⟨i, h, h1, by omega, rfl, rfl, HLO.out, fun t ht g => ?_, hbel.trans (hb1.mono hbel.size)⟩
          by_cases e : t = h
          · subst e; rw [E2.out]; omega
          · have a1 := HO2.out t ht (by omega)
            omega
        case measure => simp [intOf]; omega
    · obtain rfl : i = j := by omega
      by_cases hend : i < ms.length
      · obtain ⟨b, o, rfl, _, hcell⟩ := (hA.below hbel).at hend
        obtain ⟨D, d, c1, c2, c3, _, _⟩ := hcell i hend
        clear hcell
        have hci := HHI.out i hend (Nat.le_refl _)
        have HF := Lib.hid (show decide (∃ h : i < ms.length, ms[i].frm = c) = (cmpI ms[i].frm c == 0) by
          rw [Bool.eq_iff_iff]; simp only [decide_eq_true_eq, beq_iff_eq]; unfold cmpI; rw [if_neg (by omega)]; split
          · constructor
            · rintro ⟨_, h⟩; omega
            · intro h; omega
          · exact ⟨fun _ => rfl, fun _ => ⟨hend, by omega⟩⟩)
        clear hci
        generalize ms[i].frm = f at *
        generalize ms[i].to.length = tl at *
        generalize ms[i].tag = tg at *
        have C := Lib.hid (fun W => onceF_any f (.slice D tl d) tg c W)
        generalize cmpI f c = sc at *
        go_wp2_with (go_at_call 138; refine (C.out _).mono ?_; rintro e w1 ⟨rfl, hb1⟩)
        go_ret2
        refine ⟨i, _, rfl, ⟨hj, HLO.out, HHI.out, ?_⟩, hbel.trans (hb1.mono hbel.size)⟩
        exact HF.out.symm
      · go_wp2_with fail
        go_ret2
        refine ⟨i, _, rfl, ⟨hj, HLO.out, HHI.out, ?_⟩, hbel⟩
        simp [hend]

theorem fndM_some {ms : List Mp} {compat : Bool} {c : Int} {i : Nat} (hs : StF ms) (hi : i < ms.length) (h : ms[i].frm = c) : fndM ms compat c = if compat = true ∨ ms[i].tag.size = 0 then some i else none := by
  by_cases e : compat = true ∨ ms[i].tag.size = 0
  · rw [if_pos e]
    unfold fndM
    rw [List.findIdx?_eq_some_iff_getElem]
    refine ⟨hi, by simpa [h] using e, fun j hj => ?_⟩
    have := hs j i (by omega) hi hj
    simp
    intro he
    omega
  · rw [if_neg e]
    unfold fndM
    rw [List.findIdx?_eq_none_iff]
    intro x hx
    obtain ⟨j, hj, rfl⟩ := List.getElem_of_mem hx
    by_cases g : j = i
    · subst g; simpa [h] using e
    · have : ¬ ms[j].frm = c := fun he => by
        rcases Nat.lt_or_gt_of_ne g with g | g
        · have := hs j i hj hi g; omega
        · have := hs i j hi hj g; omega
      simp [this]
theorem fndM_none {ms : List Mp} {compat : Bool} {c : Int} (h : ∀ i, (hi : i < ms.length) → ¬ ms[i].frm = c) : fndM ms compat c = none := by
  unfold fndM
  rw [List.findIdx?_eq_none_iff]
  intro x hx
  obtain ⟨j, hj, rfl⟩ := List.getElem_of_mem hx
  simp [h j hj]
theorem SrchM.no {ms : List Mp} {c : Int} {i : Nat} {compat : Bool} (hs : StF ms) (h : SrchM ms c i false) : fndM ms compat c = none := by
  refine fndM_none fun t ht e => ?_
  have hf := h.fd
  have hn : ¬ ∃ g : i < ms.length, ms[i].frm = c := by simpa using hf.symm
  by_cases g : t < i
  · have := h.lo t ht g; omega
  · by_cases g2 : t = i
    · subst g2; exact hn ⟨ht, e⟩
    · have h1 := h.hi i (by omega) (Nat.le_refl _)
      have h2 := hs i t (by omega) ht (by omega)
      omega

set_option maxRecDepth 100000 in
set_option maxHeartbeats 1600000 in
theorem once_any (A0 : Option Addr) (n0 k0 : Nat) (A1 : Option Addr) (n1 k1 : Nat) (A2 : Option Addr) (n2 k2 : Nat) (ms : List Mp) (c : Int) (compat : Bool) (w : World) (hA : Mps w A1 ms) (hn : ms.length = n1) (hbig : n1 ≤ 1048576) (hasc : StF ms) :
    Calls Tryz.prog 106 #[.agg #[.slice A0 n0 k0, .slice A1 n1 k1, .slice A2 n2 k2], .int .i64 c, .bool compat] w (RetGet (onM ms compat c) w) := by
  subst hn
  have K := Lib.hid (fun W => Kind_any c W)
  have D := Lib.hid (fun W => Decompose_any c W)
  have S := Lib.hid (fun W (hb : Below w.heap.size w W) => bsearchM_any A1 ms.length k1 ms c W (hA.below hb) rfl hbig hasc)
  have HS := Lib.hid hasc
  clear hasc
  have R4 := Lib.hid (fun (h : 4 ≤ Hg.kind c) => show onM ms compat c = some (Hg.decomp c) from if_pos h)
  have R0 := Lib.hid (fun (h : ¬ 4 ≤ Hg.kind c) => show onM ms compat c = (fndM ms compat c).map (toM ms) from if_neg h)
  generalize onM ms compat c = R at *
  generalize Hg.kind c = kc at *
  have B0 : Below w.heap.size w (w.alloc (.cells #[.slice A0 n0 k0, .slice A1 ms.length k1, .slice A2 n2 k2] 28)) := (Below.refl _ _).alloc (Nat.le_refl _) _
  have s0 : (w.alloc (.cells #[.slice A0 n0 k0, .slice A1 ms.length k1, .slice A2 n2 k2] 28)).heap.size = w.heap.size + 1 := by simp
  have q0 : (w.alloc (.cells #[.slice A0 n0 k0, .slice A1 ms.length k1, .slice A2 n2 k2] 28)).cell? ⟨w.heap.size, 1, none⟩ = some (.slice A1 ms.length k1) := by simp
  have W0E : ∃ W0, (w.alloc (.cells #[.slice A0 n0 k0, .slice A1 ms.length k1, .slice A2 n2 k2] 28)) = W0 := ⟨_, rfl⟩
  go_enter Tryz.func106, Tryz.ntmps106
  go_wp2_with fail
  obtain ⟨W0, hW0⟩ := W0E
  rw [hW0] at B0 s0 q0 ⊢
  clear hW0
  with_reducible refine (K.out _).mono ?_
  rintro e w1 ⟨rfl, rfl⟩
  by_cases h4 : 4 ≤ kc
  · obtain rfl := R4.out h4
    clear R4 R0
    generalize Hg.decomp c = zs at *
    go_wp2_with fail
    with_reducible refine (D.out _).mono ?_
    rintro e w1 ⟨E, d, rfl, hd, hE, hb⟩
    go_wp2_with fail
    go_ret2
    exact ⟨E, d, rfl, hd, hE, B0.trans (hb.mono B0.size)⟩
  · have HR := Lib.hid (R0.out (by omega))
    clear R4 R0
    go_wp2_with fail
    with_reducible refine (S.out _ B0).mono ?_
    rintro e W1 ⟨i, f, rfl, hs, hb1⟩
    have hb := B0.trans (hb1.mono B0.size)
    have q1 : W1.cell? ⟨w.heap.size, 1, none⟩ = some (.slice A1 ms.length k1) := (hb1.cell (show w.heap.size < W0.heap.size by omega)).trans q0
    cases f with
    | false =>
      obtain rfl : R = none := by rw [HR.out, hs.no HS.out]; rfl
      clear hs
      go_wp2_with fail
      go_ret2
      exact ⟨.none, 0, rfl, Nat.le_refl _, Sl.nil _ _, hb⟩
    | true =>
      obtain ⟨hi, hfr⟩ : ∃ h : i < ms.length, ms[i].frm = c := by simpa using hs.fd.symm
      have hfd := fndM_some (compat := compat) HS.out hi hfr
      have hto : toM ms i = ms[i].to := by simp [toM, List.getD, hi]
      obtain ⟨b, o, rfl, _, hcell⟩ := (hA.below hb).at hi
      obtain ⟨E, d, c1, c2, c3, c4, c5⟩ := hcell i hi
      clear hcell hs
      have HR2 := Lib.hid (HR.out.trans (by rw [hfd]))
      clear hfd HR
      generalize hto2 : ms[i].to = to at *
      generalize ms[i].tag = tg at *
      clear hto2
      by_cases ht : tg.size = 0
      · have g0 : tg.toList = [] := str_nil ht
        obtain rfl : R = some to := by rw [HR2.out, if_pos (.inr ht), Option.map_some, hto]
        clear hto HR2
        go_wp2_with fail
        go_ret2
        exact ⟨E, d, rfl, c4, c5, hb⟩
      · have g0 : ¬ tg.toList = [] := str_cons ht
        have g1 : tg.toList.isEmpty = false := by simpa using g0
        cases compat with
        | true =>
          obtain rfl : R = some to := by rw [HR2.out, if_pos (.inl rfl), Option.map_some, hto]
          clear hto HR2
          go_wp2_with fail
          go_ret2
          exact ⟨E, d, rfl, c4, c5, hb⟩
        | false =>
          obtain rfl : R = none := by rw [HR2.out, if_neg (by simp [ht]), Option.map_none]
          clear hto HR2
          go_wp2_with fail
          go_ret2
          exact ⟨.none, 0, rfl, Nat.le_refl _, Sl.nil _ _, hb⟩

end Go.Proofs.YtpfbnikbebccjaaGreatDoor
/- Maps whose keys are ints. -/
namespace Go.Proofs.YtpfbnikbebccjaaGreatDoor
open Go.RowKit Go.Maps Go.WideMaps

/-- numbers that may be keys -/
def iok (z : Int) : Prop := (Lit.int .i64 z).wf = true
def ikey (z : Int) : Lit := .int .i64 z
theorem ikey_inj {y z : Int} (h : ikey y = ikey z) : y = z := by injection h
theorem law_int : Keyed Tryz.prog 3 := int_keyed Tryz.underlying3
theorem key_int {z : Int} (h : iok z) : keyOf Tryz.prog 3 (.int .i64 z) = some (ikey z) := keyOf_int_mk Tryz.underlying3 h
abbrev MapI (w : World) (b n : Nat) (f : Int → Option Value) : Prop := MapIs Tryz.prog 3 ikey iok w b n f
end Go.Proofs.YtpfbnikbebccjaaGreatDoor
/- The memory of decompose.measure while it searches: the data, two flags, the map of sizes, the closure. -/
namespace Go.Proofs.YtpfbnikbebccjaaGreatDoor
open Go.RowKit Go.Maps Go.WideMaps

/-- all blocks but the flags and the map are asq they were -/
def KeepD (s : Nat) (w w' : World) : Prop := w.heap.size ≤ w'.heap.size ∧ ∀ b, b < w.heap.size → b ≠ s + 1 → b ≠ s + 2 → b ≠ s + 3 → w'.heap[b]? = w.heap[b]?
section
variable {s : Nat} {a b c : World}
theorem KeepD.refl (s : Nat) (a : World) : KeepD s a a := ⟨Nat.le_refl _, fun _ _ _ _ _ => rfl⟩
theorem KeepD.trans (h : KeepD s a b) (k : KeepD s b c) : KeepD s a c := ⟨Nat.le_trans h.1 k.1, fun q hq h1 h2 h3 => (k.2 q (Nat.lt_of_lt_of_le hq h.1) h1 h2 h3).trans (h.2 q hq h1 h2 h3)⟩
theorem KeepD.of_below (h : Below a.heap.size a b) : KeepD s a b := ⟨h.size, fun q hq _ _ _ => h.block q hq⟩
theorem KeepD.of_grown {u : Nat} (h : a.grownBy b (some u)) (hu : u = s + 1 ∨ u = s + 2 ∨ u = s + 3) : KeepD s a b := ⟨h.size, fun q hq h1 h2 h3 => h.block q hq (fun e => by injection e with e; omega)⟩
end

/-- the memory of the search: s the first block -/
structure MS (A0 : Option Addr) (n0 k0 : Nat) (A1 : Option Addr) (n1 k1 : Nat) (A2 : Option Addr) (n2 k2 : Nat) (s : Nat) (w : World) (n : Nat) (mk : Int → Option Int) (cyc lng : Bool) : Prop where
  bN : Box w s 28 [.slice A0 n0 k0, .slice A1 n1 k1, .slice A2 n2 k2]
  bC : Box w (s + 1) 4 [.bool cyc]
  bL : Box w (s + 2) 4 [.bool lng]
  mp : MapI w (s + 3) n (fun c => (mk c).map (fun k => .int .i64 k))
  bM : Box w (s + 4) 160 [.map (some (s + 3))]
  bS : Box w (s + 5) 65 [.func (.func 105) #[] #[.pointer (some ⟨s, 0, none⟩), .pointer (some ⟨s + 4, 0, none⟩), .pointer (some ⟨s + 1, 0, none⟩), .pointer (some ⟨s + 5, 0, none⟩), .pointer (some ⟨s + 2, 0, none⟩)]]

section
variable {A0 : Option Addr} {n0 k0 : Nat} {A1 : Option Addr} {n1 k1 : Nat} {A2 : Option Addr} {n2 k2 : Nat} {s : Nat} {w w' : World} {n : Nat} {mk : Int → Option Int} {cyc lng : Bool}
theorem MS.below (h : MS A0 n0 k0 A1 n1 k1 A2 n2 k2 s w n mk cyc lng) (hb : Below w.heap.size w w') : MS A0 n0 k0 A1 n1 k1 A2 n2 k2 s w' n mk cyc lng :=
  ⟨h.bN.below hb h.bN.lt, h.bC.below hb h.bC.lt, h.bL.below hb h.bL.lt, h.mp.below hb, h.bM.below hb h.bM.lt, h.bS.below hb h.bS.lt⟩
theorem MS.setC (h : MS A0 n0 k0 A1 n1 k1 A2 n2 k2 s w n mk cyc lng) (x : Bool) : MS A0 n0 k0 A1 n1 k1 A2 n2 k2 s (w.setCell ⟨s + 1, 0, none⟩ (.bool x)) n mk x lng := by
  have hg := grown_set w ⟨s + 1, 0, none⟩ (.bool x)
  exact ⟨h.bN.grown hg (by simp), h.bC.set 0 _, h.bL.grown hg (by simp), h.mp.kept hg (by simp), h.bM.grown hg (by simp), h.bS.grown hg (by simp)⟩
theorem MS.setL (h : MS A0 n0 k0 A1 n1 k1 A2 n2 k2 s w n mk cyc lng) (x : Bool) : MS A0 n0 k0 A1 n1 k1 A2 n2 k2 s (w.setCell ⟨s + 2, 0, none⟩ (.bool x)) n mk cyc x := by
  have hg := grown_set w ⟨s + 2, 0, none⟩ (.bool x)
  exact ⟨h.bN.grown hg (by simp), h.bC.grown hg (by simp), h.bL.set 0 _, h.mp.kept hg (by simp), h.bM.grown hg (by simp), h.bS.grown hg (by simp)⟩
theorem MS.put (h : MS A0 n0 k0 A1 n1 k1 A2 n2 k2 s w n mk cyc lng) {m : Nat} {c k : Int} (hm : MapI w' (s + 3) m (fun y => if y = c then some (.int .i64 k) else (mk y).map (fun k => .int .i64 k))) (hg : w.grownBy w' (some (s + 3))) :
    MS A0 n0 k0 A1 n1 k1 A2 n2 k2 s w' m (putM mk c k) cyc lng := by
  refine ⟨h.bN.grown hg (by simp), h.bC.grown hg (by simp), h.bL.grown hg (by simp), hm.ext fun x _ => ?_, h.bM.grown hg (by simp), h.bS.grown hg (by simp)⟩
  unfold putM
  split <;> rfl
theorem MS.ints (h : MS A0 n0 k0 A1 n1 k1 A2 n2 k2 s w n mk cyc lng) (hk : KeepD s w w') {E : Option Addr} {zs : List Int} (hs : Ints w E zs) : Ints w' E zs := fun hne => by
  obtain ⟨q, o, rfl, hc⟩ := hs hne
  refine ⟨q, o, rfl, fun j u hu => ?_⟩
  have h1 := hc j u hu
  have hi : ∃ z, u = .int .i64 z := by
    rw [List.getElem?_map] at hu
    cases hz : zs[j]? with
    | none => rw [hz] at hu; cases hu
    | some z => rw [hz] at hu; injection hu with hu; exact ⟨z, hu.symm⟩
  obtain ⟨z, rfl⟩ := hi
  have flag : ∀ (B : Nat) (x : Bool), Box w B 4 [.bool x] → q ≠ B := fun B x hB e => by
    subst e
    unfold Box at hB
    generalize o + j = m at h1
    rcases m with _ | m
    · simp [World.cell?, hB] at h1
    · simp [World.cell?, hB] at h1
  have hq3 : q ≠ s + 3 := fun e => by rw [e, h.mp.nocell] at h1; cases h1
  exact (World.cell?_of_block (hk.2 q (World.block_lt_of_cell? w _ h1) (flag _ _ h.bC) (flag _ _ h.bL) hq3)).trans h1
end
end Go.Proofs.YtpfbnikbebccjaaGreatDoor
/- The contract of decompose.measure$1: the size of what a number is replaced by, with marks. -/
namespace Go.Proofs.YtpfbnikbebccjaaGreatDoor
open Go.RowKit Go.Maps Go.WideMaps

/-- all numbers are code points, no list is too long -/
def CodesOk (ms : List Mp) : Prop := ∀ i, (hi : i < ms.length) → (0 ≤ ms[i].frm ∧ ms[i].frm ≤ 1114111) ∧ ms[i].to.length ≤ 64 ∧ ∀ e ∈ ms[i].to, 0 ≤ e ∧ e ≤ 1114111
def hk (c : Int) : Nat := if 4 ≤ Hg.kind c then 1 else 0
def fsM (ms : List Mp) : List Int := ms.map Mp.frm
theorem hk_le (c : Int) : hk c ≤ 1 := by unfold hk; split <;> omega
theorem decomp_kids {c : Int} (h : 4 ≤ Hg.kind c) : (Hg.decomp c).length ≤ 3 ∧ ∀ e ∈ Hg.decomp c, (0 ≤ e ∧ e ≤ 1114111) ∧ hk e = 0 ∧ 1 ≤ Hg.kind e := by
  have h5 := (Hg.kind_range c).2
  have k1 : ∀ e : Int, 0x1100 ≤ e ∧ e ≤ 0x1112 → (0 ≤ e ∧ e ≤ 1114111) ∧ hk e = 0 ∧ 1 ≤ Hg.kind e := fun e he => ⟨by omega, by unfold hk; rw [Hg.kind1 he]; rfl, by rw [Hg.kind1 he]; omega⟩
  have k2 : ∀ e : Int, 0x1161 ≤ e ∧ e ≤ 0x1175 → (0 ≤ e ∧ e ≤ 1114111) ∧ hk e = 0 ∧ 1 ≤ Hg.kind e := fun e he => ⟨by omega, by unfold hk; rw [Hg.kind2 he]; rfl, by rw [Hg.kind2 he]; omega⟩
  have k3 : ∀ e : Int, 0x11A8 ≤ e ∧ e ≤ 0x11C2 → (0 ≤ e ∧ e ≤ 1114111) ∧ hk e = 0 ∧ 1 ≤ Hg.kind e := fun e he => ⟨by omega, by unfold hk; rw [Hg.kind3 he]; rfl, by rw [Hg.kind3 he]; omega⟩
  by_cases h4 : Hg.kind c = 4
  · obtain ⟨b1, b2, b3⟩ := kind_is4 h4
    rw [decomp_2 h4]
    refine ⟨by simp, fun e he => ?_⟩
    simp only [List.mem_cons, List.not_mem_nil, or_false] at he
    rcases he with rfl | rfl
    · exact k1 _ (by omega)
    · exact k2 _ (by omega)
  · have h4' : Hg.kind c = 5 := by omega
    obtain ⟨b1, b2, b3⟩ := kind_is5 h4'
    rw [decomp_3 h4']
    refine ⟨by simp, fun e he => ?_⟩
    simp only [List.mem_cons, List.not_mem_nil, or_false] at he
    rcases he with rfl | rfl | rfl
    · exact k1 _ (by omega)
    · exact k2 _ (by omega)
    · exact k3 _ (by omega)
theorem fndM_at {ms : List Mp} {b : Bool} {c : Int} {i : Nat} (h : fndM ms b c = some i) : ∃ hi : i < ms.length, ms[i].frm = c ∧ (b = true ∨ ms[i].tag.size = 0) := by
  unfold fndM at h
  rw [List.findIdx?_eq_some_iff_getElem] at h
  obtain ⟨hi, h1, _⟩ := h
  exact ⟨hi, by simpa using h1⟩
theorem onM_kids {ms : List Mp} {b : Bool} {c : Int} {to : List Int} (hc : CodesOk ms) (h : onM ms b c = some to) :
    to.length ≤ 64 ∧ (∀ e ∈ to, 0 ≤ e ∧ e ≤ 1114111) ∧ ((hk c = 1 ∧ to.length ≤ 3 ∧ ∀ e ∈ to, hk e = 0) ∨ (hk c = 0 ∧ c ∈ fsM ms)) := by
  unfold onM at h
  split at h
  · next h4 =>
    injection h with h
    subst h
    obtain ⟨h1, h2⟩ := decomp_kids h4
    exact ⟨by omega, fun e he => (h2 e he).1, .inl ⟨by unfold hk; rw [if_pos h4], h1, fun e he => (h2 e he).2.1⟩⟩
  · next h4 =>
    cases hf : fndM ms b c with
    | none => rw [hf] at h; cases h
    | some i =>
      rw [hf] at h
      injection h with h
      obtain ⟨hi, h1, _⟩ := fndM_at hf
      have ht : toM ms i = ms[i].to := by simp [toM, List.getD, hi]
      rw [ht] at h
      subst h
      obtain ⟨q1, q2, q3⟩ := hc i hi
      exact ⟨q2, q3, .inr ⟨by unfold hk; rw [if_neg h4], List.mem_map.2 ⟨ms[i], List.getElem_mem hi, h1⟩⟩⟩
theorem iok_code {c : Int} (h : 0 ≤ c ∧ c ≤ 1114111) : iok c := by
  unfold iok Lit.wf
  simp [IntKind.min, IntKind.max, IntKind.signed, IntKind.bits]
  omega
theorem zero_intM (w : World) : (zeroValue 3).run Tryz.prog w = .ok (.int .i64 0) w := by kernel_rfl

/-- what the search has found for c -/
structure SzPost (A0 : Option Addr) (n0 k0 : Nat) (A1 : Option Addr) (n1 k1 : Nat) (A2 : Option Addr) (n2 k2 : Nat) (s : Nat) (ms : List Mp) (c : Int) (w : World) (n : Nat) (mk : Int → Option Int) (cyc : Bool) (v : Int) (w' : World) (n' : Nat) (mk' : Int → Option Int) (cyc' lng' : Bool) : Prop where
  bd : 1 ≤ v ∧ v ≤ capE
  ext : DExt mk mk'
  inv : DInv (onM ms true) capE mxE mk' cyc' lng'
  mon : cyc = true → cyc' = true
  sz : cyc' = false → Sz (onM ms true) capE c v
  st : MS A0 n0 k0 A1 n1 k1 A2 n2 k2 s w' n' mk' cyc' lng'
  kp : KeepD s w w'
  bel : Below s w w'
  pot : n' + 200 * unmarked (fsM ms) mk' ≤ n + 200 * unmarked (fsM ms) mk + 2 * hk c
  mkd : ∀ to, onM ms true c = some to → to ≠ [] → ∃ k, mk' c = some k
end Go.Proofs.YtpfbnikbebccjaaGreatDoor
