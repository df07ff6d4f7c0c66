/- Texts that are merged into one file: RefMap, Once. -/
import Derived.Test.YtjglanjfgbipmaaGreatDoorG03
import Derived.Test.YtjglanjfgbipmaaGreatDoorG06
import Derived.Test.YtjglanjfgbipmaaGreatDoorG07
/- Contracts of the reference's functions on mappings, and of mapping.Get. Written by gen_refmap.py. -/
namespace Go.Proofs.YtjglanjfgbipmaaGreatDoor
open Go.RowKit Go.Maps Go.WideMaps

set_option maxRecDepth 100000 in
set_option maxHeartbeats 3200000 in
theorem refCodes_any (m : Mp) (C : Option Addr) (cc : Nat) (w : World) (hC : Ints w C m.to) (hz : m.to.length ≤ 1048576) :
    Calls Tryz.prog 109 #[.agg #[.int .i64 m.frm, .slice C m.to.length cc, .string m.tag]] w (RetBool (!mpBad m) w) := by
  have M0 := Lib.hid (mpBad_from (m := m))
  have M1 := Lib.hid (fun k hk h => mpBad_to (m := m) (k := k) hk h)
  have M2 := Lib.hid (mpBad_no (m := m))
  generalize mpBad m = bd at *
  obtain ⟨mf, mt, mg⟩ := m
  dsimp only at *
  have Ba : Below w.heap.size w (w.alloc (.cells #[.int .i64 mf, .slice C mt.length cc, .string mg] 52)) := (Below.refl _ _).alloc (Nat.le_refl _) _
  have HC := Lib.hid (hC.below Ba)
  have e0 : (w.alloc (.cells #[.int .i64 mf, .slice C mt.length cc, .string mg] 52)).cell? ⟨w.heap.size, 0, none⟩ = some (.int .i64 mf) := by simp
  have e1 : (w.alloc (.cells #[.int .i64 mf, .slice C mt.length cc, .string mg] 52)).cell? ⟨w.heap.size, 1, none⟩ = some (.slice C mt.length cc) := by simp
  have sa : (w.alloc (.cells #[.int .i64 mf, .slice C mt.length cc, .string mg] 52)).heap.size = w.heap.size + 1 := by simp
  have WaE : ∃ Wa, (w.alloc (.cells #[.int .i64 mf, .slice C mt.length cc, .string mg] 52)) = Wa := ⟨_, rfl⟩
  clear hC
  go_enter Tryz.func109, Tryz.ntmps109
  go_wp2_with fail
  obtain ⟨Wa, hWa⟩ := WaE
  rw [hWa] at Ba HC e0 e1 sa ⊢
  clear hWa
  go_loop [3] (fun u => ∃ k : Nat, k ≤ mt.length ∧ u = .int .i64 k ∧ (∀ t, (ht : t < mt.length) → t < k → inR 0 1114111 mt[t] = true)) (fun u => mt.length - (intOf u).toNat)
  case atStart => exact ⟨0, Nat.zero_le _, rfl, fun t _ h => by omega⟩
  case round =>
    obtain ⟨k, hk, rfl, hok⟩ := hrel
    have HOK := Lib.hid hok
    clear hok
    by_cases hltk : k < mt.length
    · obtain ⟨b2, o2, rfl, hc2⟩ := HC.out.at hltk
      have d0 := hc2 k hltk
      have HBK := Lib.hid (fun h => M1.out k hltk h)
      have HNK := Lib.hid (fun h => all_up (P := fun z => inR 0 1114111 z = true) hltk HOK.out h)
      clear hc2
      generalize mt[k] = z at *
      cases hvz : inR 0 1114111 z with
      | false =>
        obtain rfl := HBK.out hvz
        go_wp2_with (go_at_call 46; refine (refValid_any z _).mono ?_; rw [hvz]; rintro e w' ⟨rfl, rfl⟩)
        go_ret
        exact ⟨rfl, Ba⟩
      | true =>
        have HQ := Lib.hid (HNK.out hvz)
        go_wp2_with (go_at_call 46; refine (refValid_any z _).mono ?_; rw [hvz]; rintro e w' ⟨rfl, rfl⟩)
        go_round
        case rel => exact ⟨k + 1, by omega, by go_num, HQ.out⟩
        case measure => simp [intOf]; omega
    · cases hv : inR 0 1114111 mf with
      | false =>
        obtain rfl := M0.out hv
        go_wp2_with (go_at_call 46; refine (refValid_any mf _).mono ?_; rw [hv]; rintro e w' ⟨rfl, rfl⟩)
        go_ret
        exact ⟨rfl, Ba⟩
      | true =>
        obtain rfl := M2.out hv (fun t ht => HOK.out t ht (by omega))
        go_wp2_with (go_at_call 46; refine (refValid_any mf _).mono ?_; rw [hv]; rintro e w' ⟨rfl, rfl⟩)
        go_ret
        exact ⟨rfl, Ba⟩

set_option maxRecDepth 100000 in
set_option maxHeartbeats 3200000 in
theorem refBefore_any (a b : Mp) (va vb : Value) (w : World) :
    Calls Tryz.prog 92 #[.agg #[.int .i64 a.frm, va, .string a.tag], .agg #[.int .i64 b.frm, vb, .string b.tag]] w (RetBool (befM a b) w) := by
  unfold befM bl
  obtain ⟨fa, ta, tga⟩ := a
  obtain ⟨fb, tb, tgb⟩ := b
  dsimp only
  have B0 : Below w.heap.size w ((w.alloc (.cells #[.int .i64 fa, va, .string tga] 52)).alloc (.cells #[.int .i64 fb, vb, .string tgb] 52)) := ((Below.refl _ _).alloc (Nat.le_refl _) _).alloc (by simp) _
  by_cases h1 : fa < fb
  · have q1 : decide (fa < fb) = true := by simpa using h1
    go_enter Tryz.func92, Tryz.ntmps92
    go_wp2_with fail
    go_ret
    exact ⟨by simp [h1], B0⟩
  · have q1 : decide (fa < fb) = false := by simpa using h1
    by_cases h2 : fa = fb
    · have q2 : (fa == fb) = true := by simpa using h2
      rw [q1, q2]
      clear h1 h2
      go_enter Tryz.func92, Tryz.ntmps92
      go_wp2_with fail
      go_ret
      exact ⟨rfl, B0⟩
    · have q2 : (fa == fb) = false := by simpa using h2
      rw [q1, q2]
      go_enter Tryz.func92, Tryz.ntmps92
      go_wp2_with fail
      go_ret
      exact ⟨rfl, B0⟩

section
variable {ms : List Mp}
theorem dup_yes {i k : Nat} (hi : i < ms.length) (hk : k < i) (h : keyM ms[i] = keyM (ms[k]'(by omega))) : ¬ (ms.map keyM).Nodup := fun hn => by
  have := List.pairwise_iff_getElem.1 hn k i (by simp; omega) (by simpa using hi) hk
  simp at this
  exact this h.symm
theorem dup_no (h : ∀ i, (hi : i < ms.length) → ∀ k, (hk : k < i) → keyM ms[i] ≠ keyM (ms[k]'(by omega))) : (ms.map keyM).Nodup := by
  refine List.pairwise_iff_getElem.2 (fun k i hk hi hki => ?_)
  have := h i (by simpa using hi) k hki
  simp
  exact fun e => this e.symm
end
def dupM (ms : List Mp) : Bool := !decide (ms.map keyM).Nodup

set_option maxRecDepth 100000 in
set_option maxHeartbeats 3200000 in
theorem refTwice_any (A : Option Addr) (n a : Nat) (ms : List Mp) (w : World) (hA : Mps w A ms) (hn : ms.length = n) (hz : MpsSz ms) :
    Calls Tryz.prog 111 #[.slice A n a] w (fun e w' => e = .returned (.bool (dupM ms)) ∧ Qt w w') := by
  subst hn
  have HA := Lib.hid hA
  have hnz := hz.n
  have DY := Lib.hid (fun i (hi : i < ms.length) k (hk : k < i) (h : keyM ms[i] = keyM (ms[k]'(by omega))) => show dupM ms = true by unfold dupM; simpa using dup_yes (i := i) (k := k) hi hk h)
  have DN := Lib.hid (fun h => show dupM ms = false by unfold dupM; simpa using dup_no (ms := ms) h)
  generalize dupM ms = R at *
  clear hA hz
  go_enter Tryz.func111, Tryz.ntmps111
  go_wp2_with fail
  go_loopw [3] (fun u wr => ∃ i : Nat, i ≤ ms.length ∧ u = .int .i64 i ∧ (∀ s, (hs : s < ms.length) → s < i → ∀ k, (hk : k < s) → keyM ms[s] ≠ keyM (ms[k]'(by omega))) ∧ Qt w wr) (fun u _ => ms.length - (intOf u).toNat)
  case atStart => exact ⟨0, Nat.zero_le _, rfl, fun s _ h => by omega, Qt.refl _⟩
  case round =>
    obtain ⟨i, hi, rfl, hno, hq⟩ := hrel
    have HNO := Lib.hid hno
    clear hno
    by_cases hlt : i < ms.length
    · obtain ⟨wr0, rfl⟩ : ∃ wr0 : World, wr0 = wr := ⟨_, rfl⟩
      have DYI := Lib.hid (fun k hk h => DY.out i hlt k hk h)
      have HUP := Lib.hid (fun (h : ∀ k, (hk : k < i) → keyM ms[i] ≠ keyM (ms[k]'(by omega))) => show ∀ s, (hs : s < ms.length) → s < i + 1 → ∀ k, (hk : k < s) → keyM ms[s] ≠ keyM (ms[k]'(by omega)) from fun s hs hsi => by
        by_cases e : s < i
        · exact HNO.out s hs e
        · obtain rfl : s = i := by omega
          exact h)
      go_wp2_with fail
      go_loopw [4] (fun u wr => ∃ k : Nat, k ≤ i ∧ u = .int .i64 k ∧ (∀ t, (ht : t < i) → t < k → keyM ms[i] ≠ keyM (ms[t]'(by omega))) ∧ Qt w wr) (fun u _ => i - (intOf u).toNat)
      case atStart => exact ⟨0, Nat.zero_le _, rfl, fun t _ h => by omega, hq⟩
      case round =>
        obtain ⟨k, hk, rfl, hnk, hqk⟩ := hrel
        have HNK := Lib.hid hnk
        clear hnk
        by_cases hltk : k < i
        · obtain ⟨b1, o1, rfl, hbl, hcell⟩ := (HA.out.below hqk.below).at hlt
          obtain ⟨C, cc, c0, c1, c2, _, _⟩ := hcell i hlt
          obtain ⟨D, dd, d0, d1, d2, _, _⟩ := hcell k (by omega)
          have HY := Lib.hid (fun h => DYI.out k hltk h)
          have HN := Lib.hid (fun (h : keyM ms[i] ≠ keyM (ms[k]'(by omega))) => show ∀ t, (ht : t < i) → t < k + 1 → keyM ms[i] ≠ keyM (ms[t]'(by omega)) from fun t ht htk => by
            by_cases e : t < k
            · exact HNK.out t ht e
            · obtain rfl : t = k := by omega
              exact h)
          have HKE := Lib.hid (show keyM ms[i] = keyM (ms[k]'(by omega)) ↔ (ms[i].frm = (ms[k]'(by omega)).frm ∧ ms[i].tag = (ms[k]'(by omega)).tag) from ⟨fun h => by injection h with h1 h2; exact ⟨h1, h2⟩, fun h => by unfold keyM; rw [h.1, h.2]⟩)
          clear hcell c1 d1 HNK
          generalize hXX : keyM ms[i] = X at *
          generalize hYY : keyM (ms[k]'(by omega)) = Y at *
          clear hXX hYY
          generalize ms[i] = ma at *
          generalize (ms[k]'(by omega)) = mb at *
          obtain ⟨af, al, ag⟩ := ma
          obtain ⟨bf, bl', bg⟩ := mb
          dsimp only at *
          have i1 : (0 : Int) ≤ (i : Int) := by omega
          have i2 : (i : Int) < (ms.length : Int) := by omega
          have i3 : ((i : Int)).toNat = i := by omega
          have k1 : (0 : Int) ≤ (k : Int) := by omega
          have k2 : (k : Int) < (ms.length : Int) := by omega
          have k3 : ((k : Int)).toNat = k := by omega
          by_cases h1 : af = bf
          · have q1 : (af == bf) = true := by simpa using h1
            by_cases h2 : ag = bg
            · have q2 := str_eqT h2
              obtain rfl := HY.out (HKE.out.2 ⟨h1, h2⟩)
              clear HY HN HKE h1 h2 HUP DYI
              go_wp2_with fail
              go_quiet (fail)
              go_wp2_with fail
              go_ret
              exact ⟨rfl, hqk.drewN _⟩
            · have q2 := str_eqF h2
              have HQ := Lib.hid (HN.out (fun e => h2 (HKE.out.1 e).2))
              clear HY HN HKE h1 h2
              go_wp2_with fail
              go_quiet (fail)
              go_wp2_with fail
              go_roundw
              case rel => exact ⟨k + 1, by omega, by go_num, HQ.out, hqk.drewN _⟩
              case measure => simp [intOf]; omega
          · have q1 : (af == bf) = false := by simpa using h1
            have HQ := Lib.hid (HN.out (fun e => h1 (HKE.out.1 e).1))
            clear HY HN HKE h1
            go_wp2_with fail
            go_quiet (fail)
            go_wp2_with fail
            go_roundw
            case rel => exact ⟨k + 1, by omega, by go_num, HQ.out, hqk.drewN _⟩
            case measure => simp [intOf]; omega
        · have HQ := Lib.hid (HUP.out (fun t ht => HNK.out t ht (by omega)))
          clear HUP DYI HNK
          go_wp2_with fail
          go_roundw
          case rel => exact ⟨i + 1, by omega, by go_num, HQ.out, hqk⟩
          case measure => simp [intOf]; omega
    · obtain rfl := DN.out (fun s hs k hk => HNO.out s hs (by omega) k hk)
      go_wp2_with fail
      go_ret
      exact ⟨rfl, hq⟩

def unErr (ms : List Mp) : Int := if partsErr ms ≠ 0 then partsErr ms else if dupM ms = true then 5 else 0
section
variable {ms : List Mp}
theorem un1 {k : Nat} (hk : k < ms.length) (h : mpBad ms[k] = true) : unErr ms = 1 := by unfold unErr; rw [parts1 hk h]; rfl
theorem un2 (h1 : ∀ t, (ht : t < ms.length) → mpBad ms[t] = false) {k : Nat} (hk : k < ms.length) (h : 64 < ms[k].to.length) : unErr ms = 2 := by unfold unErr; rw [parts2 h1 hk h]; rfl
theorem un6 (h1 : ∀ t, (ht : t < ms.length) → mpBad ms[t] = false) (h2 : ∀ t, (ht : t < ms.length) → ¬ 64 < ms[t].to.length) {k : Nat} (hk : k < ms.length) (h : tagBad ms[k] = true) : unErr ms = 6 := by unfold unErr; rw [parts6 h1 h2 hk h]; rfl
theorem un0 (h1 : ∀ t, (ht : t < ms.length) → mpBad ms[t] = false) (h2 : ∀ t, (ht : t < ms.length) → ¬ 64 < ms[t].to.length) (h3 : ∀ t, (ht : t < ms.length) → tagBad ms[t] = false) : unErr ms = if dupM ms = true then 5 else 0 := by unfold unErr; rw [parts0 h1 h2 h3]; rfl
end

set_option maxRecDepth 100000 in
set_option maxHeartbeats 6400000 in
theorem refUnsorted_any (A : Option Addr) (n a : Nat) (ms : List Mp) (w : World) (hA : Mps w A ms) (hn : ms.length = n) (hz : MpsSz ms) :
    Calls Tryz.prog 91 #[.slice A n a] w (RetInt (unErr ms) w) := by
  subst hn
  have HA := Lib.hid hA
  have TC := Lib.hid (fun W hb => refTwice_any A ms.length a ms W (hA.below hb) rfl hz)
  have hnz := hz.n
  have HZ := Lib.hid hz.e
  have P1 := Lib.hid (fun k hk h => un1 (ms := ms) (k := k) hk h)
  have P2 := Lib.hid (fun h1 k hk h => un2 (ms := ms) h1 (k := k) hk h)
  have P6 := Lib.hid (fun h1 h2 k hk h => un6 (ms := ms) h1 h2 (k := k) hk h)
  have P0 := Lib.hid (un0 (ms := ms))
  clear hA hz
  generalize unErr ms = R at *
  go_enter Tryz.func91, Tryz.ntmps91
  go_wp2_with fail
  go_loopw [3] (fun u wr => ∃ i : Nat, i ≤ ms.length ∧ u = .int .i64 i ∧ (∀ t, (ht : t < ms.length) → t < i → mpBad ms[t] = false) ∧ Below w.heap.size w wr) (fun u _ => ms.length - (intOf u).toNat)
  case atStart => exact ⟨0, Nat.zero_le _, rfl, fun t _ h => by omega, Below.refl _ _⟩
  case round =>
    obtain ⟨i, hi, rfl, hno, hbr⟩ := hrel
    have HNO := Lib.hid hno
    clear hno
    by_cases hlt : i < ms.length
    · obtain ⟨b1, o1, rfl, hbl, hcell⟩ := (HA.out.below hbr).at hlt
      obtain ⟨C, cc, c0, c1, c2, hcc, hC⟩ := hcell i hlt
      obtain ⟨z1, z2⟩ := HZ.out i hlt
      have HB := Lib.hid (fun h => P1.out i hlt h)
      have HN := Lib.hid (fun h => all_up (P := fun m => mpBad m = false) hlt HNO.out h)
      have CC := Lib.hid (refCodes_any ms[i] C cc wr hC z1)
      clear hcell hC
      generalize ms[i] = mi at *
      generalize mpBad mi = bd at *
      obtain ⟨mf, mt, mg⟩ := mi
      dsimp only at *
      go_wp2_with fail
      with_reducible refine CC.out.mono ?_
      rintro e w1 ⟨rfl, hb1⟩
      have hb2 := hbr.trans (hb1.mono hbr.size)
      cases bd with
      | true =>
        obtain rfl := HB.out rfl
        go_wp2_with fail
        go_ret
        exact ⟨rfl, hb2⟩
      | false =>
        have HQ := Lib.hid (HN.out rfl)
        go_wp2_with fail
        go_roundw
        case rel => exact ⟨i + 1, by omega, by go_num, HQ.out, hb2⟩
        case measure => simp [intOf]; omega
    · have H1 := Lib.hid (fun t (ht : t < ms.length) => HNO.out t ht (by omega))
      clear HNO P1
      obtain ⟨W5, rfl⟩ : ∃ W5 : World, W5 = wr := ⟨_, rfl⟩
      go_wp2_with fail
      go_loop [4] (fun u => ∃ i : Nat, i ≤ ms.length ∧ u = .int .i64 i ∧ (∀ t, (ht : t < ms.length) → t < i → ¬ 64 < ms[t].to.length)) (fun u => ms.length - (intOf u).toNat)
      case atStart => exact ⟨0, Nat.zero_le _, rfl, fun t _ h => by omega⟩
      case round =>
        obtain ⟨i, hi, rfl, hno⟩ := hrel
        have HNO := Lib.hid hno
        clear hno
        by_cases hlt : i < ms.length
        · obtain ⟨b1, o1, rfl, hbl, hcell⟩ := (HA.out.below hbr).at hlt
          obtain ⟨C, cc, c0, c1, c2, hcc, hC⟩ := hcell i hlt
          obtain ⟨z1, z2⟩ := HZ.out i hlt
          have HB := Lib.hid (fun h => P2.out H1.out i hlt h)
          have HN := Lib.hid (fun h => all_up (P := fun m : Mp => ¬ 64 < m.to.length) hlt HNO.out h)
          clear hcell hC
          generalize ms[i] = mi at *
          obtain ⟨mf, mt, mg⟩ := mi
          dsimp only at *
          by_cases h64 : 64 < mt.length
          · have q1 : decide ((64 : Int) < (mt.length : Int)) = true := by simp; omega
            obtain rfl := HB.out h64
            go_wp2_with fail
            go_ret
            exact ⟨rfl, hbr⟩
          · have q1 : decide ((64 : Int) < (mt.length : Int)) = false := by simp; omega
            have HQ := Lib.hid (HN.out h64)
            go_wp2_with fail
            go_round
            case rel => exact ⟨i + 1, by omega, by go_num, HQ.out⟩
            case measure => simp [intOf]; omega
        · have H2 := Lib.hid (fun t (ht : t < ms.length) => HNO.out t ht (by omega))
          clear HNO P2
          go_wp2_with fail
          go_loop [5] (fun u => ∃ i : Nat, i ≤ ms.length ∧ u = .int .i64 i ∧ (∀ t, (ht : t < ms.length) → t < i → tagBad ms[t] = false)) (fun u => ms.length - (intOf u).toNat)
          case atStart => exact ⟨0, Nat.zero_le _, rfl, fun t _ h => by omega⟩
          case round =>
            obtain ⟨i, hi, rfl, hno⟩ := hrel
            have HNO := Lib.hid hno
            clear hno
            by_cases hlt : i < ms.length
            · obtain ⟨b1, o1, rfl, hbl, hcell⟩ := (HA.out.below hbr).at hlt
              obtain ⟨C, cc, c0, c1, c2, hcc, hC⟩ := hcell i hlt
              obtain ⟨z1, z2⟩ := HZ.out i hlt
              have HB := Lib.hid (fun h => P6.out H1.out H2.out i hlt h)
              have HN := Lib.hid (fun h => all_up (P := fun m : Mp => tagBad m = false) hlt HNO.out h)
              clear hcell hC
              generalize ms[i] = mi at *
              have T0 := Lib.hid (tagBad_empty (m := mi))
              have T1 := Lib.hid (tagBad_name (m := mi))
              generalize tagBad mi = tb at *
              obtain ⟨mf, mt, mg⟩ := mi
              dsimp only at *
              by_cases hg : mg.size = 0
              · have g0 : mg.toList = [] := str_nil hg
                have HQ := Lib.hid (HN.out (T0.out hg))
                clear T0 T1 HB HN
                go_wp2_with fail
                go_round
                case rel => exact ⟨i + 1, by omega, by go_num, HQ.out⟩
                case measure => simp [intOf]; omega
              · have g0 : ¬ mg.toList = [] := str_cons hg
                have g1 : mg.toList.isEmpty = false := by simpa using g0
                have hT := T1.out hg
                cases hnm : nameOk mg with
                | true =>
                  rw [hnm] at hT
                  have HQ := Lib.hid (HN.out hT)
                  clear hT T0 T1 HB HN
                  go_wp2_with (go_at_call 110; refine (Name_any mg _ z2).mono ?_; rw [hnm]; rintro e w' ⟨rfl, rfl⟩)
                  go_round
                  case rel => exact ⟨i + 1, by omega, by go_num, HQ.out⟩
                  case measure => simp [intOf]; omega
                | false =>
                  rw [hnm] at hT
                  obtain rfl := HB.out hT
                  clear hT T0 T1 HB HN
                  go_wp2_with (go_at_call 110; refine (Name_any mg _ z2).mono ?_; rw [hnm]; rintro e w' ⟨rfl, rfl⟩)
                  go_ret
                  exact ⟨rfl, hbr⟩
            · have hR := P0.out H1.out H2.out (fun t ht => HNO.out t ht (by omega))
              have HTC := Lib.hid (TC.out W5 hbr)
              clear TC P0 P6 HNO
              cases hd : dupM ms with
              | true =>
                rw [hd] at hR HTC
                have HR := Lib.hid hR
                clear hR hd
                go_wp2_with fail
                with_reducible refine HTC.out.mono ?_
                rintro e w1 ⟨rfl, hq⟩
                go_wp2_with fail
                go_ret
                exact ⟨ret_int HR.out.symm, hbr.trans (hq.below.mono hbr.size)⟩
              | false =>
                rw [hd] at hR HTC
                have HR := Lib.hid hR
                clear hR hd
                go_wp2_with fail
                with_reducible refine HTC.out.mono ?_
                rintro e w1 ⟨rfl, hq⟩
                go_wp2_with fail
                go_ret
                exact ⟨ret_int HR.out.symm, hbr.trans (hq.below.mono hbr.size)⟩

section
variable {ms : List Mp}
theorem unD : dupM ms = !decide (ms.map keyM).Nodup := rfl
theorem refU (h : unErr ms ≠ 0) : mapErr ms = unErr ms := by
  rw [← refMapErr_eq]
  unfold refMapErr
  unfold unErr at h ⊢
  by_cases h1 : partsErr ms = 0
  · simp only [h1, ne_eq, not_true_eq_false, if_false] at h ⊢
    cases hd : dupM ms with
    | true =>
      have : ¬ (ms.map keyM).Nodup := by rw [unD] at hd; simpa using hd
      simp [this]
    | false => rw [hd] at h; simp at h
  · simp [h1]
theorem refZ (h : unErr ms = 0) : mapErr ms = if ascM ms then 0 else 4 := by
  rw [← refMapErr_eq]
  unfold refMapErr
  unfold unErr at h
  by_cases h1 : partsErr ms = 0
  · simp only [h1, ne_eq, not_true_eq_false, if_false] at h ⊢
    cases hd : dupM ms with
    | true => rw [hd] at h; simp at h
    | false =>
      have : (ms.map keyM).Nodup := by rw [unD] at hd; simpa using hd
      simp [this]
  · simp [h1] at h
theorem refZ0 (h : unErr ms = 0) (ha : ∀ t, (ht : t + 1 < ms.length) → cmpM ms[t] ms[t + 1] < 0) : mapErr ms = 0 := by rw [refZ h, ascM_true ha]; rfl
theorem refZ4 (h : unErr ms = 0) {k : Nat} (hk : k + 1 < ms.length) (ha : ¬ cmpM ms[k] ms[k + 1] < 0) : mapErr ms = 4 := by rw [refZ h, ascM_false hk ha]; rfl
end

set_option maxRecDepth 100000 in
set_option maxHeartbeats 6400000 in
theorem refMapCheck_any (A : Option Addr) (n a : Nat) (ms : List Mp) (w : World) (hA : Mps w A ms) (hn : ms.length = n) (hz : MpsSz ms) :
    Calls Tryz.prog 60 #[.slice A n a] w (RetInt (mapErr ms) w) := by
  subst hn
  have UC := Lib.hid (refUnsorted_any A ms.length a ms w hA rfl hz)
  have HA := Lib.hid hA
  have hnz := hz.n
  have EU := Lib.hid (refU (ms := ms))
  have E0 := Lib.hid (refZ0 (ms := ms))
  have E4 := Lib.hid (fun h k hk ha => refZ4 (ms := ms) h (k := k) hk ha)
  clear hA hz
  generalize mapErr ms = R at *
  generalize unErr ms = pe at *
  go_enter Tryz.func60, Tryz.ntmps60
  go_wp2_with fail
  with_reducible refine UC.out.mono ?_
  rintro e W1 ⟨rfl, hb1⟩
  clear UC
  by_cases hpe : pe = 0
  rotate_left
  · have q1 : (pe != 0) = true := by simpa using hpe
    obtain rfl := EU.out hpe
    clear hpe EU E0 E4
    go_wp2_with fail
    go_ret
    exact ⟨rfl, hb1⟩
  have q1 : (pe != 0) = false := by simpa using hpe
  have E0' := Lib.hid (E0.out hpe)
  have E4' := Lib.hid (E4.out hpe)
  clear EU E0 E4 hpe
  go_wp2_with fail
  go_loopw [4] (fun u wr => ∃ i : Nat, 1 ≤ i ∧ (i ≤ ms.length ∨ i = 1) ∧ u = .int .i64 i ∧ (∀ t, (ht : t + 1 < ms.length) → t + 1 < i → cmpM ms[t] ms[t + 1] < 0) ∧ Below w.heap.size w wr) (fun u _ => ms.length - (intOf u).toNat)
  case atStart => exact ⟨1, by omega, .inr rfl, rfl, fun t _ h => by omega, hb1⟩
  case round =>
    obtain ⟨i, hi1, hi2, rfl, has, hbr⟩ := hrel
    have HAS := Lib.hid has
    clear has
    by_cases hlt : i < ms.length
    · obtain ⟨b1, o1, rfl, hbl, hcell⟩ := (HA.out.below hbr).at hlt
      obtain ⟨C, cc, c0, c1, c2, _, _⟩ := hcell i hlt
      obtain ⟨D, dd, d0, d1, d2, _, _⟩ := hcell (i - 1) (by omega)
      have MC := Lib.hid (fun W => refBefore_any (ms[i - 1]'(by omega)) ms[i] (.slice D (ms[i - 1]'(by omega)).to.length dd) (.slice C ms[i].to.length cc) W)
      have BI := Lib.hid (befM_iff (ms[i - 1]'(by omega)) ms[i])
      have HB := Lib.hid (show ¬ cmpM (ms[i - 1]'(by omega)) ms[i] < 0 → R = 4 from fun h => by
        obtain ⟨j, rfl⟩ : ∃ j, i = j + 1 := ⟨i - 1, by omega⟩
        exact E4'.out j hlt (by first | exact h | exact Int.not_lt.1 h))
      have HUP := Lib.hid (show cmpM (ms[i - 1]'(by omega)) ms[i] < 0 → ∀ t, (ht : t + 1 < ms.length) → t + 1 < i + 1 → cmpM ms[t] ms[t + 1] < 0 from fun h t ht hti => by
        by_cases e : t + 1 < i
        · exact HAS.out t ht e
        · obtain rfl : i = t + 1 := by omega
          exact h)
      clear hcell
      generalize befM (ms[i - 1]'(by omega)) ms[i] = bv at *
      generalize cmpM (ms[i - 1]'(by omega)) ms[i] = cv at *
      generalize (ms[i - 1]'(by omega)) = ma at *
      generalize ms[i] = mb at *
      obtain ⟨af, al', ag⟩ := ma
      obtain ⟨bf, bl'', bg⟩ := mb
      dsimp only at *
      generalize al'.length = al at *
      generalize bl''.length = bl' at *
      have i1 : (0 : Int) ≤ (i : Int) - 1 := by omega
      have i2 : (i : Int) - 1 < (ms.length : Int) := by omega
      have i3 : ((i : Int) - 1).toNat = i - 1 := by omega
      have i4 : (i : Int) < (ms.length : Int) := by omega
      have i5 : (0 : Int) ≤ (i : Int) := by omega
      have i6 : (1 : Int) ≤ (i : Int) := by omega
      have w1 : IntKind.i64.wrap ((i : Int) - 1) = (i : Int) - 1 := IntWalk.i64_in _ (by omega)
      have KS := Lib.hid (show ∀ W', Below wr.heap.size wr W' → W'.cell? ⟨b1, o1 + (i - 1) * 3, none⟩ = some (.int .i64 af) ∧ W'.cell? ⟨b1, o1 + (i - 1) * 3 + 1, none⟩ = some (.slice D al dd) ∧ W'.cell? ⟨b1, o1 + (i - 1) * 3 + 2, none⟩ = some (.string ag) ∧ W'.cell? ⟨b1, o1 + i * 3, none⟩ = some (.int .i64 bf) ∧ W'.cell? ⟨b1, o1 + i * 3 + 1, none⟩ = some (.slice C bl' cc) ∧ W'.cell? ⟨b1, o1 + i * 3 + 2, none⟩ = some (.string bg) ∧ Below wr.heap.size wr W' from fun W' hb => ⟨(hb.cell (p := ⟨b1, o1 + (i - 1) * 3, none⟩) hbl).trans d0, (hb.cell (p := ⟨b1, o1 + (i - 1) * 3 + 1, none⟩) hbl).trans d1, (hb.cell (p := ⟨b1, o1 + (i - 1) * 3 + 2, none⟩) hbl).trans d2, (hb.cell (p := ⟨b1, o1 + i * 3, none⟩) hbl).trans c0, (hb.cell (p := ⟨b1, o1 + i * 3 + 1, none⟩) hbl).trans c1, (hb.cell (p := ⟨b1, o1 + i * 3 + 2, none⟩) hbl).trans c2, hb⟩)
      have MC1 := Lib.hid (fun W' (hb : Below wr.heap.size wr W') => (MC.out W').mono (R' := fun e W' => e = .returned (.bool bv) ∧ (W'.cell? ⟨b1, o1 + (i - 1) * 3, none⟩ = some (.int .i64 af) ∧ W'.cell? ⟨b1, o1 + (i - 1) * 3 + 1, none⟩ = some (.slice D al dd) ∧ W'.cell? ⟨b1, o1 + (i - 1) * 3 + 2, none⟩ = some (.string ag) ∧ W'.cell? ⟨b1, o1 + i * 3, none⟩ = some (.int .i64 bf) ∧ W'.cell? ⟨b1, o1 + i * 3 + 1, none⟩ = some (.slice C bl' cc) ∧ W'.cell? ⟨b1, o1 + i * 3 + 2, none⟩ = some (.string bg) ∧ Below wr.heap.size wr W')) (fun e w' ⟨he, hb'⟩ => ⟨he, KS.out w' (hb.trans (hb'.mono hb.size))⟩))
      go_wp2_with fail
      refine wp_region_held_drew (S := fun W' => W'.cell? ⟨b1, o1 + (i - 1) * 3, none⟩ = some (.int .i64 af) ∧ W'.cell? ⟨b1, o1 + (i - 1) * 3 + 1, none⟩ = some (.slice D al dd) ∧ W'.cell? ⟨b1, o1 + (i - 1) * 3 + 2, none⟩ = some (.string ag) ∧ W'.cell? ⟨b1, o1 + i * 3, none⟩ = some (.int .i64 bf) ∧ W'.cell? ⟨b1, o1 + i * 3 + 1, none⟩ = some (.slice C bl' cc) ∧ W'.cell? ⟨b1, o1 + i * 3 + 2, none⟩ = some (.string bg) ∧ Below wr.heap.size wr W') (by kernel_rfl) (KS.out _ (Below.refl _ _).drew) (fun hHeld => ?_)
      refine anyH_take (i := 0) (v := ?_) (some 16) rfl rfl (by kernel_rfl) (by kernel_rfl) (by kernel_rfl) (fun _ _ _ h => h) (by rfl) (by assumption) ?_ ?_
      rotate_left
      · intro w hSw; (try dsimp only at hSw); go_split_ands; go_simp; try (with_reducible rfl)
      try simp only [Act.put, List.setIfInBounds_toArray, List.set_cons_zero, List.set_cons_succ]
      refine anyH_take (i := 1) (v := ?_) (some 17) rfl rfl (by kernel_rfl) (by kernel_rfl) (by kernel_rfl) (fun _ _ _ h => h) (by rfl) (by assumption) ?_ ?_
      rotate_left
      · intro w hSw; (try dsimp only at hSw); go_split_ands; go_simp; try (with_reducible rfl)
      try simp only [Act.put, List.setIfInBounds_toArray, List.set_cons_zero, List.set_cons_succ]
      refine anyH_take (i := 2) (v := ?_) (some 18) rfl rfl (by kernel_rfl) (by kernel_rfl) (by kernel_rfl) (fun _ _ _ h => h) (by rfl) (by assumption) ?_ ?_
      rotate_left
      · intro w hSw; (try dsimp only at hSw); go_split_ands; go_simp; try (with_reducible rfl)
      try simp only [Act.put, List.setIfInBounds_toArray, List.set_cons_zero, List.set_cons_succ]
      refine anyH_take (i := 3) (v := ?_) (some 19) rfl rfl (by kernel_rfl) (by kernel_rfl) (by kernel_rfl) (fun _ _ _ h => h) (by rfl) (by assumption) ?_ ?_
      rotate_left
      · intro w hSw; (try dsimp only at hSw); go_split_ands; go_simp; try (with_reducible rfl)
      try simp only [Act.put, List.setIfInBounds_toArray, List.set_cons_zero, List.set_cons_succ]
      refine anyH_take (i := 4) (v := ?_) (some 20) rfl rfl (by kernel_rfl) (by kernel_rfl) (by kernel_rfl) (fun _ _ _ h => h) (by rfl) (by assumption) ?_ ?_
      rotate_left
      · intro w hSw; (try dsimp only at hSw); go_split_ands; go_simp; try (with_reducible rfl)
      try simp only [Act.put, List.setIfInBounds_toArray, List.set_cons_zero, List.set_cons_succ]
      refine anyH_take (i := 5) (v := ?_) (some 21) rfl rfl (by kernel_rfl) (by kernel_rfl) (by kernel_rfl) (fun _ _ _ h => h) (by rfl) (by assumption) ?_ ?_
      rotate_left
      · intro w hSw; (try dsimp only at hSw); go_split_ands; go_simp; try (with_reducible rfl)
      try simp only [Act.put, List.setIfInBounds_toArray, List.set_cons_zero, List.set_cons_succ]
      refine anyH_take (i := 6) (v := ?_) (some 22) rfl rfl (by kernel_rfl) (by kernel_rfl) (by kernel_rfl) (fun _ _ _ h => h) (by rfl) (by assumption) ?_ ?_
      rotate_left
      · intro w hSw; (try dsimp only at hSw); go_split_ands; go_simp; try (with_reducible rfl)
      try simp only [Act.put, List.setIfInBounds_toArray, List.set_cons_zero, List.set_cons_succ]
      refine anyH_take (i := 7) (v := ?_) (some 23) rfl rfl (by kernel_rfl) (by kernel_rfl) (by kernel_rfl) (fun _ _ _ h => h) (by rfl) (by assumption) ?_ ?_
      rotate_left
      · intro w hSw; (try dsimp only at hSw); go_split_ands; go_simp; try (with_reducible rfl)
      try simp only [Act.put, List.setIfInBounds_toArray, List.set_cons_zero, List.set_cons_succ]
      refine anyH_take (i := 8) (v := ?_) (some 24) rfl rfl (by kernel_rfl) (by kernel_rfl) (by kernel_rfl) (fun _ _ _ h => h) (by rfl) (by assumption) ?_ ?_
      rotate_left
      · intro w hSw; (try dsimp only at hSw); go_split_ands; go_simp; try (with_reducible rfl)
      try simp only [Act.put, List.setIfInBounds_toArray, List.set_cons_zero, List.set_cons_succ]
      refine anyH_call (i := 9) (some 25) rfl rfl (by kernel_rfl) (by rfl) (by go_simp) (MC1.out _ hHeld.2.2.2.2.2.2) (fun W3 hS6 => ?_)
      clear hHeld
      have hHeld := hS6
      clear hS6
      try simp only [Act.put, List.setIfInBounds_toArray, List.set_cons_zero, List.set_cons_succ]
      refine anyH_take (i := 10) (v := ?_) (some 26) rfl rfl (by kernel_rfl) (by kernel_rfl) (by kernel_rfl) (fun _ _ _ h => h) (by rfl) (by assumption) ?_ ?_
      rotate_left
      · intro w hSw; (try dsimp only at hSw); go_split_ands; go_simp; try (with_reducible rfl)
      try simp only [Act.put, List.setIfInBounds_toArray, List.set_cons_zero, List.set_cons_succ]
      refine wpAnyH_done (by kernel_rfl) ?_ _
      have Bp := hHeld.2.2.2.2.2.2
      have hb2 := hbr.trans (Bp.mono hbr.size)
      clear hHeld c0 c1 c2 d0 d1 d2 KS MC MC1 i1 i2 i3 i4 i5 i6 w1
      cases bv with
      | true =>
        have HQ := Lib.hid (HUP.out (of_decide_eq_true BI.out.symm))
        clear BI HUP HB
        go_wp2_with fail
        go_roundw
        case rel => exact ⟨i + 1, by omega, .inl (by omega), by go_num, HQ.out, hb2⟩
        case measure => simp [intOf]; omega
      | false =>
        obtain rfl := HB.out (by have h9 := of_decide_eq_false BI.out.symm; omega)
        clear BI HUP HB
        go_wp2_with fail
        go_ret
        exact ⟨rfl, hb2⟩
    · obtain rfl := E0'.out (fun t ht => HAS.out t ht (by omega))
      go_wp2_with fail
      go_ret
      exact ⟨rfl, hbr⟩

/-- the result of a look for a mapping -/
def RetGet (r : Option (List Int)) (w : World) (e : Ending) (w' : World) : Prop := ∃ E d, e = .returned (.tuple #[.slice E (r.getD []).length d, .bool r.isSome]) ∧ (r.getD []).length ≤ d ∧ Ints w' E (r.getD []) ∧ Below w.heap.size w w'

/-- mappings that count -/
def valM (ms : List Mp) : List Mp := if mapErr ms = 0 then ms else []
theorem getV_val (ms : List Mp) (x : Int) (tag : ByteArray) : getM (valM ms) x tag = getV ms x tag := by
  unfold valM getV
  split
  · rfl
  · rfl
theorem valM_sz {ms : List Mp} (h : MpsSz ms) : MpsSz (valM ms) := by
  unfold valM
  split
  · exact h
  · exact ⟨by decide, fun _ hi => absurd hi (Nat.not_lt_zero _)⟩

def smallM (ms : List Mp) : Bool := decide (ms.length ≤ 20) && ms.all (fun m => decide (m.to.length ≤ 65) && decide (m.tag.size ≤ 40))
theorem smallM_sz {ms : List Mp} (h : smallM ms = true) : MpsSz ms ∧ ms.length ≤ 20 ∧ ∀ m ∈ ms, m.to.length ≤ 65 ∧ m.tag.size ≤ 40 := by
  simp only [smallM, Bool.and_eq_true, decide_eq_true_eq, List.all_eq_true] at h
  refine ⟨⟨by omega, fun i hi => ?_⟩, h.1, h.2⟩
  have := h.2 ms[i] (List.getElem_mem hi)
  omega
theorem smallM1 {ms : List Mp} (h : ¬ ms.length ≤ 20) : smallM ms = false := by simp [smallM]; omega
theorem smallM2 {ms : List Mp} {k : Nat} (hk : k < ms.length) (h : ¬ (ms[k].to.length ≤ 65 ∧ ms[k].tag.size ≤ 40)) : smallM ms = false := by
  cases e : smallM ms with
  | false => rfl
  | true => exact absurd ((smallM_sz e).2.2 ms[k] (List.getElem_mem hk)) h
theorem smallM3 {ms : List Mp} (h1 : ms.length ≤ 20) (h : ∀ t, (ht : t < ms.length) → ms[t].to.length ≤ 65 ∧ ms[t].tag.size ≤ 40) : smallM ms = true := by
  simp only [smallM, Bool.and_eq_true, decide_eq_true_eq, List.all_eq_true]
  refine ⟨h1, fun m hm => ?_⟩
  obtain ⟨t, ht, rfl⟩ := List.getElem_of_mem hm
  exact h t ht

end Go.Proofs.YtjglanjfgbipmaaGreatDoor
/- Contracts of decompose.once$1, BinarySearchFunc at mappings, and decompose.once: what a number is replaced by, where the mappings are in order. -/
namespace Go.Proofs.YtjglanjfgbipmaaGreatDoor
open Go.RowKit

/-- the mappings are in order, with at most one for each number -/
def StF (ms : List Mp) : Prop := ∀ i j, (hi : i < ms.length) → (hj : j < ms.length) → i < j → ms[i].frm < ms[j].frm

theorem onceF_any (f : Int) (va : Value) (t : ByteArray) (c : Int) (w : World) : Calls Tryz.prog 127 #[.agg #[.int .i64 f, va, .string t], .int .i64 c] w (RetInt (cmpI f c) w) := by
  have C := Lib.hid (fun W => cmpCompare_any f c W)
  generalize cmpI f c = r at *
  go_enter Tryz.func127, Tryz.ntmps127
  go_wp2_with fail
  with_reducible refine (C.out _).mono ?_
  rintro e w1 ⟨rfl, rfl⟩
  go_wp2_with fail
  go_ret
  exact ⟨rfl, (Below.refl _ _).alloc (Nat.le_refl _) _⟩

/-- where a search for a number ends -/
structure SrchM (ms : List Mp) (c : Int) (i : Nat) (f : Bool) : Prop where
  le : i ≤ ms.length
  lo : ∀ t, (ht : t < ms.length) → t < i → ms[t].frm < c
  hi : ∀ t, (ht : t < ms.length) → i ≤ t → c ≤ ms[t].frm
  fd : f = decide (∃ h : i < ms.length, ms[i].frm = c)
def RetSrchM (ms : List Mp) (c : Int) (w : World) (e : Ending) (w' : World) : Prop := ∃ (i : Nat) (f : Bool), e = .returned (.tuple #[.int .i64 i, .bool f]) ∧ SrchM ms c i f ∧ Below w.heap.size w w'

set_option maxHeartbeats 1600000 in
theorem bsearchM_any (A : Option Addr) (n k : Nat) (ms : List Mp) (c : Int) (w : World) (hA : Mps w A ms) (hn : ms.length = n) (hbig : n ≤ 1048576) (hasc : StF ms) :
    Calls Tryz.prog 126 #[.slice A n k, .int .i64 c, .func (.func 127) #[] #[]] w (RetSrchM ms c w) := by
  subst hn
  have HS := Lib.hid hasc; clear hasc
  go_enter Tryz.func126, Tryz.ntmps126
  go_wp2
  go_loopw [9, 10] (fun u v wr => ∃ i j : Nat, i ≤ j ∧ j ≤ ms.length ∧ u = .int .i64 i ∧ v = .int .i64 j ∧ (∀ t, (ht : t < ms.length) → t < i → ms[t].frm < c) ∧ (∀ t, (ht : t < ms.length) → j ≤ t → c ≤ ms[t].frm) ∧ Below w.heap.size w wr)
    (fun u v _ => (intOf v).toNat - (intOf u).toNat)
  case atStart => exact ⟨0, ms.length, Nat.zero_le _, Nat.le_refl _, rfl, rfl, fun t _ h => by omega, fun t h1 h2 => by omega, Below.refl _ _⟩
  case round =>
    obtain ⟨i, j, hij, hj, rfl, rfl, hlo, hhi, hbel⟩ := hrel
    have HLO := Lib.hid hlo; have HHI := Lib.hid hhi; clear hlo hhi
    by_cases hlt : i < j
    · obtain ⟨h, hh, h1, h2, h3⟩ : ∃ h : Nat, ((i : Int) + (j : Int)) / 2 = (h : Int) ∧ i ≤ h ∧ h < j ∧ h < ms.length := ⟨(i + j) / 2, by omega, by omega, by omega, by omega⟩
      obtain ⟨b, o, rfl, _, hcell⟩ := (hA.below hbel).at h3
      obtain ⟨D, d, c1, c2, c3, _, _⟩ := hcell h h3
      clear hcell
      have HO := Lib.hid (fun t (ht : t < ms.length) (hth : t < h) => HS.out t h ht h3 hth)
      have HO2 := Lib.hid (fun t (ht : t < ms.length) (hth : h < t) => HS.out h t h3 ht hth)
      generalize hf : ms[h].frm = f at *
      generalize ms[h].to.length = tl at *
      generalize ms[h].tag = tg at *
      have E2 := Lib.hid hf
      have C := Lib.hid (fun W => onceF_any f (.slice D tl d) tg c W)
      clear hf
      by_cases hk : f < c
      · have hsc : cmpI f c = -1 := by unfold cmpI; rw [if_pos hk]
        rw [hsc] at C; clear hsc
        go_wp2_with (go_at_call 127; refine (C.out _).mono ?_; rintro e w1 ⟨rfl, hb1⟩)
        go_roundw
        case rel =>
          refine ⟨h + 1, j, by omega, hj, by go_num, rfl, fun t ht g => ?_, HHI.out, hbel.trans (hb1.mono hbel.size)⟩
          by_cases e : t = h
          · subst e; rw [E2.out]; exact hk
          · have a1 := HO.out t ht (by omega)
            omega
        case measure => simp [intOf]; omega
      · have hsc : 0 ≤ cmpI f c := by unfold cmpI; rw [if_neg hk]; split <;> omega
        generalize cmpI f c = sc at *
        go_wp2_with (go_at_call 127; refine (C.out _).mono ?_; rintro e w1 ⟨rfl, hb1⟩)
        go_roundw
        case rel =>
          refine ⟨i, h, h1, by omega, rfl, rfl, HLO.out, fun t ht g => ?_, hbel.trans (hb1.mono hbel.size)⟩
          by_cases e : t = h
          · subst e; rw [E2.out]; omega
          · have a1 := HO2.out t ht (by omega)
            omega
        case measure => simp [intOf]; omega
    · obtain rfl : i = j := by omega
      by_cases hend : i < ms.length
      · obtain ⟨b, o, rfl, _, hcell⟩ := (hA.below hbel).at hend
        obtain ⟨D, d, c1, c2, c3, _, _⟩ := hcell i hend
        clear hcell
        have hci := HHI.out i hend (Nat.le_refl _)
        have HF := Lib.hid (show decide (∃ h : i < ms.length, ms[i].frm = c) = (cmpI ms[i].frm c == 0) by
          rw [Bool.eq_iff_iff]; simp only [decide_eq_true_eq, beq_iff_eq]; unfold cmpI; rw [if_neg (by omega)]; split
          · constructor
            · rintro ⟨_, h⟩; omega
            · intro h; omega
          · exact ⟨fun _ => rfl, fun _ => ⟨hend, by omega⟩⟩)
        clear hci
        generalize ms[i].frm = f at *
        generalize ms[i].to.length = tl at *
        generalize ms[i].tag = tg at *
        have C := Lib.hid (fun W => onceF_any f (.slice D tl d) tg c W)
        generalize cmpI f c = sc at *
        go_wp2_with (go_at_call 127; refine (C.out _).mono ?_; rintro e w1 ⟨rfl, hb1⟩)
        go_ret2
        refine ⟨i, _, rfl, ⟨hj, HLO.out, HHI.out, ?_⟩, hbel.trans (hb1.mono hbel.size)⟩
        exact HF.out.symm
      · go_wp2_with fail
        go_ret2
        refine ⟨i, _, rfl, ⟨hj, HLO.out, HHI.out, ?_⟩, hbel⟩
        simp [hend]

theorem fndM_some {ms : List Mp} {compat : Bool} {c : Int} {i : Nat} (hs : StF ms) (hi : i < ms.length) (h : ms[i].frm = c) : fndM ms compat c = if compat = true ∨ ms[i].tag.size = 0 then some i else none := by
  by_cases e : compat = true ∨ ms[i].tag.size = 0
  · rw [if_pos e]
    unfold fndM
    rw [List.findIdx?_eq_some_iff_getElem]
    refine ⟨hi, by simpa [h] using e, fun j hj => ?_⟩
    have := hs j i (by omega) hi hj
    simp
    intro he
    omega
  · rw [if_neg e]
    unfold fndM
    rw [List.findIdx?_eq_none_iff]
    intro x hx
    obtain ⟨j, hj, rfl⟩ := List.getElem_of_mem hx
    by_cases g : j = i
    · subst g; simpa [h] using e
    · have : ¬ ms[j].frm = c := fun he => by
        rcases Nat.lt_or_gt_of_ne g with g | g
        · have := hs j i hj hi g; omega
        · have := hs i j hi hj g; omega
      simp [this]
theorem fndM_none {ms : List Mp} {compat : Bool} {c : Int} (h : ∀ i, (hi : i < ms.length) → ¬ ms[i].frm = c) : fndM ms compat c = none := by
  unfold fndM
  rw [List.findIdx?_eq_none_iff]
  intro x hx
  obtain ⟨j, hj, rfl⟩ := List.getElem_of_mem hx
  simp [h j hj]
theorem SrchM.no {ms : List Mp} {c : Int} {i : Nat} {compat : Bool} (hs : StF ms) (h : SrchM ms c i false) : fndM ms compat c = none := by
  refine fndM_none fun t ht e => ?_
  have hf := h.fd
  have hn : ¬ ∃ g : i < ms.length, ms[i].frm = c := by simpa using hf.symm
  by_cases g : t < i
  · have := h.lo t ht g; omega
  · by_cases g2 : t = i
    · subst g2; exact hn ⟨ht, e⟩
    · have h1 := h.hi i (by omega) (Nat.le_refl _)
      have h2 := hs i t (by omega) ht (by omega)
      omega

/-- the value of the data of normalization -/
def nrmV (A0 : Option Addr) (n0 k0 : Nat) (A1 : Option Addr) (n1 k1 : Nat) (A2 : Option Addr) (n2 k2 : Nat) : Value := .agg #[.slice A0 n0 k0, .slice A1 n1 k1, .slice A2 n2 k2]

set_option maxRecDepth 100000 in
set_option maxHeartbeats 1600000 in
theorem once_any (A0 : Option Addr) (n0 k0 : Nat) (A1 : Option Addr) (n1 k1 : Nat) (A2 : Option Addr) (n2 k2 : Nat) (ms : List Mp) (c : Int) (compat : Bool) (w : World) (hA : Mps w A1 ms) (hn : ms.length = n1) (hbig : n1 ≤ 1048576) (hasc : StF ms) :
    Calls Tryz.prog 103 #[.agg #[.slice A0 n0 k0, .slice A1 n1 k1, .slice A2 n2 k2], .int .i64 c, .bool compat] w (RetGet (onM ms compat c) w) := by
  subst hn
  have K := Lib.hid (fun W => Kind_any c W)
  have D := Lib.hid (fun W => Decompose_any c W)
  have S := Lib.hid (fun W (hb : Below w.heap.size w W) => bsearchM_any A1 ms.length k1 ms c W (hA.below hb) rfl hbig hasc)
  have HS := Lib.hid hasc
  clear hasc
  have R4 := Lib.hid (fun (h : 4 ≤ Hg.kind c) => show onM ms compat c = some (Hg.decomp c) from if_pos h)
  have R0 := Lib.hid (fun (h : ¬ 4 ≤ Hg.kind c) => show onM ms compat c = (fndM ms compat c).map (toM ms) from if_neg h)
  generalize onM ms compat c = R at *
  generalize Hg.kind c = kc at *
  have B0 : Below w.heap.size w (w.alloc (.cells #[.slice A0 n0 k0, .slice A1 ms.length k1, .slice A2 n2 k2] 28)) := (Below.refl _ _).alloc (Nat.le_refl _) _
  have s0 : (w.alloc (.cells #[.slice A0 n0 k0, .slice A1 ms.length k1, .slice A2 n2 k2] 28)).heap.size = w.heap.size + 1 := by simp
  have q0 : (w.alloc (.cells #[.slice A0 n0 k0, .slice A1 ms.length k1, .slice A2 n2 k2] 28)).cell? ⟨w.heap.size, 1, none⟩ = some (.slice A1 ms.length k1) := by simp
  have W0E : ∃ W0, (w.alloc (.cells #[.slice A0 n0 k0, .slice A1 ms.length k1, .slice A2 n2 k2] 28)) = W0 := ⟨_, rfl⟩
  go_enter Tryz.func103, Tryz.ntmps103
  go_wp2_with fail
  obtain ⟨W0, hW0⟩ := W0E
  rw [hW0] at B0 s0 q0 ⊢
  clear hW0
  with_reducible refine (K.out _).mono ?_
  rintro e w1 ⟨rfl, rfl⟩
  by_cases h4 : 4 ≤ kc
  · obtain rfl := R4.out h4
    clear R4 R0
    generalize Hg.decomp c = zs at *
    go_wp2_with fail
    with_reducible refine (D.out _).mono ?_
    rintro e w1 ⟨E, d, rfl, hd, hE, hb⟩
    go_wp2_with fail
    go_ret2
    exact ⟨E, d, rfl, hd, hE, B0.trans (hb.mono B0.size)⟩
  · have HR := Lib.hid (R0.out (by omega))
    clear R4 R0
    go_wp2_with fail
    with_reducible refine (S.out _ B0).mono ?_
    rintro e W1 ⟨i, f, rfl, hs, hb1⟩
    have hb := B0.trans (hb1.mono B0.size)
    have q1 : W1.cell? ⟨w.heap.size, 1, none⟩ = some (.slice A1 ms.length k1) := (hb1.cell (show w.heap.size < W0.heap.size by omega)).trans q0
    cases f with
    | false =>
      obtain rfl : R = none := by rw [HR.out, hs.no HS.out]; rfl
      clear hs
      go_wp2_with fail
      go_ret2
      exact ⟨.none, 0, rfl, Nat.le_refl _, Sl.nil _ _, hb⟩
    | true =>
      obtain ⟨hi, hfr⟩ : ∃ h : i < ms.length, ms[i].frm = c := by simpa using hs.fd.symm
      have hfd := fndM_some (compat := compat) HS.out hi hfr
      have hto : toM ms i = ms[i].to := by simp [toM, List.getD, hi]
      obtain ⟨b, o, rfl, _, hcell⟩ := (hA.below hb).at hi
      obtain ⟨E, d, c1, c2, c3, c4, c5⟩ := hcell i hi
      clear hcell hs
      have HR2 := Lib.hid (HR.out.trans (by rw [hfd]))
      clear hfd HR
      generalize hto2 : ms[i].to = to at *
      generalize ms[i].tag = tg at *
      clear hto2
      by_cases ht : tg.size = 0
      · have g0 : tg.toList = [] := str_nil ht
        obtain rfl : R = some to := by rw [HR2.out, if_pos (.inr ht), Option.map_some, hto]
        clear hto HR2
        go_wp2_with fail
        go_ret2
        exact ⟨E, d, rfl, c4, c5, hb⟩
      · have g0 : ¬ tg.toList = [] := str_cons ht
        have g1 : tg.toList.isEmpty = false := by simpa using g0
        cases compat with
        | true =>
          obtain rfl : R = some to := by rw [HR2.out, if_pos (.inl rfl), Option.map_some, hto]
          clear hto HR2
          go_wp2_with fail
          go_ret2
          exact ⟨E, d, rfl, c4, c5, hb⟩
        | false =>
          obtain rfl : R = none := by rw [HR2.out, if_neg (by simp [ht]), Option.map_none]
          clear hto HR2
          go_wp2_with fail
          go_ret2
          exact ⟨.none, 0, rfl, Nat.le_refl _, Sl.nil _ _, hb⟩

end Go.Proofs.YtjglanjfgbipmaaGreatDoor
