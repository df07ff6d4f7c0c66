/- Contracts of the reference's functions on mappings, and of mapping.Get. Written by gen_refmap.py. -/
import Derived.Test.YtpamkbbmbeeheaaMapCk
import Derived.Test.YtpamkbbmbeeheaaClone
import Derived.Test.YtpamkbbmbeeheaaQuiet
namespace Go.Proofs.Ytpamkbbmbeeheaa
open Go.RowKit Go.Maps Go.WideMaps

set_option maxRecDepth 100000 in
set_option maxHeartbeats 3200000 in
theorem refCodes_any (m : Mp) (C : Option Addr) (cc : Nat) (w : World) (hC : Ints w C m.to) (hz : m.to.length ≤ 1048576) :
    Calls Try.prog 76 #[.agg #[.int .i64 m.frm, .slice C m.to.length cc, .string m.tag]] w (RetBool (!mpBad m) w) := by
  have M0 := Lib.hid (mpBad_from (m := m))
  have M1 := Lib.hid (fun k hk h => mpBad_to (m := m) (k := k) hk h)
  have M2 := Lib.hid (mpBad_no (m := m))
  generalize mpBad m = bd at *
  obtain ⟨mf, mt, mg⟩ := m
  dsimp only at *
  have Ba : Below w.heap.size w (w.alloc (.cells #[.int .i64 mf, .slice C mt.length cc, .string mg] 38)) := (Below.refl _ _).alloc (Nat.le_refl _) _
  have HC := Lib.hid (hC.below Ba)
  have e0 : (w.alloc (.cells #[.int .i64 mf, .slice C mt.length cc, .string mg] 38)).cell? ⟨w.heap.size, 0, none⟩ = some (.int .i64 mf) := by simp
  have e1 : (w.alloc (.cells #[.int .i64 mf, .slice C mt.length cc, .string mg] 38)).cell? ⟨w.heap.size, 1, none⟩ = some (.slice C mt.length cc) := by simp
  have sa : (w.alloc (.cells #[.int .i64 mf, .slice C mt.length cc, .string mg] 38)).heap.size = w.heap.size + 1 := by simp
  have WaE : ∃ Wa, (w.alloc (.cells #[.int .i64 mf, .slice C mt.length cc, .string mg] 38)) = Wa := ⟨_, rfl⟩
  clear hC
  go_enter Try.func76, Try.ntmps76
  go_wp2_with fail
  obtain ⟨Wa, hWa⟩ := WaE
  rw [hWa] at Ba HC e0 e1 sa ⊢
  clear hWa
  go_loop [3] (fun u => ∃ k : Nat, k ≤ mt.length ∧ u = .int .i64 k ∧ (∀ t, (ht : t < mt.length) → t < k → inR 0 1114111 mt[t] = true)) (fun u => mt.length - (intOf u).toNat)
  case atStart => exact ⟨0, Nat.zero_le _, rfl, fun t _ h => by omega⟩
  case round =>
    obtain ⟨k, hk, rfl, hok⟩ := hrel
    have HOK := Lib.hid hok
    clear hok
    by_cases hltk : k < mt.length
    · obtain ⟨b2, o2, rfl, hc2⟩ := HC.out.at hltk
      have d0 := hc2 k hltk
      have HBK := Lib.hid (fun h => M1.out k hltk h)
      have HNK := Lib.hid (fun h => all_up (P := fun z => inR 0 1114111 z = true) hltk HOK.out h)
      clear hc2
      generalize mt[k] = z at *
      cases hvz : inR 0 1114111 z with
      | false =>
        obtain rfl := HBK.out hvz
        go_wp2_with (go_at_call 57; refine (refValid_any z _).mono ?_; rw [hvz]; rintro e w' ⟨rfl, rfl⟩)
        go_ret
        exact ⟨rfl, Ba⟩
      | true =>
        have HQ := Lib.hid (HNK.out hvz)
        go_wp2_with (go_at_call 57; refine (refValid_any z _).mono ?_; rw [hvz]; rintro e w' ⟨rfl, rfl⟩)
        go_round
        case rel => exact ⟨k + 1, by omega, by go_num, HQ.out⟩
        case measure => simp [intOf]; omega
    · cases hv : inR 0 1114111 mf with
      | false =>
        obtain rfl := M0.out hv
        go_wp2_with (go_at_call 57; refine (refValid_any mf _).mono ?_; rw [hv]; rintro e w' ⟨rfl, rfl⟩)
        go_ret
        exact ⟨rfl, Ba⟩
      | true =>
        obtain rfl := M2.out hv (fun t ht => HOK.out t ht (by omega))
        go_wp2_with (go_at_call 57; refine (refValid_any mf _).mono ?_; rw [hv]; rintro e w' ⟨rfl, rfl⟩)
        go_ret
        exact ⟨rfl, Ba⟩

set_option maxRecDepth 100000 in
set_option maxHeartbeats 3200000 in
theorem refBefore_any (a b : Mp) (va vb : Value) (w : World) :
    Calls Try.prog 63 #[.agg #[.int .i64 a.frm, va, .string a.tag], .agg #[.int .i64 b.frm, vb, .string b.tag]] w (RetBool (befM a b) w) := by
  unfold befM bl
  obtain ⟨fa, ta, tga⟩ := a
  obtain ⟨fb, tb, tgb⟩ := b
  dsimp only
  have B0 : Below w.heap.size w ((w.alloc (.cells #[.int .i64 fa, va, .string tga] 38)).alloc (.cells #[.int .i64 fb, vb, .string tgb] 38)) := ((Below.refl _ _).alloc (Nat.le_refl _) _).alloc (by simp) _
  by_cases h1 : fa < fb
  · have q1 : decide (fa < fb) = true := by simpa using h1
    go_enter Try.func63, Try.ntmps63
    go_wp2_with fail
    go_ret
    exact ⟨by simp [h1], B0⟩
  · have q1 : decide (fa < fb) = false := by simpa using h1
    by_cases h2 : fa = fb
    · have q2 : (fa == fb) = true := by simpa using h2
      rw [q1, q2]
      clear h1 h2
      go_enter Try.func63, Try.ntmps63
      go_wp2_with fail
      go_ret
      exact ⟨rfl, B0⟩
    · have q2 : (fa == fb) = false := by simpa using h2
      rw [q1, q2]
      go_enter Try.func63, Try.ntmps63
      go_wp2_with fail
      go_ret
      exact ⟨rfl, B0⟩

section
variable {ms : List Mp}
theorem dup_yes {i k : Nat} (hi : i < ms.length) (hk : k < i) (h : keyM ms[i] = keyM (ms[k]'(by omega))) : ¬ (ms.map keyM).Nodup := fun hn => by
  have := List.pairwise_iff_getElem.1 hn k i (by simp; omega) (by simpa using hi) hk
  simp at this
  exact this h.symm
theorem dup_no (h : ∀ i, (hi : i < ms.length) → ∀ k, (hk : k < i) → keyM ms[i] ≠ keyM (ms[k]'(by omega))) : (ms.map keyM).Nodup := by
  refine List.pairwise_iff_getElem.2 (fun k i hk hi hki => ?_)
  have := h i (by simpa using hi) k hki
  simp
  exact fun e => this e.symm
end
def dupM (ms : List Mp) : Bool := !decide (ms.map keyM).Nodup

set_option maxRecDepth 100000 in
set_option maxHeartbeats 3200000 in
theorem refTwice_any (A : Option Addr) (n a : Nat) (ms : List Mp) (w : World) (hA : Mps w A ms) (hn : ms.length = n) (hz : MpsSz ms) :
    Calls Try.prog 78 #[.slice A n a] w (fun e w' => e = .returned (.bool (dupM ms)) ∧ Qt w w') := by
  subst hn
  have HA := Lib.hid hA
  have hnz := hz.n
  have DY := Lib.hid (fun i (hi : i < ms.length) k (hk : k < i) (h : keyM ms[i] = keyM (ms[k]'(by omega))) => show dupM ms = true by unfold dupM; simpa using dup_yes (i := i) (k := k) hi hk h)
  have DN := Lib.hid (fun h => show dupM ms = false by unfold dupM; simpa using dup_no (ms := ms) h)
  generalize dupM ms = R at *
  clear hA hz
  go_enter Try.func78, Try.ntmps78
  go_wp2_with fail
  go_loopw [3] (fun u wr => ∃ i : Nat, i ≤ ms.length ∧ u = .int .i64 i ∧ (∀ s, (hs : s < ms.length) → s < i → ∀ k, (hk : k < s) → keyM ms[s] ≠ keyM (ms[k]'(by omega))) ∧ Qt w wr) (fun u _ => ms.length - (intOf u).toNat)
  case atStart => exact ⟨0, Nat.zero_le _, rfl, fun s _ h => by omega, Qt.refl _⟩
  case round =>
    obtain ⟨i, hi, rfl, hno, hq⟩ := hrel
    have HNO := Lib.hid hno
    clear hno
    by_cases hlt : i < ms.length
    · obtain ⟨wr0, rfl⟩ : ∃ wr0 : World, wr0 = wr := ⟨_, rfl⟩
      have DYI := Lib.hid (fun k hk h => DY.out i hlt k hk h)
      have HUP := Lib.hid (fun (h : ∀ k, (hk : k < i) → keyM ms[i] ≠ keyM (ms[k]'(by omega))) => show ∀ s, (hs : s < ms.length) → s < i + 1 → ∀ k, (hk : k < s) → keyM ms[s] ≠ keyM (ms[k]'(by omega)) from fun s hs hsi => by
        by_cases e : s < i
        · exact HNO.out s hs e
        · obtain rfl : s = i := by omega
          exact h)
      go_wp2_with fail
      go_loopw [4] (fun u wr => ∃ k : Nat, k ≤ i ∧ u = .int .i64 k ∧ (∀ t, (ht : t < i) → t < k → keyM ms[i] ≠ keyM (ms[t]'(by omega))) ∧ Qt w wr) (fun u _ => i - (intOf u).toNat)
      case atStart => exact ⟨0, Nat.zero_le _, rfl, fun t _ h => by omega, hq⟩
      case round =>
        obtain ⟨k, hk, rfl, hnk, hqk⟩ := hrel
        have HNK := Lib.hid hnk
        clear hnk
        by_cases hltk : k < i
        · obtain ⟨b1, o1, rfl, hbl, hcell⟩ := (HA.out.below hqk.below).at hlt
          obtain ⟨C, cc, c0, c1, c2, _, _⟩ := hcell i hlt
          obtain ⟨D, dd, d0, d1, d2, _, _⟩ := hcell k (by omega)
          have HY := Lib.hid (fun h => DYI.out k hltk h)
          have HN := Lib.hid (fun (h : keyM ms[i] ≠ keyM (ms[k]'(by omega))) => show ∀ t, (ht : t < i) → t < k + 1 → keyM ms[i] ≠ keyM (ms[t]'(by omega)) from fun t ht htk => by
            by_cases e : t < k
            · exact HNK.out t ht e
            · obtain rfl : t = k := by omega
              exact h)
          have HKE := Lib.hid (show keyM ms[i] = keyM (ms[k]'(by omega)) ↔ (ms[i].frm = (ms[k]'(by omega)).frm ∧ ms[i].tag = (ms[k]'(by omega)).tag) from ⟨fun h => by injection h with h1 h2; exact ⟨h1, h2⟩, fun h => by unfold keyM; rw [h.1, h.2]⟩)
          clear hcell c1 d1 HNK
          generalize hXX : keyM ms[i] = X at *
          generalize hYY : keyM (ms[k]'(by omega)) = Y at *
          clear hXX hYY
          generalize ms[i] = ma at *
          generalize (ms[k]'(by omega)) = mb at *
          obtain ⟨af, al, ag⟩ := ma
          obtain ⟨bf, bl', bg⟩ := mb
          dsimp only at *
          have i1 : (0 : Int) ≤ (i : Int) := by omega
          have i2 : (i : Int) < (ms.length : Int) := by omega
          have i3 : ((i : Int)).toNat = i := by omega
          have k1 : (0 : Int) ≤ (k : Int) := by omega
          have k2 : (k : Int) < (ms.length : Int) := by omega
          have k3 : ((k : Int)).toNat = k := by omega
          by_cases h1 : af = bf
          · have q1 : (af == bf) = true := by simpa using h1
            by_cases h2 : ag = bg
            · have q2 := str_eqT h2
              obtain rfl := HY.out (HKE.out.2 ⟨h1, h2⟩)
              clear HY HN HKE h1 h2 HUP DYI
              go_wp2_with fail
              go_quiet (fail)
              go_wp2_with fail
              go_ret
              exact ⟨rfl, hqk.drewN _⟩
            · have q2 := str_eqF h2
              have HQ := Lib.hid (HN.out (fun e => h2 (HKE.out.1 e).2))
              clear HY HN HKE h1 h2
              go_wp2_with fail
              go_quiet (fail)
              go_wp2_with fail
              go_roundw
              case rel => exact ⟨k + 1, by omega, by go_num, HQ.out, hqk.drewN _⟩
              case measure => simp [intOf]; omega
          · have q1 : (af == bf) = false := by simpa using h1
            have HQ := Lib.hid (HN.out (fun e => h1 (HKE.out.1 e).1))
            clear HY HN HKE h1
            go_wp2_with fail
            go_quiet (fail)
            go_wp2_with fail
            go_roundw
            case rel => exact ⟨k + 1, by omega, by go_num, HQ.out, hqk.drewN _⟩
            case measure => simp [intOf]; omega
        · have HQ := Lib.hid (HUP.out (fun t ht => HNK.out t ht (by omega)))
          clear HUP DYI HNK
          go_wp2_with fail
          go_roundw
          case rel => exact ⟨i + 1, by omega, by go_num, HQ.out, hqk⟩
          case measure => simp [intOf]; omega
    · obtain rfl := DN.out (fun s hs k hk => HNO.out s hs (by omega) k hk)
      go_wp2_with fail
      go_ret
      exact ⟨rfl, hq⟩

def unErr (ms : List Mp) : Int := if partsErr ms ≠ 0 then partsErr ms else if dupM ms = true then 5 else 0
section
variable {ms : List Mp}
theorem un1 {k : Nat} (hk : k < ms.length) (h : mpBad ms[k] = true) : unErr ms = 1 := by unfold unErr; rw [parts1 hk h]; rfl
theorem un2 (h1 : ∀ t, (ht : t < ms.length) → mpBad ms[t] = false) {k : Nat} (hk : k < ms.length) (h : 64 < ms[k].to.length) : unErr ms = 2 := by unfold unErr; rw [parts2 h1 hk h]; rfl
theorem un6 (h1 : ∀ t, (ht : t < ms.length) → mpBad ms[t] = false) (h2 : ∀ t, (ht : t < ms.length) → ¬ 64 < ms[t].to.length) {k : Nat} (hk : k < ms.length) (h : tagBad ms[k] = true) : unErr ms = 6 := by unfold unErr; rw [parts6 h1 h2 hk h]; rfl
theorem un0 (h1 : ∀ t, (ht : t < ms.length) → mpBad ms[t] = false) (h2 : ∀ t, (ht : t < ms.length) → ¬ 64 < ms[t].to.length) (h3 : ∀ t, (ht : t < ms.length) → tagBad ms[t] = false) : unErr ms = if dupM ms = true then 5 else 0 := by unfold unErr; rw [parts0 h1 h2 h3]; rfl
end

set_option maxRecDepth 100000 in
set_option maxHeartbeats 6400000 in
theorem refUnsorted_any (A : Option Addr) (n a : Nat) (ms : List Mp) (w : World) (hA : Mps w A ms) (hn : ms.length = n) (hz : MpsSz ms) :
    Calls Try.prog 62 #[.slice A n a] w (RetInt (unErr ms) w) := by
  subst hn
  have HA := Lib.hid hA
  have TC := Lib.hid (fun W hb => refTwice_any A ms.length a ms W (hA.below hb) rfl hz)
  have hnz := hz.n
  have HZ := Lib.hid hz.e
  have P1 := Lib.hid (fun k hk h => un1 (ms := ms) (k := k) hk h)
  have P2 := Lib.hid (fun h1 k hk h => un2 (ms := ms) h1 (k := k) hk h)
  have P6 := Lib.hid (fun h1 h2 k hk h => un6 (ms := ms) h1 h2 (k := k) hk h)
  have P0 := Lib.hid (un0 (ms := ms))
  clear hA hz
  generalize unErr ms = R at *
  go_enter Try.func62, Try.ntmps62
  go_wp2_with fail
  go_loopw [3] (fun u wr => ∃ i : Nat, i ≤ ms.length ∧ u = .int .i64 i ∧ (∀ t, (ht : t < ms.length) → t < i → mpBad ms[t] = false) ∧ Below w.heap.size w wr) (fun u _ => ms.length - (intOf u).toNat)
  case atStart => exact ⟨0, Nat.zero_le _, rfl, fun t _ h => by omega, Below.refl _ _⟩
  case round =>
    obtain ⟨i, hi, rfl, hno, hbr⟩ := hrel
    have HNO := Lib.hid hno
    clear hno
    by_cases hlt : i < ms.length
    · obtain ⟨b1, o1, rfl, hbl, hcell⟩ := (HA.out.below hbr).at hlt
      obtain ⟨C, cc, c0, c1, c2, hcc, hC⟩ := hcell i hlt
      obtain ⟨z1, z2⟩ := HZ.out i hlt
      have HB := Lib.hid (fun h => P1.out i hlt h)
      have HN := Lib.hid (fun h => all_up (P := fun m => mpBad m = false) hlt HNO.out h)
      have CC := Lib.hid (refCodes_any ms[i] C cc wr hC z1)
      clear hcell hC
      generalize ms[i] = mi at *
      generalize mpBad mi = bd at *
      obtain ⟨mf, mt, mg⟩ := mi
      dsimp only at *
      go_wp2_with fail
      with_reducible refine CC.out.mono ?_
      rintro e w1 ⟨rfl, hb1⟩
      have hb2 := hbr.trans (hb1.mono hbr.size)
      cases bd with
      | true =>
        obtain rfl := HB.out rfl
        go_wp2_with fail
        go_ret
        exact ⟨rfl, hb2⟩
      | false =>
        have HQ := Lib.hid (HN.out rfl)
        go_wp2_with fail
        go_roundw
        case rel => exact ⟨i + 1, by omega, by go_num, HQ.out, hb2⟩
        case measure => simp [intOf]; omega
    · have H1 := Lib.hid (fun t (ht : t < ms.length) => HNO.out t ht (by omega))
      clear HNO P1
      obtain ⟨W5, rfl⟩ : ∃ W5 : World, W5 = wr := ⟨_, rfl⟩
      go_wp2_with fail
      go_loop [4] (fun u => ∃ i : Nat, i ≤ ms.length ∧ u = .int .i64 i ∧ (∀ t, (ht : t < ms.length) → t < i → ¬ 64 < ms[t].to.length)) (fun u => ms.length - (intOf u).toNat)
      case atStart => exact ⟨0, Nat.zero_le _, rfl, fun t _ h => by omega⟩
      case round =>
        obtain ⟨i, hi, rfl, hno⟩ := hrel
        have HNO := Lib.hid hno
        clear hno
        by_cases hlt : i < ms.length
        · obtain ⟨b1, o1, rfl, hbl, hcell⟩ := (HA.out.below hbr).at hlt
          obtain ⟨C, cc, c0, c1, c2, hcc, hC⟩ := hcell i hlt
          obtain ⟨z1, z2⟩ := HZ.out i hlt
          have HB := Lib.hid (fun h => P2.out H1.out i hlt h)
          have HN := Lib.hid (fun h => all_up (P := fun m : Mp => ¬ 64 < m.to.length) hlt HNO.out h)
          clear hcell hC
          generalize ms[i] = mi at *
          obtain ⟨mf, mt, mg⟩ := mi
          dsimp only at *
          by_cases h64 : 64 < mt.length
          · have q1 : decide ((64 : Int) < (mt.length : Int)) = true := by simp; omega
            obtain rfl := HB.out h64
            go_wp2_with fail
            go_ret
            exact ⟨rfl, hbr⟩
          · have q1 : decide ((64 : Int) < (mt.length : Int)) = false := by simp; omega
            have HQ := Lib.hid (HN.out h64)
            go_wp2_with fail
            go_round
            case rel => exact ⟨i + 1, by omega, by go_num, HQ.out⟩
            case measure => simp [intOf]; omega
        · have H2 := Lib.hid (fun t (ht : t < ms.length) => HNO.out t ht (by omega))
          clear HNO P2
          go_wp2_with fail
          go_loop [5] (fun u => ∃ i : Nat, i ≤ ms.length ∧ u = .int .i64 i ∧ (∀ t, (ht : t < ms.length) → t < i → tagBad ms[t] = false)) (fun u => ms.length - (intOf u).toNat)
          case atStart => exact ⟨0, Nat.zero_le _, rfl, fun t _ h => by omega⟩
          case round =>
            obtain ⟨i, hi, rfl, hno⟩ := hrel
            have HNO := Lib.hid hno
            clear hno
            by_cases hlt : i < ms.length
            · obtain ⟨b1, o1, rfl, hbl, hcell⟩ := (HA.out.below hbr).at hlt
              obtain ⟨C, cc, c0, c1, c2, hcc, hC⟩ := hcell i hlt
              obtain ⟨z1, z2⟩ := HZ.out i hlt
              have HB := Lib.hid (fun h => P6.out H1.out H2.out i hlt h)
              have HN := Lib.hid (fun h => all_up (P := fun m : Mp => tagBad m = false) hlt HNO.out h)
              clear hcell hC
              generalize ms[i] = mi at *
              have T0 := Lib.hid (tagBad_empty (m := mi))
              have T1 := Lib.hid (tagBad_name (m := mi))
              generalize tagBad mi = tb at *
              obtain ⟨mf, mt, mg⟩ := mi
              dsimp only at *
              by_cases hg : mg.size = 0
              · have g0 : mg.toList = [] := str_nil hg
                have HQ := Lib.hid (HN.out (T0.out hg))
                clear T0 T1 HB HN
                go_wp2_with fail
                go_round
                case rel => exact ⟨i + 1, by omega, by go_num, HQ.out⟩
                case measure => simp [intOf]; omega
              · have g0 : ¬ mg.toList = [] := str_cons hg
                have g1 : mg.toList.isEmpty = false := by simpa using g0
                have hT := T1.out hg
                cases hnm : nameOk mg with
                | true =>
                  rw [hnm] at hT
                  have HQ := Lib.hid (HN.out hT)
                  clear hT T0 T1 HB HN
                  go_wp2_with (go_at_call 77; refine (Name_any mg _ z2).mono ?_; rw [hnm]; rintro e w' ⟨rfl, rfl⟩)
                  go_round
                  case rel => exact ⟨i + 1, by omega, by go_num, HQ.out⟩
                  case measure => simp [intOf]; omega
                | false =>
                  rw [hnm] at hT
                  obtain rfl := HB.out hT
                  clear hT T0 T1 HB HN
                  go_wp2_with (go_at_call 77; refine (Name_any mg _ z2).mono ?_; rw [hnm]; rintro e w' ⟨rfl, rfl⟩)
                  go_ret
                  exact ⟨rfl, hbr⟩
            · have hR := P0.out H1.out H2.out (fun t ht => HNO.out t ht (by omega))
              have HTC := Lib.hid (TC.out W5 hbr)
              clear TC P0 P6 HNO
              cases hd : dupM ms with
              | true =>
                rw [hd] at hR HTC
                have HR := Lib.hid hR
                clear hR hd
                go_wp2_with fail
                with_reducible refine HTC.out.mono ?_
                rintro e w1 ⟨rfl, hq⟩
                go_wp2_with fail
                go_ret
                exact ⟨ret_int HR.out.symm, hbr.trans (hq.below.mono hbr.size)⟩
              | false =>
                rw [hd] at hR HTC
                have HR := Lib.hid hR
                clear hR hd
                go_wp2_with fail
                with_reducible refine HTC.out.mono ?_
                rintro e w1 ⟨rfl, hq⟩
                go_wp2_with fail
                go_ret
                exact ⟨ret_int HR.out.symm, hbr.trans (hq.below.mono hbr.size)⟩

section
variable {ms : List Mp}
theorem unD : dupM ms = !decide (ms.map keyM).Nodup := rfl
theorem refU (h : unErr ms ≠ 0) : mapErr ms = unErr ms := by
  rw [← refMapErr_eq]
  unfold refMapErr
  unfold unErr at h ⊢
  by_cases h1 : partsErr ms = 0
  · simp only [h1, ne_eq, not_true_eq_false, if_false] at h ⊢
    cases hd : dupM ms with
    | true =>
      have : ¬ (ms.map keyM).Nodup := by rw [unD] at hd; simpa using hd
      simp [this]
    | false => rw [hd] at h; simp at h
  · simp [h1]
theorem refZ (h : unErr ms = 0) : mapErr ms = if ascM ms then 0 else 4 := by
  rw [← refMapErr_eq]
  unfold refMapErr
  unfold unErr at h
  by_cases h1 : partsErr ms = 0
  · simp only [h1, ne_eq, not_true_eq_false, if_false] at h ⊢
    cases hd : dupM ms with
    | true => rw [hd] at h; simp at h
    | false =>
      have : (ms.map keyM).Nodup := by rw [unD] at hd; simpa using hd
      simp [this]
  · simp [h1] at h
theorem refZ0 (h : unErr ms = 0) (ha : ∀ t, (ht : t + 1 < ms.length) → cmpM ms[t] ms[t + 1] < 0) : mapErr ms = 0 := by rw [refZ h, ascM_true ha]; rfl
theorem refZ4 (h : unErr ms = 0) {k : Nat} (hk : k + 1 < ms.length) (ha : ¬ cmpM ms[k] ms[k + 1] < 0) : mapErr ms = 4 := by rw [refZ h, ascM_false hk ha]; rfl
end

set_option maxRecDepth 100000 in
set_option maxHeartbeats 6400000 in
theorem refMapCheck_any (A : Option Addr) (n a : Nat) (ms : List Mp) (w : World) (hA : Mps w A ms) (hn : ms.length = n) (hz : MpsSz ms) :
    Calls Try.prog 34 #[.slice A n a] w (RetInt (mapErr ms) w) := by
  subst hn
  have UC := Lib.hid (refUnsorted_any A ms.length a ms w hA rfl hz)
  have HA := Lib.hid hA
  have hnz := hz.n
  have EU := Lib.hid (refU (ms := ms))
  have E0 := Lib.hid (refZ0 (ms := ms))
  have E4 := Lib.hid (fun h k hk ha => refZ4 (ms := ms) h (k := k) hk ha)
  clear hA hz
  generalize mapErr ms = R at *
  generalize unErr ms = pe at *
  go_enter Try.func34, Try.ntmps34
  go_wp2_with fail
  with_reducible refine UC.out.mono ?_
  rintro e W1 ⟨rfl, hb1⟩
  clear UC
  by_cases hpe : pe = 0
  rotate_left
  · have q1 : (pe != 0) = true := by simpa using hpe
    obtain rfl := EU.out hpe
    clear hpe EU E0 E4
    go_wp2_with fail
    go_ret
    exact ⟨rfl, hb1⟩
  have q1 : (pe != 0) = false := by simpa using hpe
  have E0' := Lib.hid (E0.out hpe)
  have E4' := Lib.hid (E4.out hpe)
  clear EU E0 E4 hpe
  go_wp2_with fail
  go_loopw [4] (fun u wr => ∃ i : Nat, 1 ≤ i ∧ (i ≤ ms.length ∨ i = 1) ∧ u = .int .i64 i ∧ (∀ t, (ht : t + 1 < ms.length) → t + 1 < i → cmpM ms[t] ms[t + 1] < 0) ∧ Below w.heap.size w wr) (fun u _ => ms.length - (intOf u).toNat)
  case atStart => exact ⟨1, by omega, .inr rfl, rfl, fun t _ h => by omega, hb1⟩
  case round =>
    obtain ⟨i, hi1, hi2, rfl, has, hbr⟩ := hrel
    have HAS := Lib.hid has
    clear has
    by_cases hlt : i < ms.length
    · obtain ⟨b1, o1, rfl, hbl, hcell⟩ := (HA.out.below hbr).at hlt
      obtain ⟨C, cc, c0, c1, c2, _, _⟩ := hcell i hlt
      obtain ⟨D, dd, d0, d1, d2, _, _⟩ := hcell (i - 1) (by omega)
      have MC := Lib.hid (fun W => refBefore_any (ms[i - 1]'(by omega)) ms[i] (.slice D (ms[i - 1]'(by omega)).to.length dd) (.slice C ms[i].to.length cc) W)
      have BI := Lib.hid (befM_iff (ms[i - 1]'(by omega)) ms[i])
      have HB := Lib.hid (show ¬ cmpM (ms[i - 1]'(by omega)) ms[i] < 0 → R = 4 from fun h => by
        obtain ⟨j, rfl⟩ : ∃ j, i = j + 1 := ⟨i - 1, by omega⟩
        exact E4'.out j hlt (by first | exact h | exact Int.not_lt.1 h))
      have HUP := Lib.hid (show cmpM (ms[i - 1]'(by omega)) ms[i] < 0 → ∀ t, (ht : t + 1 < ms.length) → t + 1 < i + 1 → cmpM ms[t] ms[t + 1] < 0 from fun h t ht hti => by
        by_cases e : t + 1 < i
        · exact HAS.out t ht e
        · obtain rfl : i = t + 1 := by omega
          exact h)
      clear hcell
      generalize befM (ms[i - 1]'(by omega)) ms[i] = bv at *
      generalize cmpM (ms[i - 1]'(by omega)) ms[i] = cv at *
      generalize (ms[i - 1]'(by omega)) = ma at *
      generalize ms[i] = mb at *
      obtain ⟨af, al', ag⟩ := ma
      obtain ⟨bf, bl'', bg⟩ := mb
      dsimp only at *
      generalize al'.length = al at *
      generalize bl''.length = bl' at *
      have i1 : (0 : Int) ≤ (i : Int) - 1 := by omega
      have i2 : (i : Int) - 1 < (ms.length : Int) := by omega
      have i3 : ((i : Int) - 1).toNat = i - 1 := by omega
      have i4 : (i : Int) < (ms.length : Int) := by omega
      have i5 : (0 : Int) ≤ (i : Int) := by omega
      have i6 : (1 : Int) ≤ (i : Int) := by omega
      have w1 : IntKind.i64.wrap ((i : Int) - 1) = (i : Int) - 1 := IntWalk.i64_in _ (by omega)
      have KS := Lib.hid (show ∀ W', Below wr.heap.size wr W' → W'.cell? ⟨b1, o1 + (i - 1) * 3, none⟩ = some (.int .i64 af) ∧ W'.cell? ⟨b1, o1 + (i - 1) * 3 + 1, none⟩ = some (.slice D al dd) ∧ W'.cell? ⟨b1, o1 + (i - 1) * 3 + 2, none⟩ = some (.string ag) ∧ W'.cell? ⟨b1, o1 + i * 3, none⟩ = some (.int .i64 bf) ∧ W'.cell? ⟨b1, o1 + i * 3 + 1, none⟩ = some (.slice C bl' cc) ∧ W'.cell? ⟨b1, o1 + i * 3 + 2, none⟩ = some (.string bg) ∧ Below wr.heap.size wr W' from fun W' hb => ⟨(hb.cell (p := ⟨b1, o1 + (i - 1) * 3, none⟩) hbl).trans d0, (hb.cell (p := ⟨b1, o1 + (i - 1) * 3 + 1, none⟩) hbl).trans d1, (hb.cell (p := ⟨b1, o1 + (i - 1) * 3 + 2, none⟩) hbl).trans d2, (hb.cell (p := ⟨b1, o1 + i * 3, none⟩) hbl).trans c0, (hb.cell (p := ⟨b1, o1 + i * 3 + 1, none⟩) hbl).trans c1, (hb.cell (p := ⟨b1, o1 + i * 3 + 2, none⟩) hbl).trans c2, hb⟩)
      have MC1 := Lib.hid (fun W' (hb : Below wr.heap.size wr W') => (MC.out W').mono (R' := fun e W' => e = .returned (.bool bv) ∧ (W'.cell? ⟨b1, o1 + (i - 1) * 3, none⟩ = some (.int .i64 af) ∧ W'.cell? ⟨b1, o1 + (i - 1) * 3 + 1, none⟩ = some (.slice D al dd) ∧ W'.cell? ⟨b1, o1 + (i - 1) * 3 + 2, none⟩ = some (.string ag) ∧ W'.cell? ⟨b1, o1 + i * 3, none⟩ = some (.int .i64 bf) ∧ W'.cell? ⟨b1, o1 + i * 3 + 1, none⟩ = some (.slice C bl' cc) ∧ W'.cell? ⟨b1, o1 + i * 3 + 2, none⟩ = some (.string bg) ∧ Below wr.heap.size wr W')) (fun e w' ⟨he, hb'⟩ => ⟨he, KS.out w' (hb.trans (hb'.mono hb.size))⟩))
      go_wp2_with fail
      refine wp_region_held_drew (S := fun W' => W'.cell? ⟨b1, o1 + (i - 1) * 3, none⟩ = some (.int .i64 af) ∧ W'.cell? ⟨b1, o1 + (i - 1) * 3 + 1, none⟩ = some (.slice D al dd) ∧ W'.cell? ⟨b1, o1 + (i - 1) * 3 + 2, none⟩ = some (.string ag) ∧ W'.cell? ⟨b1, o1 + i * 3, none⟩ = some (.int .i64 bf) ∧ W'.cell? ⟨b1, o1 + i * 3 + 1, none⟩ = some (.slice C bl' cc) ∧ W'.cell? ⟨b1, o1 + i * 3 + 2, none⟩ = some (.string bg) ∧ Below wr.heap.size wr W') (by kernel_rfl) (KS.out _ (Below.refl _ _).drew) (fun hHeld => ?_)
      refine anyH_take (i := 0) (v := ?_) (some 16) rfl rfl (by kernel_rfl) (by kernel_rfl) (by kernel_rfl) (fun _ _ _ h => h) (by rfl) (by assumption) ?_ ?_
      rotate_left
      · intro w hSw; (try dsimp only at hSw); go_split_ands; go_simp; try (with_reducible rfl)
      try simp only [Act.put, List.setIfInBounds_toArray, List.set_cons_zero, List.set_cons_succ]
      refine anyH_take (i := 1) (v := ?_) (some 17) rfl rfl (by kernel_rfl) (by kernel_rfl) (by kernel_rfl) (fun _ _ _ h => h) (by rfl) (by assumption) ?_ ?_
      rotate_left
      · intro w hSw; (try dsimp only at hSw); go_split_ands; go_simp; try (with_reducible rfl)
      try simp only [Act.put, List.setIfInBounds_toArray, List.set_cons_zero, List.set_cons_succ]
      refine anyH_take (i := 2) (v := ?_) (some 18) rfl rfl (by kernel_rfl) (by kernel_rfl) (by kernel_rfl) (fun _ _ _ h => h) (by rfl) (by assumption) ?_ ?_
      rotate_left
      · intro w hSw; (try dsimp only at hSw); go_split_ands; go_simp; try (with_reducible rfl)
      try simp only [Act.put, List.setIfInBounds_toArray, List.set_cons_zero, List.set_cons_succ]
      refine anyH_take (i := 3) (v := ?_) (some 19) rfl rfl (by kernel_rfl) (by kernel_rfl) (by kernel_rfl) (fun _ _ _ h => h) (by rfl) (by assumption) ?_ ?_
      rotate_left
      · intro w hSw; (try dsimp only at hSw); go_split_ands; go_simp; try (with_reducible rfl)
      try simp only [Act.put, List.setIfInBounds_toArray, List.set_cons_zero, List.set_cons_succ]
      refine anyH_take (i := 4) (v := ?_) (some 20) rfl rfl (by kernel_rfl) (by kernel_rfl) (by kernel_rfl) (fun _ _ _ h => h) (by rfl) (by assumption) ?_ ?_
      rotate_left
      · intro w hSw; (try dsimp only at hSw); go_split_ands; go_simp; try (with_reducible rfl)
      try simp only [Act.put, List.setIfInBounds_toArray, List.set_cons_zero, List.set_cons_succ]
      refine anyH_take (i := 5) (v := ?_) (some 21) rfl rfl (by kernel_rfl) (by kernel_rfl) (by kernel_rfl) (fun _ _ _ h => h) (by rfl) (by assumption) ?_ ?_
      rotate_left
      · intro w hSw; (try dsimp only at hSw); go_split_ands; go_simp; try (with_reducible rfl)
      try simp only [Act.put, List.setIfInBounds_toArray, List.set_cons_zero, List.set_cons_succ]
      refine anyH_take (i := 6) (v := ?_) (some 22) rfl rfl (by kernel_rfl) (by kernel_rfl) (by kernel_rfl) (fun _ _ _ h => h) (by rfl) (by assumption) ?_ ?_
      rotate_left
      · intro w hSw; (try dsimp only at hSw); go_split_ands; go_simp; try (with_reducible rfl)
      try simp only [Act.put, List.setIfInBounds_toArray, List.set_cons_zero, List.set_cons_succ]
      refine anyH_take (i := 7) (v := ?_) (some 23) rfl rfl (by kernel_rfl) (by kernel_rfl) (by kernel_rfl) (fun _ _ _ h => h) (by rfl) (by assumption) ?_ ?_
      rotate_left
      · intro w hSw; (try dsimp only at hSw); go_split_ands; go_simp; try (with_reducible rfl)
      try simp only [Act.put, List.setIfInBounds_toArray, List.set_cons_zero, List.set_cons_succ]
      refine anyH_take (i := 8) (v := ?_) (some 24) rfl rfl (by kernel_rfl) (by kernel_rfl) (by kernel_rfl) (fun _ _ _ h => h) (by rfl) (by assumption) ?_ ?_
      rotate_left
      · intro w hSw; (try dsimp only at hSw); go_split_ands; go_simp; try (with_reducible rfl)
      try simp only [Act.put, List.setIfInBounds_toArray, List.set_cons_zero, List.set_cons_succ]
      refine anyH_call (i := 9) (some 25) rfl rfl (by kernel_rfl) (by rfl) (by go_simp) (MC1.out _ hHeld.2.2.2.2.2.2) (fun W3 hS6 => ?_)
      clear hHeld
      have hHeld := hS6
      clear hS6
      try simp only [Act.put, List.setIfInBounds_toArray, List.set_cons_zero, List.set_cons_succ]
      refine anyH_take (i := 10) (v := ?_) (some 26) rfl rfl (by kernel_rfl) (by kernel_rfl) (by kernel_rfl) (fun _ _ _ h => h) (by rfl) (by assumption) ?_ ?_
      rotate_left
      · intro w hSw; (try dsimp only at hSw); go_split_ands; go_simp; try (with_reducible rfl)
      try simp only [Act.put, List.setIfInBounds_toArray, List.set_cons_zero, List.set_cons_succ]
      refine wpAnyH_done (by kernel_rfl) ?_ _
      have Bp := hHeld.2.2.2.2.2.2
      have hb2 := hbr.trans (Bp.mono hbr.size)
      clear hHeld c0 c1 c2 d0 d1 d2 KS MC MC1 i1 i2 i3 i4 i5 i6 w1
      cases bv with
      | true =>
        have HQ := Lib.hid (HUP.out (of_decide_eq_true BI.out.symm))
        clear BI HUP HB
        go_wp2_with fail
        go_roundw
        case rel => exact ⟨i + 1, by omega, .inl (by omega), by go_num, HQ.out, hb2⟩
        case measure => simp [intOf]; omega
      | false =>
        obtain rfl := HB.out (by have h9 := of_decide_eq_false BI.out.symm; omega)
        clear BI HUP HB
        go_wp2_with fail
        go_ret
        exact ⟨rfl, hb2⟩
    · obtain rfl := E0'.out (fun t ht => HAS.out t ht (by omega))
      go_wp2_with fail
      go_ret
      exact ⟨rfl, hbr⟩

/-- the result of a look for a mapping -/
def RetGet (r : Option (List Int)) (w : World) (e : Ending) (w' : World) : Prop := ∃ E d, e = .returned (.tuple #[.slice E (r.getD []).length d, .bool r.isSome]) ∧ (r.getD []).length ≤ d ∧ Ints w' E (r.getD []) ∧ Below w.heap.size w w'

set_option maxRecDepth 100000 in
set_option maxHeartbeats 3200000 in
theorem refMapFind_any (A : Option Addr) (n a : Nat) (ms : List Mp) (x : Int) (tag : ByteArray) (w : World) (hA : Mps w A ms) (hn : ms.length = n) (hz : MpsSz ms) :
    Calls Try.prog 80 #[.slice A n a, .int .i64 x, .string tag] w (RetGet (getM ms x tag) w) := by
  subst hn
  have HA := Lib.hid hA
  have hnz := hz.n
  have HZ := Lib.hid hz.e
  have G1 := Lib.hid (fun k hk h hb => getM_at (ms := ms) (x := x) (tag := tag) (k := k) hk h hb)
  have G0 := Lib.hid (getM_none (ms := ms) (x := x) (tag := tag))
  generalize getM ms x tag = r at *
  clear hA hz
  go_enter Try.func80, Try.ntmps80
  go_wp2_with fail
  go_loop [8] (fun u => ∃ i : Nat, i ≤ ms.length ∧ u = .int .i64 i ∧ (∀ t, (ht : t < ms.length) → t < i → keyM ms[t] ≠ (x, tag))) (fun u => ms.length - (intOf u).toNat)
  case atStart => exact ⟨0, Nat.zero_le _, rfl, fun t _ h => by omega⟩
  case round =>
    obtain ⟨i, hi, rfl, hno⟩ := hrel
    have HNO := Lib.hid hno
    clear hno
    by_cases hlt : i < ms.length
    · obtain ⟨b1, o1, rfl, hbl, hcell⟩ := HA.out.at hlt
      obtain ⟨C, cc, c0, c1, c2, hcc, hC⟩ := hcell i hlt
      obtain ⟨z1, z2⟩ := HZ.out i hlt
      have HY := Lib.hid (fun h => G1.out i hlt h HNO.out)
      have HN := Lib.hid (fun h => all_up (P := fun m => keyM m ≠ (x, tag)) hlt HNO.out h)
      have HKE := Lib.hid (show keyM ms[i] = (x, tag) ↔ (ms[i].frm = x ∧ ms[i].tag = tag) from ⟨fun h => by injection h with h1 h2; exact ⟨h1, h2⟩, fun h => by unfold keyM; rw [h.1, h.2]⟩)
      have HC := Lib.hid hC
      clear hcell hC
      generalize keyM ms[i] = kx at *
      generalize ms[i] = mi at *
      obtain ⟨mf, mt, mg⟩ := mi
      dsimp only at *
      by_cases h1 : mf = x
      · have q1 : (mf == x) = true := by simpa using h1
        by_cases h2 : mg = tag
        · have q2 := str_eqT h2
          obtain rfl := HY.out (HKE.out.2 ⟨h1, h2⟩)
          clear HY HN HKE h1 h2
          go_wp2_with (at_builtin; refine wpList_app _ _ 32 3 (.int .i64 0) 1 8 rfl rfl Try.underlying32 info_int rfl (by decide) (by decide) rfl (own_new [] 3 1 0 w.heap.size rfl rfl (Nat.le_refl _) (by omega)) rfl (Sl.alloc HC.out _) (by simp) (oneCell_ints _) (by omega) (by simp) ?_; intro A1 c1 w9 hown1 hc1 hb9 _ _; simp only [Nat.zero_add, List.nil_append] at hown1 hc1; have HOWN := Lib.hid hown1; clear hown1)
          go_ret2
          refine ⟨A1, c1, ?_, hc1, Sl.of_own HOWN.out, ((Below.refl w.heap.size w).alloc (Nat.le_refl _) _).trans hb9⟩
          simp
        · have q2 := str_eqF h2
          have HQ := Lib.hid (HN.out (fun e => h2 (HKE.out.1 e).2))
          clear HY HN HKE h1 h2
          go_wp2_with fail
          go_round
          case rel => exact ⟨i + 1, by omega, by go_num, HQ.out⟩
          case measure => simp [intOf]; omega
      · have q1 : (mf == x) = false := by simpa using h1
        have HQ := Lib.hid (HN.out (fun e => h1 (HKE.out.1 e).1))
        clear HY HN HKE h1
        go_wp2_with fail
        go_round
        case rel => exact ⟨i + 1, by omega, by go_num, HQ.out⟩
        case measure => simp [intOf]; omega
    · obtain rfl := G0.out (fun t ht => HNO.out t ht (by omega))
      go_wp2_with fail
      go_ret2
      exact ⟨none, 0, rfl, Nat.le_refl _, Sl.nil _ _, Below.refl _ _⟩

/-- mappings that count -/
def valM (ms : List Mp) : List Mp := if mapErr ms = 0 then ms else []
set_option maxRecDepth 100000 in
theorem refMapValid_any (A : Option Addr) (n a : Nat) (ms : List Mp) (w : World) (hA : Mps w A ms) (hn : ms.length = n) (hz : MpsSz ms) :
    Calls Try.prog 81 #[.slice A n a] w (fun e w' => ∃ A' a', e = .returned (.slice A' (valM ms).length a') ∧ Mps w' A' (valM ms) ∧ Below w.heap.size w w') := by
  subst hn
  have CC := Lib.hid (refMapCheck_any A ms.length a ms w hA rfl hz)
  have HA := Lib.hid hA
  have V1 := Lib.hid (fun (h : mapErr ms = 0) => show valM ms = ms by unfold valM; rw [if_pos h])
  have V0 := Lib.hid (fun (h : ¬ mapErr ms = 0) => show valM ms = [] by unfold valM; rw [if_neg h])
  generalize valM ms = R at *
  clear hA hz
  go_enter Try.func81, Try.ntmps81
  go_wp2_with fail
  with_reducible refine CC.out.mono ?_
  rintro e W1 ⟨rfl, hb1⟩
  by_cases h : mapErr ms = 0
  · have q1 : (mapErr ms != 0) = false := by simpa using h
    obtain rfl := V1.out h
    clear V1 V0 CC h
    generalize mapErr R = er at *
    go_wp2_with fail
    go_ret
    exact ⟨A, a, rfl, HA.out.below hb1, hb1⟩
  · have q1 : (mapErr ms != 0) = true := by simpa using h
    obtain rfl := V0.out h
    clear V1 V0 CC h
    generalize mapErr ms = er at *
    go_wp2_with fail
    go_ret
    exact ⟨none, 0, rfl, Mps.nil _ _, hb1⟩

theorem getV_val (ms : List Mp) (x : Int) (tag : ByteArray) : getM (valM ms) x tag = getV ms x tag := by
  unfold valM getV
  split
  · rfl
  · rfl
theorem valM_sz {ms : List Mp} (h : MpsSz ms) : MpsSz (valM ms) := by
  unfold valM
  split
  · exact h
  · exact ⟨by decide, fun _ hi => absurd hi (Nat.not_lt_zero _)⟩

set_option maxRecDepth 100000 in
theorem refMapGet_any (A : Option Addr) (n a : Nat) (ms : List Mp) (x : Int) (tag : ByteArray) (w : World) (hA : Mps w A ms) (hn : ms.length = n) (hz : MpsSz ms) :
    Calls Try.prog 69 #[.slice A n a, .int .i64 x, .string tag] w (RetGet (getV ms x tag) w) := by
  have VC := Lib.hid (refMapValid_any A n a ms w hA hn hz)
  have FC := Lib.hid (fun A' a' W hA' => refMapFind_any A' (valM ms).length a' (valM ms) x tag W hA' rfl (valM_sz hz))
  have E := Lib.hid (getV_val ms x tag)
  clear hA hz
  generalize getM (valM ms) x tag = r at *
  generalize getV ms x tag = r' at *
  generalize valM ms = vs at *
  go_enter Try.func69, Try.ntmps69
  go_wp2_with fail
  with_reducible refine VC.out.mono ?_
  rintro e W1 ⟨A', a', rfl, hA', hb1⟩
  have HF := Lib.hid (FC.out A' a' W1 hA')
  clear FC hA' VC
  go_wp2_with fail
  with_reducible refine HF.out.mono ?_
  rintro e W2 ⟨E2, d2, rfl, hd2, hE2, hb2⟩
  have HE2 := Lib.hid hE2
  clear HF hE2
  obtain rfl := E.out
  go_wp2_with fail
  go_ret2
  exact ⟨E2, d2, rfl, hd2, HE2.out, hb1.trans (hb2.mono hb1.size)⟩

def smallM (ms : List Mp) : Bool := decide (ms.length ≤ 20) && ms.all (fun m => decide (m.to.length ≤ 65) && decide (m.tag.size ≤ 40))
theorem smallM_sz {ms : List Mp} (h : smallM ms = true) : MpsSz ms ∧ ms.length ≤ 20 ∧ ∀ m ∈ ms, m.to.length ≤ 65 ∧ m.tag.size ≤ 40 := by
  simp only [smallM, Bool.and_eq_true, decide_eq_true_eq, List.all_eq_true] at h
  refine ⟨⟨by omega, fun i hi => ?_⟩, h.1, h.2⟩
  have := h.2 ms[i] (List.getElem_mem hi)
  omega
theorem smallM1 {ms : List Mp} (h : ¬ ms.length ≤ 20) : smallM ms = false := by simp [smallM]; omega
theorem smallM2 {ms : List Mp} {k : Nat} (hk : k < ms.length) (h : ¬ (ms[k].to.length ≤ 65 ∧ ms[k].tag.size ≤ 40)) : smallM ms = false := by
  cases e : smallM ms with
  | false => rfl
  | true => exact absurd ((smallM_sz e).2.2 ms[k] (List.getElem_mem hk)) h
theorem smallM3 {ms : List Mp} (h1 : ms.length ≤ 20) (h : ∀ t, (ht : t < ms.length) → ms[t].to.length ≤ 65 ∧ ms[t].tag.size ≤ 40) : smallM ms = true := by
  simp only [smallM, Bool.and_eq_true, decide_eq_true_eq, List.all_eq_true]
  refine ⟨h1, fun m hm => ?_⟩
  obtain ⟨t, ht, rfl⟩ := List.getElem_of_mem hm
  exact h t ht

set_option maxRecDepth 100000 in
set_option maxHeartbeats 3200000 in
theorem smallM_any (A : Option Addr) (n a : Nat) (ms : List Mp) (w : World) (hA : Mps w A ms) (hn : ms.length = n) (hl : n ≤ 9223372036854775807) (hs : ∀ i, (hi : i < ms.length) → ms[i].to.length ≤ 9223372036854775807 ∧ ms[i].tag.size ≤ 9223372036854775807) :
    Calls Try.prog 30 #[.slice A n a] w (fun e w' => e = .returned (.bool (smallM ms)) ∧ w = w') := by
  subst hn
  have HA := Lib.hid hA
  have HS := Lib.hid hs
  have S1 := Lib.hid (smallM1 (ms := ms))
  have S2 := Lib.hid (fun k hk h => smallM2 (ms := ms) (k := k) hk h)
  have S3 := Lib.hid (smallM3 (ms := ms))
  generalize smallM ms = R at *
  clear hA hs
  go_enter Try.func30, Try.ntmps30
  go_wp2_with fail
  go_loop [3] (fun u => ∃ i : Nat, i ≤ ms.length ∧ i ≤ 30 ∧ u = .int .i64 i ∧ (∀ t, (ht : t < ms.length) → t < i → ms[t].to.length ≤ 65 ∧ ms[t].tag.size ≤ 40)) (fun u => ms.length - (intOf u).toNat)
  case atStart => exact ⟨0, Nat.zero_le _, by omega, rfl, fun t _ h => by omega⟩
  case round =>
    obtain ⟨i, hi, hi30, rfl, hno⟩ := hrel
    have HNO := Lib.hid hno
    clear hno
    by_cases hlt : i < ms.length
    · by_cases h30 : i < 30
      · obtain ⟨b1, o1, rfl, hbl, hcell⟩ := HA.out.at hlt
        obtain ⟨C, cc, c0, c1, c2, hcc, hC⟩ := hcell i hlt
        obtain ⟨z1, z2⟩ := HS.out i hlt
        have HB := Lib.hid (fun h => S2.out i hlt h)
        have HN := Lib.hid (fun h => all_up (P := fun m : Mp => m.to.length ≤ 65 ∧ m.tag.size ≤ 40) hlt HNO.out h)
        have q30 : decide ((i : Int) < 30) = true := by simp; omega
        clear hcell hC
        generalize ms[i] = mi at *
        obtain ⟨mf, mt, mg⟩ := mi
        dsimp only at *
        by_cases h1 : mt.length ≤ 65
        · have q1 : decide ((65 : Int) < (mt.length : Int)) = false := by simp; omega
          by_cases h2 : mg.size ≤ 40
          · have q2 : decide ((40 : Int) < (mg.size : Int)) = false := by simp; omega
            have HQ := Lib.hid (HN.out ⟨h1, h2⟩)
            clear HB HN
            go_wp2_with fail
            go_round
            case rel => exact ⟨i + 1, by omega, by omega, by go_num, HQ.out⟩
            case measure => simp [intOf]; omega
          · have q2 : decide ((40 : Int) < (mg.size : Int)) = true := by simp; omega
            obtain rfl := HB.out (fun h => h2 h.2)
            clear HB HN
            go_wp2_with fail
            go_ret
            exact ⟨rfl, rfl⟩
        · have q1 : decide ((65 : Int) < (mt.length : Int)) = true := by simp; omega
          obtain rfl := HB.out (fun h => h1 h.1)
          clear HB HN
          go_wp2_with fail
          go_ret
          exact ⟨rfl, rfl⟩
      · obtain rfl := S1.out (by omega)
        have q30 : decide ((i : Int) < 30) = false := by simp; omega
        have q20 : decide (ms.length ≤ 20) = false := by simp; omega
        have q21 : decide ((ms.length : Int) ≤ 20) = false := by simp; omega
        go_wp2_with fail
        go_ret
        exact ⟨by simp; try omega, rfl⟩
    · by_cases h20 : ms.length ≤ 20
      · obtain rfl := S3.out h20 (fun t ht => HNO.out t ht (by omega))
        have q20 : decide (ms.length ≤ 20) = true := by simpa using h20
        have q21 : decide ((ms.length : Int) ≤ 20) = true := by simp; omega
        go_wp2_with fail
        go_ret
        exact ⟨by simp; try omega, rfl⟩
      · obtain rfl := S1.out h20
        have q20 : decide (ms.length ≤ 20) = false := by simpa using h20
        have q21 : decide ((ms.length : Int) ≤ 20) = false := by simp; omega
        go_wp2_with fail
        go_ret
        exact ⟨by simp; try omega, rfl⟩

end Go.Proofs.Ytpamkbbmbeeheaa
