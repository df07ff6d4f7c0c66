/- The contract of colltable.checkGroups: the first error of the groups. -/
import Derived.Test.YtnfnoefjgiojoaaElement
import Derived.Test.YtnfnoefjgiojoaaMaps
import Derived.IntWalk
import Derived.WalkSpells
namespace Go.Proofs.Ytnfnoefjgiojoaa
open Go.RowKit Go.Maps Go.WideMaps

theorem law_str : Keyed Try.prog 9 := string_keyed Try.underlying9
theorem zero_bool (w : World) : (zeroValue 4).run Try.prog w = .ok (.bool false) w := by kernel_rfl
theorem key_str {s : ByteArray} (h : s.size ≤ 9223372036854775807) : keyOf Try.prog 9 (.string s) = some (skey s) := keyOf_string_mk Try.underlying9 (by unfold maxLen; exact h)
theorem sok_of {s : ByteArray} (h : s.size ≤ 9223372036854775807) : sok s := by unfold sok maxLen; exact h

instance (s : ByteArray) (l : List ByteArray) : Decidable (s ∈ l) := decidable_of_iff (l.any (fun x => decide (x = s)) = true) (by simp)

/-- the set of names so far -/
def setF (l : List ByteArray) (s : ByteArray) : Option Value := if s ∈ l then some (.bool true) else none
theorem setF_yes {l : List ByteArray} {s : ByteArray} (h : s ∈ l) : (setF l s).getD (.bool false) = .bool true := by unfold setF; rw [if_pos h]; rfl
theorem setF_no {l : List ByteArray} {s : ByteArray} (h : s ∉ l) : (setF l s).getD (.bool false) = .bool false := by unfold setF; rw [if_neg h]; rfl
theorem setF_put (l : List ByteArray) (s : ByteArray) (x : ByteArray) : setF (l ++ [s]) x = if x = s then some (.bool true) else setF l x := by
  unfold setF
  by_cases h : x = s
  · simp [h]
  · simp [h]

theorem below_grown {B : Nat} {a w w' : World} {g : Nat} (h : Below B a w) (hg : w.grownBy w' (some g)) (hb : B ≤ g) (hs : B ≤ w.heap.size) : Below B a w' :=
  h.grown hg hs fun k e => by injection e with e; omega

set_option maxRecDepth 100000 in
set_option maxHeartbeats 8000000 in
theorem ckGroups_any (A : Option Addr) (n a : Nat) (B : Option Addr) (m b : Nat) (c : Col) (w : World) (h : ColAt w A n B m c) (hb65 : c.base ≤ 65502) (hbig : m ≤ 1048576) :
    Calls Try.prog 41 #[colV A n a B m b c] w (RetInt (grpErr c.base c.grps) w) := by
  obtain ⟨ents, gs, base, second, third⟩ := c
  obtain ⟨_, hG, hn, hm, hs⟩ := h
  dsimp only at hG hn hm hs hb65
  subst hm
  unfold colV
  dsimp only
  have HS := Lib.hid (fun i (hi : i < gs.length) => hs gs[i] (List.getElem_mem hi))
  have HG := Lib.hid hG
  have hmm := @run_makeMap Try.prog
  clear hs hG hn
  go_enter Try.func41, Try.ntmps41
  go_wp2
  have B0 : Below w.heap.size w (w.alloc (.cells #[.slice A n a, .slice B gs.length b, .int .i64 base, .int .i64 second, .int .i64 third] 25)) := (Below.refl _ _).alloc (Nat.le_refl _) _
  have s0 : (w.alloc (.cells #[.slice A n a, .slice B gs.length b, .int .i64 base, .int .i64 second, .int .i64 third] 25)).heap.size = w.heap.size + 1 := by simp
  have k1 : (w.alloc (.cells #[.slice A n a, .slice B gs.length b, .int .i64 base, .int .i64 second, .int .i64 third] 25)).cell? ⟨w.heap.size, 1, none⟩ = some (.slice B gs.length b) := by simp
  have k2 : (w.alloc (.cells #[.slice A n a, .slice B gs.length b, .int .i64 base, .int .i64 second, .int .i64 third] 25)).cell? ⟨w.heap.size, 2, none⟩ = some (.int .i64 base) := by simp
  obtain ⟨W0, hW0⟩ : ∃ W0, w.alloc (.cells #[.slice A n a, .slice B gs.length b, .int .i64 base, .int .i64 second, .int .i64 third] 25) = W0 := ⟨_, rfl⟩
  rw [hW0] at B0 s0 k1 k2 ⊢
  clear hW0
  have HG0 := Lib.hid (HG.out.below B0)
  have K := Lib.hid (And.intro k1 k2)
  have S0 := Lib.hid s0
  have hx0 : w.heap.size < W0.heap.size := by omega
  clear HG k1 k2 s0
  go_loopw [4, 15] (fun _ u wr => ∃ i : Nat, i ≤ gs.length ∧ u = .int .i64 i ∧ (∀ t, (ht : t < gs.length) → t < i → nameOk gs[t].name = true) ∧ Below W0.heap.size W0 wr) (fun _ u _ => gs.length - (intOf u).toNat)
  case atStart => exact ⟨0, Nat.zero_le _, rfl, fun t _ h => by omega, Below.refl _ _⟩
  case round =>
    obtain ⟨i, hi, rfl, h6, hb⟩ := hrel
    have H6 := Lib.hid h6; clear h6
    by_cases hlt : i < gs.length
    · obtain ⟨b1, o1, rfl, hbl, hcell⟩ := (HG0.out.below hb).at hlt
      obtain ⟨c1, c2, c3⟩ := hcell i hlt
      have hss := HS.out i hlt
      have HB := Lib.hid (fun h => grp6 (base := base) hlt h)
      have HN := Lib.hid (fun h => all_up (P := fun g => nameOk g.name = true) hlt H6.out h)
      clear hcell
      generalize gs[i].name = nm at *
      generalize gs[i].lo = lo at *
      generalize gs[i].hi = hi' at *
      go_wp2_with fail
      refine (isName_any nm _ hss).mono ?_
      rintro e w1 ⟨rfl, rfl⟩
      cases hnm : nameOk nm
      · go_wp2_with fail
        go_ret
        exact ⟨ret_int (HB.out hnm).symm, B0.trans ((hb.alloc hb.size _).mono B0.size)⟩
      · go_wp2_with fail
        go_roundw
        case rel => exact ⟨i + 1, by omega, by go_num, HN.out hnm, hb.alloc hb.size _⟩
        case measure => simp [intOf]; omega
    · have H6' := Lib.hid (fun t (ht : t < gs.length) => H6.out t ht (by omega))
      clear H6
      have f1 := (hb.cell (p := ⟨w.heap.size, 1, none⟩) hx0).trans K.out.1
      have hx1 : w.heap.size < wr.heap.size := by have := hb.size; omega
      go_wp2
      have hM0 := MapIs.made Try.prog 9 skey sok wr
      have hb1 := hb.alloc hb.size (.map #[] 0)
      obtain ⟨mb, hmb⟩ : ∃ mb, wr.heap.size = mb := ⟨_, rfl⟩
      rw [hmb] at hM0 ⊢
      have hmb0 : W0.heap.size ≤ mb := by have := hb.size; omega
      obtain ⟨W1, hW1⟩ : ∃ W1, wr.alloc (.map #[] 0) = W1 := ⟨_, rfl⟩
      rw [hW1] at hM0 hb1 ⊢
      clear hW1 hmb hb f1 hx1
      go_loopw [7, 28] (fun _ u wr => ∃ i : Nat, i ≤ gs.length ∧ u = .int .i64 i ∧ (nms gs i).Nodup ∧ MapS Try.prog 9 wr mb i (setF (nms gs i)) ∧ Below W0.heap.size W0 wr) (fun _ u _ => gs.length - (intOf u).toNat)
      case atStart => exact ⟨0, Nat.zero_le _, rfl, by simp [nms], hM0.ext (fun x _ => by simp [nms, setF]), hb1⟩
      case round =>
        obtain ⟨i, hi, rfl, h5, hM, hb⟩ := hrel
        have H5 := Lib.hid h5; clear h5
        have HM := Lib.hid hM; clear hM
        by_cases hlt : i < gs.length
        · obtain ⟨b1, o1, rfl, hbl, hcell⟩ := (HG0.out.below hb).at hlt
          obtain ⟨c1, c2, c3⟩ := hcell i hlt
          have hss := HS.out i hlt
          have HB := Lib.hid (fun h => grp5 (base := base) H6'.out (nms_dup hlt h))
          have HN := Lib.hid (fun h => nms_nodup hlt H5.out h)
          have HE := Lib.hid (nms_succ hlt)
          clear hcell
          generalize gs[i].name = nm at *
          generalize gs[i].lo = lo at *
          generalize gs[i].hi = hi' at *
          by_cases hin : nm ∈ nms gs i
          · have HV := Lib.hid (setF_yes hin)
            go_wp2_with (at_lookup; refine wpList_look rfl _ _ 75 rfl (HM.out.alloc _) law_str Try.underlying75 (zero_bool _) rfl rfl (sok_of hss) (key_str hss) ?_; rw [HV.out])
            go_ret
            exact ⟨ret_int (HB.out hin).symm, B0.trans ((hb.alloc hb.size _).mono B0.size)⟩
          · have HV := Lib.hid (setF_no hin)
            have HP := Lib.hid (fun x => setF_put (nms gs i) nm x)
            go_wp2_with (first
              | (at_lookup; refine wpList_look rfl _ _ 75 rfl (HM.out.alloc _) law_str Try.underlying75 (zero_bool _) rfl rfl (sok_of hss) (key_str hss) ?_; rw [HV.out])
              | (at_mapUpdate; refine wpList_mput rfl _ _ _ 75 rfl (HM.out.alloc _) law_str Try.underlying75 (by unfold maxLen; omega) rfl rfl rfl (sok_of hss) (key_str hss) (fun y _ e => skey_inj e) ?_; intro w9 hM9 hg9))
            have hb9 := below_grown (hb.alloc hb.size (.cells #[.string nm, .int .i64 lo, .int .i64 hi'] 36)) hg9 hmb0 (by have := hb.size; simp; omega)
            have HM9 := Lib.hid hM9
            clear hM9 hg9
            go_roundw
            case rel => exact ⟨i + 1, by omega, by go_num, HN.out hin, by rw [HE.out]; exact HM9.out.ext (fun x _ => HP.out x), hb9⟩
            case measure => simp [intOf]; omega
        · have H5' := Lib.hid (show (gs.map Grp.name).Nodup by rw [← nms_all, show gs.length = i by omega]; exact H5.out)
          clear H5 HM
          have f1 := (hb.cell (p := ⟨w.heap.size, 1, none⟩) hx0).trans K.out.1
          go_wp2
          clear f1
          go_loopw [9, 43] (fun _ u wr => ∃ i : Nat, i ≤ gs.length ∧ u = .int .i64 i ∧ (∀ t, (ht : t < gs.length) → t < i → ¬ badG base gs[t]) ∧ Below W0.heap.size W0 wr) (fun _ u _ => gs.length - (intOf u).toNat)
          case atStart => exact ⟨0, Nat.zero_le _, rfl, fun t _ h => by omega, hb⟩
          case round =>
            obtain ⟨i, hi, rfl, h1, hb⟩ := hrel
            have H1 := Lib.hid h1; clear h1
            have hx1 : w.heap.size < wr.heap.size := by have := hb.size; omega
            by_cases hlt : i < gs.length
            · obtain ⟨b1, o1, rfl, hbl, hcell⟩ := (HG0.out.below hb).at hlt
              obtain ⟨c1, c2, c3⟩ := hcell i hlt
              have f2 := (hb.cell (p := ⟨w.heap.size, 2, none⟩) hx0).trans K.out.2
              have HD := Lib.hid (show badG base gs[i] ↔ (gs[i].lo < 1 ∨ gs[i].hi < gs[i].lo ∨ base ≤ gs[i].hi) from Iff.rfl)
              have HB := Lib.hid (fun h => grp1 (base := base) H6'.out H5'.out hlt h)
              have HN := Lib.hid (fun h => all_up (P := fun g => ¬ badG base g) hlt H1.out h)
              clear hcell
              generalize badG base gs[i] = Bd at *
              generalize gs[i].name = nm at *
              generalize gs[i].lo = lo at *
              generalize gs[i].hi = hi' at *
              go_wp2
              all_goals first
                | (go_ret
                   exact ⟨ret_int (HB.out (HD.out.2 (by omega))).symm, B0.trans ((hb.alloc hb.size _).mono B0.size)⟩)
                | (go_roundw
                   case rel => exact ⟨i + 1, by omega, by go_num, HN.out (fun h => by have := HD.out.1 h; omega), hb.alloc hb.size _⟩
                   case measure => simp [intOf]; omega)
            · have H1' := Lib.hid (fun t (ht : t < gs.length) => H1.out t ht (by omega))
              clear H1
              have f1 := (hb.cell (p := ⟨w.heap.size, 1, none⟩) hx0).trans K.out.1
              go_wp2
              clear f1
              go_loopw [10, 11, 68] (fun _ _ u wr => ∃ i : Nat, i ≤ gs.length ∧ u = .int .i64 i ∧ (∀ t, (ht : t + 1 < gs.length) → t + 1 < i → gs[t + 1].lo = gs[t].hi + 1) ∧ Below W0.heap.size W0 wr) (fun _ _ u _ => gs.length - (intOf u).toNat)
              case atStart => exact ⟨0, Nat.zero_le _, rfl, fun t _ h => by omega, hb⟩
              case round =>
                obtain ⟨i, hi, rfl, h4, hb⟩ := hrel
                have H4 := Lib.hid h4; clear h4
                have hx1 : w.heap.size < wr.heap.size := by have := hb.size; omega
                by_cases hlt : i < gs.length
                · obtain ⟨b1, o1, rfl, hbl, hcell⟩ := (HG0.out.below hb).at hlt
                  obtain ⟨c1, c2, c3⟩ := hcell i hlt
                  have f1 := (hb.cell (p := ⟨w.heap.size, 1, none⟩) hx0).trans K.out.1
                  by_cases hp : 0 < i
                  · have hp1 : i - 1 < gs.length := by omega
                    have d3 := (hcell (i - 1) hp1).2.2
                    have HX := H1'.out (i - 1) hp1
                    unfold badG at HX
                    have e1 : i - 1 + 1 = i := by omega
                    have HB := Lib.hid (fun (h : gs[i].lo ≠ (gs[i - 1]'hp1).hi + 1) => grp4 (base := base) H6'.out H5'.out H1'.out (k := i - 1) (by omega) (by simpa only [e1] using h))
                    have HN := Lib.hid (fun (h : gs[i].lo = (gs[i - 1]'hp1).hi + 1) => show ∀ t, (ht : t + 1 < gs.length) → t + 1 < i + 1 → gs[t + 1].lo = gs[t].hi + 1 from fun t ht g => by
                      by_cases e : t + 1 < i
                      · exact H4.out t ht e
                      · obtain rfl : t = i - 1 := by omega
                        simpa only [e1] using h)
                    have hz : 1 ≤ (gs[i - 1]'hp1).hi ∧ (gs[i - 1]'hp1).hi < 65502 := by omega
                    clear hcell e1 HX
                    generalize gs[i].name = nm at *
                    generalize gs[i].lo = lo at *
                    generalize gs[i].hi = hi' at *
                    generalize (gs[i - 1]'hp1).hi = ph at *
                    have i1 : (0 : Int) ≤ (i : Int) - 1 := by omega
                    have i2 : (i : Int) - 1 < (gs.length : Int) := by omega
                    have i3 : ((i : Int) - 1).toNat = i - 1 := by omega
                    have w1 : IntKind.i64.wrap ((i : Int) - 1) = (i : Int) - 1 := IntWalk.i64_in _ (by omega)
                    have w2 : IntKind.i64.wrap (ph + 1) = ph + 1 := IntWalk.i64_in _ (by omega)
                    by_cases hq : lo = ph + 1
                    · have q1 : (lo != ph + 1) = false := by simpa using hq
                      have HQ := Lib.hid (HN.out hq)
                      clear hq HN HB
                      go_wp2_with fail
                      go_quiet (fail)
                      clear i3 w1 w2
                      go_wp2_with fail
                      go_roundw
                      case rel => exact ⟨i + 1, by omega, by go_num, HQ.out, ⟨hb.os, hb.tape, hb.output, (hb.alloc hb.size _).size, (hb.alloc hb.size _).block⟩⟩
                      case measure => simp [intOf]; omega
                    · have q1 : (lo != ph + 1) = true := by simpa using hq
                      have HQ := Lib.hid (HB.out hq)
                      clear hq HN HB
                      go_wp2_with fail
                      go_quiet (fail)
                      clear i3 w1 w2
                      go_wp2_with fail
                      go_ret
                      exact ⟨ret_int HQ.out.symm, B0.trans (Below.mono ⟨hb.os, hb.tape, hb.output, (hb.alloc hb.size _).size, (hb.alloc hb.size _).block⟩ B0.size)⟩
                  · have hp0 : decide ((0 : Int) < (i : Int)) = false := by simp; omega
                    have HQ := Lib.hid (show ∀ t, (ht : t + 1 < gs.length) → t + 1 < i + 1 → gs[t + 1].lo = gs[t].hi + 1 from fun t ht g => by omega)
                    clear hcell
                    generalize gs[i].name = nm at *
                    generalize gs[i].lo = lo at *
                    generalize gs[i].hi = hi' at *
                    go_wp2_with fail
                    go_quiet (fail)
                    go_wp2_with fail
                    go_roundw
                    case rel => exact ⟨i + 1, by omega, by go_num, HQ.out, ⟨hb.os, hb.tape, hb.output, (hb.alloc hb.size _).size, (hb.alloc hb.size _).block⟩⟩
                    case measure => simp [intOf]; omega
                · have HF := Lib.hid (grp0 (base := base) H6'.out H5'.out H1'.out (fun t ht => H4.out t ht (by omega)))
                  go_wp2
                  go_ret
                  exact ⟨ret_int HF.out.symm, B0.trans (hb.mono B0.size)⟩

end Go.Proofs.Ytnfnoefjgiojoaa
