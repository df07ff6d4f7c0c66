/- Texts that are merged into one file: RefDecC. -/
import Derived.Test.YtjglanjfgbipmaaGreatDoorG06
import Derived.Test.YtjglanjfgbipmaaGreatDoorG18
/- The contract of the reference's lengths of mappings. -/
namespace Go.Proofs.YtjglanjfgbipmaaGreatDoor
open Go.RowKit Go.Maps Go.WideMaps

/-- a slice of ints is returned -/
def LenB (L : List Int) : Prop := ∀ x ∈ L, 0 ≤ x ∧ x ≤ 65
theorem LenB.getD {L : List Int} (h : LenB L) (i : Nat) : 0 ≤ L.getD i 0 ∧ L.getD i 0 ≤ 65 := by
  by_cases hi : i < L.length
  · have := h _ (List.getElem_mem hi)
    simpa [List.getD, hi] using this
  · simp [List.getD, Nat.le_of_not_lt hi]
theorem dlM_bd (e : Int) : 0 ≤ dlM e ∧ dlM e ≤ 3 := by
  unfold dlM
  by_cases h4 : 4 ≤ Hg.kind e
  · have := (decomp_kids h4).1; omega
  · rw [decomp_no (by omega)]; simp
theorem lenE_bd {L : List Int} (h : LenB L) (fnd : Int → Option Nat) (e : Int) : 0 ≤ lenE fnd dlM L e ∧ lenE fnd dlM L e ≤ 65 := by
  unfold lenE
  cases fnd e with
  | none => have := dlM_bd e; dsimp only; omega
  | some m => exact h.getD m
theorem lenV_bd {L : List Int} {to : Nat → List Int} {fnd : Int → Option Nat} (i : Nat) : 0 ≤ lenV to fnd dlM capE L i ∧ lenV to fnd dlM capE L i ≤ 65 := by unfold lenV capE; omega
theorem LenB.step {L : List Int} (h : LenB L) (to : Nat → List Int) (fnd : Int → Option Nat) (skip : Nat → Bool) (i : Nat) : LenB (lenStep to fnd dlM capE skip L i) := by
  intro x hx
  unfold lenStep at hx
  rcases List.mem_or_eq_of_mem_set hx with hx | hx
  · exact h x hx
  · subst hx
    split
    · omega
    · exact lenV_bd i
theorem LenB.fold (to : Nat → List Int) (fnd : Int → Option Nat) (skip : Nat → Bool) (s : List Nat) : ∀ {L : List Int}, LenB L → LenB (s.foldl (lenStep to fnd dlM capE skip) L) := by
  induction s with
  | nil => intro L h; exact h
  | cons x s ih => intro L h; exact ih (h.step to fnd skip x)
theorem lenFold_len (to : Nat → List Int) (fnd : Int → Option Nat) (skip : Nat → Bool) (s : List Nat) : ∀ L : List Int, (s.foldl (lenStep to fnd dlM capE skip) L).length = L.length := by
  induction s with
  | nil => intro T; rfl
  | cons x s ih => intro T; exact (ih _).trans (by simp [lenStep])
theorem lnds_ok (ms : List Mp) (compat : Bool) (r : Nat) : (lnds ms compat r).length = ms.length ∧ LenB (lnds ms compat r) := by
  induction r with
  | zero => exact ⟨by simp [lnds], fun x hx => by rw [List.eq_of_mem_replicate hx]; omega⟩
  | succ r ih => exact ⟨by rw [lnds, lenFold_len, ih.1], ih.2.fold _ _ _ _⟩
def sumE (fnd : Int → Option Nat) (L : List Int) (l : List Int) : Int := (l.map (lenE fnd dlM L)).sum
theorem sumE_k {to : List Int} {fnd : Int → Option Nat} {L : List Int} {k : Nat} (hk : k < to.length) : sumE fnd L (to.take (k + 1)) = sumE fnd L (to.take k) + lenE fnd dlM L to[k] := by
  unfold sumE
  rw [List.take_succ_eq_append_getElem hk, List.map_append, List.sum_append]
  simp
theorem sumE_bd {L : List Int} (h : LenB L) (fnd : Int → Option Nat) (l : List Int) : 0 ≤ sumE fnd L l ∧ sumE fnd L l ≤ 65 * l.length := by
  unfold sumE
  induction l with
  | nil => simp
  | cons x l ih =>
    have := lenE_bd h fnd x
    rw [List.map_cons, List.sum_cons, List.length_cons]
    omega

set_option maxRecDepth 100000 in
set_option maxHeartbeats 3200000 in
theorem lengths_any (A : Option Addr) (n k : Nat) (ms : List Mp) (compat : Bool) (w : World) (hA : Mps w A ms) (hn : ms.length = n) (hbig : n ≤ 1048576) (hz : ∀ i, (hi : i < ms.length) → ms[i].to.length ≤ 1048576) :
    Calls Tryz.prog 64 #[.slice A n k, .bool compat] w (RetHg (lensM ms compat) w) := by
  subst hn
  have FD := Lib.hid (fun c W (hW : Mps W A ms) => find_any A ms.length k ms c compat W hW rfl hbig)
  have DC := Lib.hid (fun c W => refDecompose_any c W)
  have HA := Lib.hid hA
  have HZ := Lib.hid hz
  have HF := Lib.hid (fun c => fndV_cases ms compat c)
  have hmk := mk_ints ms.length hbig
  clear hA hz
  have HL := Lib.hid (fun r => lnds_ok ms compat r)
  have HS := Lib.hid (fun r => show lnds ms compat (r + 1) = (List.range ms.length).foldl (lenStep (toM ms) (fndM ms compat) dlM capE (skipM ms compat)) (lnds ms compat r) from rfl)
  have H0 := Lib.hid (show (lnds ms compat 0).map (Value.int .i64) = repV ms.length (Value.int .i64 0) from by simp [lnds, repV])
  have HE := Lib.hid (show lensM ms compat = lnds ms compat ms.length from rfl)
  generalize lnds ms compat = RN at *
  generalize lensM ms compat = RE at *
  go_enter Tryz.func64, Tryz.ntmps64
  go_wp2_with fail
  have B0 : Below w.heap.size w (w.alloc (.cells (repV ms.length (Value.int .i64 0)).toArray 3)) := (Below.refl _ _).alloc (Nat.le_refl _) _
  have X0 : Box (w.alloc (.cells (repV ms.length (Value.int .i64 0)).toArray 3)) w.heap.size 3 (repV ms.length (Value.int .i64 0)) := Box.new _ _ _ rfl
  obtain ⟨W0, hW0⟩ : ∃ W0, (w.alloc (.cells (repV ms.length (Value.int .i64 0)).toArray 3)) = W0 := ⟨_, rfl⟩
  rw [hW0] at B0 X0 ⊢
  clear hW0
  rw [← H0.out] at X0
  have X0' := Lib.hid X0
  clear X0 H0
  go_loopw [6] (fun u wr => ∃ r : Nat, r ≤ ms.length ∧ u = .int .i64 r ∧ Box wr w.heap.size 3 ((RN r).map (Value.int .i64)) ∧ Below w.heap.size w wr) (fun u _ => ms.length - (intOf u).toNat)
  case atStart => exact ⟨0, Nat.zero_le _, rfl, X0'.out, B0⟩
  case round =>
    obtain ⟨r, hr, rfl, hX, hb⟩ := hrel
    have HX := Lib.hid hX
    clear hX X0' B0
    by_cases hlt : r < ms.length
    · go_wp2_with fail
      have hT0 := (HL.out r).1
      have HB0 := Lib.hid (HL.out r).2
      have HNX := Lib.hid (HS.out r)
      generalize hR1 : RN (r + 1) = R1 at *
      generalize hR0 : RN r = T0 at *
      have HR1 := Lib.hid hR1; have HR0 := Lib.hid hR0
      clear hR1 hR0
      go_loopw [7] (fun u wr => ∃ i : Nat, i ≤ ms.length ∧ u = .int .i64 i ∧ Box wr w.heap.size 3 (((List.range i).foldl (lenStep (toM ms) (fndM ms compat) dlM capE (skipM ms compat)) T0).map (Value.int .i64)) ∧ Below w.heap.size w wr) (fun u _ => ms.length - (intOf u).toNat)
      case atStart => exact ⟨0, Nat.zero_le _, rfl, HX.out, hb⟩
      case round =>
        clear HX hb
        obtain ⟨i, hi, rfl, hX, hb⟩ := hrel
        have HX := Lib.hid hX
        clear hX
        by_cases hlti : i < ms.length
        · obtain ⟨b1, o1, rfl, hbl, hcell⟩ := (HA.out.below hb).at hlti
          have hzi := HZ.out i hlti
          have hto := toM_at hlti
          have hsk : skipM ms compat i = (!compat && decide (¬ ms[i].tag.size = 0)) := by simp [skipM, List.getD, hlti]
          have hTl : ((List.range i).foldl (lenStep (toM ms) (fndM ms compat) dlM capE (skipM ms compat)) T0).length = ms.length := by rw [lenFold_len]; exact hT0
          have HTB := Lib.hid (LenB.fold (toM ms) (fndM ms compat) (skipM ms compat) (List.range i) HB0.out)
          have HST := Lib.hid (show (List.range (i + 1)).foldl (lenStep (toM ms) (fndM ms compat) dlM capE (skipM ms compat)) T0 = ((List.range i).foldl (lenStep (toM ms) (fndM ms compat) dlM capE (skipM ms compat)) T0).set i (if (!compat && decide (¬ ms[i].tag.size = 0)) = true then 1 else min (max (sumE (fndM ms compat) ((List.range i).foldl (lenStep (toM ms) (fndM ms compat) dlM capE (skipM ms compat)) T0) ms[i].to) 1) 65) from by
            rw [List.range_succ, List.foldl_append]
            simp only [List.foldl_cons, List.foldl_nil]
            conv => lhs; unfold lenStep lenV
            rw [hto, hsk]
            rfl)
          clear hto hsk
          have HCE := Lib.hid hcell
          clear hcell
          generalize (List.range i).foldl (lenStep (toM ms) (fndM ms compat) dlM capE (skipM ms compat)) T0 = T at *
          generalize hT1 : (List.range (i + 1)).foldl (lenStep (toM ms) (fndM ms compat) dlM capE (skipM ms compat)) T0 = T1 at *
          have HT1 := Lib.hid hT1
          clear hT1
          have HSB := Lib.hid (fun l => sumE_bd HTB.out (fndM ms compat) l)
          go_wp2_with fail
          go_loopw [8, 9] (fun v u wr => ∃ k' : Nat, k' ≤ ms[i].to.length ∧ v = .int .i64 (sumE (fndM ms compat) T (ms[i].to.take k')) ∧ u = .int .i64 k' ∧ Box wr w.heap.size 3 (T.map (Value.int .i64)) ∧ Below w.heap.size w wr) (fun _ u _ => ms[i].to.length - (intOf u).toNat)
          case atStart => exact ⟨0, Nat.zero_le _, rfl, rfl, HX.out, hb⟩
          case round =>
            clear HX hb HCE hbl
            obtain ⟨k', hk', rfl, rfl, hX, hb⟩ := hrel
            have HX := Lib.hid hX
            clear hX
            have hM := HA.out.below hb
            obtain ⟨b1', o1', e1, hbl, hcell⟩ := hM.at hlti
            injection e1 with e1
            injection e1 with e1 e2
            subst e1; subst e2
            obtain ⟨C, cc, c0, c1, c2, hcc, hC⟩ := hcell i hlti
            have HC := Lib.hid hC
            have HM := Lib.hid hM
            clear hC hM hcell
            generalize ms[i].frm = mf at *
            generalize ms[i].to = mt at *
            generalize ms[i].tag = mg at *
            by_cases hltk : k' < mt.length
            · obtain ⟨b2, o2, rfl, hc2⟩ := HC.out.at hltk
              have d0 := hc2 k' hltk
              have hAL := sumE_k (fnd := fndM ms compat) (L := T) hltk
              have s1 := HSB.out (mt.take k')
              rw [List.length_take] at s1
              clear hc2
              generalize mt[k'] = z at *
              have s2 := lenE_bd HTB.out (fndM ms compat) z
              have FZ := Lib.hid (FD.out z wr HM.out)
              unfold lenE at hAL s2
              generalize hs : sumE (fndM ms compat) T (mt.take k') = s at *
              have HSU := Lib.hid hs
              clear hs
              rcases HF.out z with ⟨h1, h2⟩ | ⟨m, hm, h1, h2⟩
              · rw [h1] at hAL s2
                rw [h2] at FZ
                dsimp only at hAL s2
                have HAL := Lib.hid hAL
                have DZ := Lib.hid (DC.out z wr)
                have HDL := Lib.hid (show ((Hg.decomp z).length : Int) = dlM z from rfl)
                clear hAL h1 h2
                generalize dlM z = dz at *
                generalize Hg.decomp z = dzl at *
                go_wp2_with fail
                with_reducible refine FZ.out.mono ?_
                rintro e W' ⟨rfl, rfl⟩
                go_wp2_with fail
                with_reducible refine DZ.out.mono ?_
                rintro e W' ⟨A3, c3, rfl, hc3, _, hb3⟩
                have hl := HDL.out
                clear c0 c1 c2 d0
                go_wp2_with fail
                go_roundw
                case rel => exact ⟨k' + 1, by omega, by rw [HAL.out], by go_num, HX.out.below hb3 (by have := HX.out.lt; omega), hb.trans (hb3.mono hb.size)⟩
                case measure => simp [intOf]; omega
              · have hg : T.getD m 0 = T[m]'(by omega) := by simp [List.getD, hTl, hm]
                have e0 : wr.cell? ⟨w.heap.size, m, none⟩ = some (.int .i64 (T[m]'(by omega))) := HX.out.cell (by simp [hTl, hm])
                rw [h1] at hAL s2
                simp only [hg] at hAL s2
                rw [h2] at FZ
                generalize T[m]'(by omega) = tm at *
                have HAL := Lib.hid hAL
                clear hAL h1 h2 hg
                go_wp2_with fail
                with_reducible refine FZ.out.mono ?_
                rintro e W' ⟨rfl, rfl⟩
                go_wp2_with fail
                go_roundw
                case rel => exact ⟨k' + 1, by omega, by rw [HAL.out], by go_num, HX.out, hb⟩
                case measure => simp [intOf]; omega
            · obtain rfl : k' = mt.length := by omega
              have e1 : wr.frozen? ⟨w.heap.size, i, none⟩ = false := HX.out.free i
              have e0 : wr.cell? ⟨w.heap.size, i, none⟩ = some (.int .i64 (T[i]'(by omega))) := HX.out.cell (by simp [hTl, hlti])
              rw [List.take_length]
              have HK := Lib.hid (fun (v : Int) (hv : v = min (max (sumE (fndM ms compat) T mt) 1) 65) (hc : compat = true ∨ mg.size = 0) => show Box (wr.setCell ⟨w.heap.size, i, none⟩ (.int .i64 v)) w.heap.size 3 (T1.map (Value.int .i64)) from by
                have := HX.out.set i (.int .i64 v)
                rw [HST.out, if_neg (by rcases hc with hc | hc <;> simp [hc]), ← hv, List.map_set]
                exact this)
              have HK2 := Lib.hid (fun (v : Int) (hc : compat = false) (hg : ¬ mg.size = 0) => show Box ((wr.setCell ⟨w.heap.size, i, none⟩ (.int .i64 v)).setCell ⟨w.heap.size, i, none⟩ (.int .i64 1)) w.heap.size 3 (T1.map (Value.int .i64)) from by
                have := (HX.out.set i (.int .i64 v)).set i (.int .i64 1)
                rw [List.set_set] at this
                rw [HST.out, if_pos (by simp [hc]; intro h; exact hg (by rw [h]; rfl)), List.map_set]
                exact this)
              generalize sumE (fndM ms compat) T mt = x at *
              have MM := Lib.hid (show (if 65 < if x < 1 then 1 else x then (65 : Int) else if x < 1 then 1 else x) = min (max x 1) 65 from by omega)
              by_cases hg : mg.size = 0
              · have g0 : mg.toList = [] := str_nil hg
                go_wp2_with fail
                go_roundw
                case rel => exact ⟨i + 1, by omega, by go_num, by rw [HT1.out]; exact HK.out _ MM.out (.inr hg), hb.setCell (Nat.le_refl _) _⟩
                case measure => simp [intOf]; omega
              · have g0 : ¬ mg.toList = [] := str_cons hg
                have g1 : mg.toList.isEmpty = false := by simpa using g0
                cases compat with
                | true =>
                  go_wp2_with fail
                  go_roundw
                  case rel => exact ⟨i + 1, by omega, by go_num, by rw [HT1.out]; exact HK.out _ MM.out (.inl rfl), hb.setCell (Nat.le_refl _) _⟩
                  case measure => simp [intOf]; omega
                | false =>
                  go_wp2_with fail
                  go_roundw
                  case rel => exact ⟨i + 1, by omega, by go_num, by rw [HT1.out]; exact HK2.out _ rfl hg, (hb.setCell (Nat.le_refl _) _).setCell (Nat.le_refl _) _⟩
                  case measure => simp [intOf]; omega
        · obtain rfl : i = ms.length := by omega
          go_wp2_with fail
          go_roundw
          case rel => exact ⟨r + 1, by omega, by go_num, by rw [HR1.out, HNX.out]; exact HX.out, hb⟩
          case measure => simp [intOf]; omega
    · obtain rfl : r = ms.length := by omega
      have hl := (HL.out ms.length).1
      have HXB := Lib.hid (HX.out.sl)
      have hE := HE.out
      generalize RN ms.length = RR at *
      subst hE
      go_wp2_with fail
      go_ret
      exact ⟨some ⟨w.heap.size, 0, none⟩, ms.length, by rw [hl]; rfl, by omega, HXB.out, hb⟩
end Go.Proofs.YtjglanjfgbipmaaGreatDoor
