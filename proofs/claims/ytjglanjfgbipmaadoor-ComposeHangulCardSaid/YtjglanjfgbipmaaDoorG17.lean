/- Texts that are merged into one file: PairKey, Comps. -/
import Derived.Test.YtjglanjfgbipmaaDoorG04
import Derived.Test.YtjglanjfgbipmaaDoorG06
import Derived.Test.YtjglanjfgbipmaaDoorG14
import Derived.Test.YtjglanjfgbipmaaDoorG16
/- Maps whose keys are pairs of ints. -/
namespace Go.Proofs.YtjglanjfgbipmaaDoor
open Go.RowKit Go.Maps Go.WideMaps

def pval (p : Int × Int) : Value := .agg #[.int .i64 p.1, .int .i64 p.2]
theorem law_pair : Keyed Tryd.prog 53 := Keyed.of_law (deep_law_laid (by kernel_rfl) (m := 2) (by omega) (of_decide_eq_true (by kernel_rfl)) (by kernel_rfl) (by kernel_rfl))
noncomputable def plit (p : Int × Int) : Lit := (keyOf Tryd.prog 53 (pval p)).getD (.bool false)
def pok (p : Int × Int) : Prop := (Lit.int .i64 p.1).wf = true ∧ (Lit.int .i64 p.2).wf = true
theorem pkey_some {p : Int × Int} (h : pok p) : keyOf Tryd.prog 53 (pval p) = some (plit p) := by
  have h9 : (keyOf Tryd.prog 53 (pval p)).isSome = true := by
    obtain ⟨f, t⟩ := p
    obtain ⟨h1, h2⟩ := h
    dsimp only at h1 h2
    have hk : Tryd.prog.keyType 53 = true := by kernel_rfl
    have hu := Tryd.underlying53
    have hi := Tryd.underlying3
    have hc2 : Tryd.prog.cellsOf 53 = 2 := by kernel_rfl
    have hc1 : Tryd.prog.cellsOf 3 = 1 := by kernel_rfl
    obtain ⟨m, hm⟩ : ∃ m, Tryd.prog.types.size = m + 1 := ⟨Tryd.prog.types.size - 1, by kernel_rfl⟩
    unfold keyOf pval
    rw [hu]
    simp only [hk, hm, Value.formed, hu, hc2]
    unfold Program.keyLits
    rw [hu]
    simp only [hc2]
    simp [Program.keyLits, hi, hc1, h1, h2, Value.cells, List.range, List.range.loop]
  unfold plit
  cases hk : keyOf Tryd.prog 53 (pval p) with
  | none => rw [hk] at h9; cases h9
  | some y => rfl
theorem pval_inj {x y : Int × Int} (h : pval x = pval y) : x = y := by
  obtain ⟨x1, x2⟩ := x
  obtain ⟨y1, y2⟩ := y
  unfold pval at h
  simp at h
  rw [h.1, h.2]
theorem plit_inj {x y : Int × Int} (hx : pok x) (hy : pok y) (h : plit x = plit y) : x = y := by
  have a := pkey_some hx
  have b := pkey_some hy
  rw [h] at a
  exact pval_inj (law_pair.inj a b)
theorem lits_int {P : Program} {ti : TypeId} (hi : P.underlying ti = some (.int .i64)) {d : Nat} {u : Value} {ls : List Lit} (h : P.keyLits (d + 1) ti [u] = some ls) : ∃ n, u = .int .i64 n ∧ (Lit.int .i64 n).wf = true := by
  unfold Program.keyLits at h
  rw [hi] at h
  cases u <;> simp at h
  obtain ⟨⟨rfl, w1⟩, _⟩ := h
  exact ⟨_, rfl, w1⟩
theorem lits_arr {P : Program} {t e : TypeId} {n : Nat} (hu : P.underlying t = some (.array n e)) (d : Nat) (cs : List Value) :
    P.keyLits (d + 1) t cs = if cs.length = P.cellsOf t then ((List.range n).mapM fun i => P.keyLits d e ((cs.drop (i * P.cellsOf e)).take (P.cellsOf e))).map List.flatten else none := by
  rw [Program.keyLits]
  rw [hu]
theorem pair_inv {P : Program} {t ti : TypeId} (hk : P.keyType t = true) (hu : P.underlying t = some (.array 2 ti)) (hi : P.underlying ti = some (.int .i64)) (hc2 : P.cellsOf t = 2) (hc1 : P.cellsOf ti = 1) {m : Nat} (hm : P.types.size = m + 1) {key : Value} {l : Lit} (h : keyOf P t key = some l) :
    ∃ p, pok p ∧ key = pval p := by
  unfold keyOf at h
  rw [hu] at h
  simp only [hk, hm, Bool.true_and] at h
  split at h
  · next hf =>
    unfold Value.formed at hf
    cases key <;> simp only [hu, hc2, Bool.false_eq_true] at hf
    next cs =>
      obtain ⟨l⟩ := cs
      match l with
      | [] => simp at hf
      | [_] => simp at hf
      | _ :: _ :: _ :: _ => simp at hf
      | [u, v] =>
        rw [lits_arr hu] at h
        simp only [hc2, Value.cells] at h
        simp [hc1, List.range, List.range.loop, Option.bind_eq_some_iff] at h
        obtain ⟨_, h1, _, ⟨_, h2, _⟩, _⟩ := h
        obtain ⟨n1, rfl, w1⟩ := lits_int hi h1
        obtain ⟨n2, rfl, w2⟩ := lits_int hi h2
        exact ⟨(_, _), ⟨w1, w2⟩, rfl⟩
  · cases h
theorem pkey_inv {key : Value} {l : Lit} (h : keyOf Tryd.prog 53 key = some l) : ∃ p, pok p ∧ key = pval p ∧ l = plit p := by
  obtain ⟨m, hm⟩ : ∃ m, Tryd.prog.types.size = m + 1 := ⟨Tryd.prog.types.size - 1, by kernel_rfl⟩
  obtain ⟨p, h1, h2⟩ := pair_inv (by kernel_rfl) Tryd.underlying53 Tryd.underlying3 (by kernel_rfl) (by kernel_rfl) hm h
  refine ⟨p, h1, h2, ?_⟩
  have h3 := pkey_some h1
  rw [← h2] at h3
  exact Option.some.inj (h.symm.trans h3)
end Go.Proofs.YtjglanjfgbipmaaDoor
/- Contracts of compose.composites, join and Pair. Written by gen_comps.py. -/
namespace Go.Proofs.YtjglanjfgbipmaaDoor
open Go.RowKit Go.Maps Go.WideMaps

/-- the value of a key -/
def pcV (f : Int × Int → Option Int) (p : Int × Int) : Option Value := (f p).map (Value.int .i64)
abbrev MapP (w : World) (b n : Nat) (f : Int × Int → Option Int) : Prop := MapIs Tryd.prog 53 plit pok w b n (pcV f)
/-- the map of composites is returned, at most m entries -/
def RetMap (f : Int × Int → Option Int) (m : Nat) (w : World) (e : Ending) (w' : World) : Prop := ∃ b, e = .returned (.map (some b)) ∧ MapP w' b m f ∧ w.heap.size ≤ b ∧ Below w.heap.size w w'
theorem iok_of {c : Int} (h : 0 ≤ c ∧ c ≤ 1114111) : (Lit.int .i64 c).wf = true := by
  have := iok_code h
  exact this
theorem zero_intP (w : World) : (zeroValue 3).run Tryd.prog w = .ok (.int .i64 0) w := by kernel_rfl

set_option maxRecDepth 100000 in
set_option maxHeartbeats 12800000 in
theorem composites_any (A0 : Option Addr) (n0 k0 : Nat) (A1 : Option Addr) (n1 k1 : Nat) (A2 : Option Addr) (n2 k2 : Nat) (x : Nrm) (w : World) (hN : NrmAt w A0 n0 A1 n1 A2 n2 x) (hz : NrmSz x) (ho : NOk x) (hL : Laid w) :
    Calls Tryd.prog 14 #[.agg #[.slice A0 n0 k0, .slice A1 n1 k1, .slice A2 n2 k2]] w (RetMap (pcN x) n1 w) := by
  obtain ⟨ss, ms, rs⟩ := x
  obtain ⟨hS, hM, hR, rfl, rfl, rfl⟩ := hN
  have z0 : ss.length ≤ 1048576 := hz.z0
  have z1 : ms.length ≤ 1048576 := hz.z1.n
  have z2 : rs.length ≤ 12 := hz.z2
  have HC := Lib.hid (fun c W (hb : Below w.heap.size w W) => cpHas_any A2 rs.length k2 rs c W (hR.below hb) rfl (by omega))
  have ST := Lib.hid (fun c W (hb : Below w.heap.size w W) => Starter_any A0 ss.length k0 ss c W (hS.below hb) rfl (by omega) (hL.below hb))
  have CO := Lib.hid (fun a b W => Compose_any a b W)
  have PT := Lib.hid (fun i (hi : i < ms.length) => pcL_skip (x := ⟨ss, ms, rs⟩) (i := i) hi)
  have PP := Lib.hid (fun i (hi : i < ms.length) => pcL_put (x := ⟨ss, ms, rs⟩) (i := i) hi)
  have PL := Lib.hid (fun i (hi : i < ms.length) p v h => prL_lt (x := ⟨ss, ms, rs⟩) ho.st (i := i) hi (p := p) (v := v) h)
  have P0 := Lib.hid (pcL_none ⟨ss, ms, rs⟩)
  have P9 := Lib.hid (show pcN ⟨ss, ms, rs⟩ = pcL ⟨ss, ms, rs⟩ (ms.take ms.length) from by rw [List.take_length]; rfl)
  have CD := Lib.hid ho.co
  have PCP := Lib.hid (fun l (p : Int × Int) v (h : pcL ⟨ss, ms, rs⟩ l p = some v) => show prL ⟨ss, ms, rs⟩ l p = some v from by unfold pcL at h; split at h; cases h; exact h)
  dsimp only at *
  generalize hpc : pcL ⟨ss, ms, rs⟩ = PC at *
  generalize pcN ⟨ss, ms, rs⟩ = PN at *
  have HM := Lib.hid hM
  have BX := Lib.hid (fun m => show cpB ⟨ss, ms, rs⟩ m = (decide (m.tag.size = 0) && decide (m.to.length = 2) && (decide (clz ss m.frm = 0) && decide (clz ss (m.to.getD 0 0) = 0) && !hasR rs m.frm)) from rfl)
  generalize cpB ⟨ss, ms, rs⟩ = CB at *
  clear hpc hM hS hR hz hL ho
  have hmm := @run_makeMap Tryd.prog
  have B0 : Below w.heap.size w ((w.alloc (.cells #[.slice A0 ss.length k0, .slice A1 ms.length k1, .slice A2 rs.length k2] 35)).alloc (.map #[] 0)) := ((Below.refl _ _).alloc (Nat.le_refl _) _).alloc (by simp) _
  have X0 : Box ((w.alloc (.cells #[.slice A0 ss.length k0, .slice A1 ms.length k1, .slice A2 rs.length k2] 35)).alloc (.map #[] 0)) w.heap.size 35 [.slice A0 ss.length k0, .slice A1 ms.length k1, .slice A2 rs.length k2] := (Box.new w _ [.slice A0 ss.length k0, .slice A1 ms.length k1, .slice A2 rs.length k2] rfl).below (B := w.heap.size + 1) ((Below.refl _ _).alloc (by simp) _) (by omega)
  have M0 : MapP ((w.alloc (.cells #[.slice A0 ss.length k0, .slice A1 ms.length k1, .slice A2 rs.length k2] 35)).alloc (.map #[] 0)) (w.heap.size + 1) 0 (PC (ms.take 0)) := by
    have := MapIs.made Tryd.prog 53 plit pok (w.alloc (.cells #[.slice A0 ss.length k0, .slice A1 ms.length k1, .slice A2 rs.length k2] 35))
    rw [P0.out]
    have e : (w.alloc (.cells #[.slice A0 ss.length k0, .slice A1 ms.length k1, .slice A2 rs.length k2] 35)).heap.size = w.heap.size + 1 := by simp
    rw [e] at this
    exact this
  have W0E : ∃ W0, ((w.alloc (.cells #[.slice A0 ss.length k0, .slice A1 ms.length k1, .slice A2 rs.length k2] 35)).alloc (.map #[] 0)) = W0 := ⟨_, rfl⟩
  go_enter Tryd.func14, Tryd.ntmps14
  go_wp2_with fail
  obtain ⟨W0, hW0⟩ := W0E
  rw [hW0] at B0 X0 M0 ⊢
  clear hW0 hmm
  have s0 := X0.lt
  have c0 := X0.cell (i := 0) rfl
  have c1 := X0.cell (i := 1) rfl
  have c2 := X0.cell (i := 2) rfl
  have M0' := Lib.hid M0
  have X0' := Lib.hid X0
  clear M0
  go_wp2_with fail
  clear c0 c1 c2
  go_loopw [15] (fun u wr => ∃ i : Nat, i ≤ ms.length ∧ u = .int .i64 i ∧ Box wr w.heap.size 35 [.slice A0 ss.length k0, .slice A1 ms.length k1, .slice A2 rs.length k2] ∧ MapP wr (w.heap.size + 1) i (PC (ms.take i)) ∧ Below w.heap.size w wr ∧ w.heap.size + 2 ≤ wr.heap.size) (fun u _ => ms.length - (intOf u).toNat)
  case atStart => exact ⟨0, Nat.zero_le _, rfl, X0'.out, M0'.out, B0, M0'.out.lt⟩
  case round =>
    clear B0 X0 s0 X0' M0'
    obtain ⟨i, hi, rfl, hX, hMp, hb, hsz⟩ := hrel
    have HX := Lib.hid hX; have HMP := Lib.hid hMp
    have q0 := hX.cell (i := 0) rfl
    have q1 := hX.cell (i := 1) rfl
    have q2 := hX.cell (i := 2) rfl
    have hXlt := hX.lt
    clear hX hMp
    by_cases hlt : i < ms.length
    · obtain ⟨b1, o1, rfl, hbl, hcell⟩ := (HM.out.below hb).at hlt
      obtain ⟨C, cc, c0, c1, c2, hcc, hC⟩ := hcell i hlt
      have HPT := Lib.hid (PT.out i hlt)
      have HPP := Lib.hid (PP.out i hlt)
      have HPL := Lib.hid (fun p v (h : PC (ms.take i) p = some v) => PL.out i hlt p v (PCP.out _ p v h))
      have hcd := CD.out i hlt
      have HB := Lib.hid (BX.out ms[i])
      clear hcell
      generalize PC (ms.take i) = F at *
      generalize hF1 : PC (ms.take (i + 1)) = F1 at *
      have HF1 := Lib.hid hF1
      clear hF1
      generalize ms[i] = mi at *
      generalize CB mi = cb at *
      obtain ⟨mf, mt, mg⟩ := mi
      dsimp only at *
      have Ba : Below wr.heap.size wr (wr.alloc (.cells #[.int .i64 mf, .slice C mt.length cc, .string mg] 40)) := (Below.refl _ _).alloc (Nat.le_refl _) _
      have hXa : Box (wr.alloc (.cells #[.int .i64 mf, .slice C mt.length cc, .string mg] 40)) wr.heap.size 40 [.int .i64 mf, .slice C mt.length cc, .string mg] := Box.new _ _ _ rfl
      have WaE : ∃ Wa, (wr.alloc (.cells #[.int .i64 mf, .slice C mt.length cc, .string mg] 40)) = Wa := ⟨_, rfl⟩
      have HREL := Lib.hid (fun (W : World) (hbw : Below wr.heap.size wr W) (he : F1 = F) => show ∃ j : Nat, j ≤ ms.length ∧ Value.int .i64 ((i : Int) + 1) = .int .i64 j ∧ Box W w.heap.size 35 [.slice A0 ss.length k0, .slice (some ⟨b1, o1, none⟩) ms.length k1, .slice A2 rs.length k2] ∧ MapP W (w.heap.size + 1) j (PC (ms.take j)) ∧ Below w.heap.size w W ∧ w.heap.size + 2 ≤ W.heap.size from
        ⟨i + 1, by omega, by go_num, HX.out.below hbw hXlt, by rw [HF1.out, he]; exact (HMP.out.below hbw).mono (by omega), hb.trans (hbw.mono hb.size), by have := hbw.size; omega⟩)
      have HSK := Lib.hid (fun (h : cb = false) => HPT.out (.inl h))
      by_cases hg : mg.size = 0
      · have g0 : mg.toList = [] := str_nil hg
        by_cases h2 : mt.length = 2
        · obtain ⟨ta, tb, rfl⟩ : ∃ a b, mt = [a, b] := by
            match mt, h2 with
            | [a, b], _ => exact ⟨a, b, rfl⟩
          obtain ⟨b2, o2, rfl, hc2⟩ := hC.at (k := 0) (by simp)
          have t0 := hc2 0 (by simp)
          have t1 := hc2 1 (by simp)
          simp only [List.getElem_cons_zero, List.getElem_cons_succ, Nat.add_zero] at t0 t1
          have d2 : (([ta, tb].length : Int) != 2) = false := by simp
          go_wp2_with fail
          obtain ⟨Wa, hWa⟩ := WaE
          simp only [List.length_cons, List.length_nil, Nat.zero_add, Nat.reduceAdd] at Ba hXa hWa
          rw [hWa] at Ba hXa ⊢
          clear hWa
          have hsa := hXa.lt
          have hba := hb.trans (Ba.mono hb.size)
          have hXn := HX.out.below Ba hXlt
          with_reducible refine (HC.out mf Wa hba).mono ?_
          rintro e Wm ⟨rfl, hbm⟩
          have hXm := hXa.below hbm hsa
          have hbw := Ba.trans (hbm.mono Ba.size)
          have BW := Lib.hid hbw
          have hbn := hb.trans (hbw.mono hb.size)
          have hcv := Lib.hid (show cb = (clz ss mf == 0 && clz ss ta == 0 && !hasR rs mf) from by rw [HB.out, decide_eq_true hg]; rfl)
          have HR0 := Lib.hid (fun (h : cb = false) => HREL.out Wm hbw (HSK.out h))
          have p0 : Wm.cell? ⟨w.heap.size, 0, none⟩ = some (.slice A0 ss.length k0) := (hXn.below hbm (by have := Ba.size; omega)).cell (i := 0) rfl
          have m0 : Wm.cell? ⟨wr.heap.size, 0, none⟩ = some (.int .i64 mf) := hXm.cell (i := 0) rfl
          have m1 : Wm.cell? ⟨wr.heap.size, 1, none⟩ = some (.slice (some ⟨b2, o2, none⟩) 2 cc) := hXm.cell (i := 1) rfl
          have tbl : b2 < wr.heap.size := World.block_lt_of_cell? _ _ t0
          have t0' : Wm.cell? ⟨b2, o2, none⟩ = some (.int .i64 ta) := (hbw.cell (p := ⟨b2, o2, none⟩) tbl).trans t0
          have t1' : Wm.cell? ⟨b2, o2 + 1, none⟩ = some (.int .i64 tb) := (hbw.cell (p := ⟨b2, o2 + 1, none⟩) tbl).trans t1
          have SH := Lib.hid (fun W' (hb' : Below Wm.heap.size Wm W') => show W'.cell? ⟨w.heap.size, 0, none⟩ = some (.slice A0 ss.length k0) ∧ W'.cell? ⟨wr.heap.size, 0, none⟩ = some (.int .i64 mf) ∧ W'.cell? ⟨wr.heap.size, 1, none⟩ = some (.slice (some ⟨b2, o2, none⟩) 2 cc) ∧ W'.cell? ⟨b2, o2, none⟩ = some (.int .i64 ta) ∧ Below Wm.heap.size Wm W' from
            ⟨(hb'.cell (World.block_lt_of_cell? _ _ p0)).trans p0, (hb'.cell (World.block_lt_of_cell? _ _ m0)).trans m0, (hb'.cell (World.block_lt_of_cell? _ _ m1)).trans m1, (hb'.cell (World.block_lt_of_cell? _ _ t0')).trans t0', hb'⟩)
          have SF := Lib.hid (fun W' (hb' : Below Wm.heap.size Wm W') => (ST.out mf W' (hbn.trans (hb'.mono hbn.size))).mono (R' := fun e W' => e = .returned (.bool (clz ss mf == 0)) ∧ (W'.cell? ⟨w.heap.size, 0, none⟩ = some (.slice A0 ss.length k0) ∧ W'.cell? ⟨wr.heap.size, 0, none⟩ = some (.int .i64 mf) ∧ W'.cell? ⟨wr.heap.size, 1, none⟩ = some (.slice (some ⟨b2, o2, none⟩) 2 cc) ∧ W'.cell? ⟨b2, o2, none⟩ = some (.int .i64 ta) ∧ Below Wm.heap.size Wm W')) (fun e W'' hh => ⟨hh.1, SH.out W'' (hb'.trans (hh.2.mono hb'.size))⟩))
          have SG := Lib.hid (fun W' (hb' : Below Wm.heap.size Wm W') => (ST.out ta W' (hbn.trans (hb'.mono hbn.size))).mono (R' := fun e W' => e = .returned (.bool (clz ss ta == 0)) ∧ (W'.cell? ⟨w.heap.size, 0, none⟩ = some (.slice A0 ss.length k0) ∧ W'.cell? ⟨wr.heap.size, 0, none⟩ = some (.int .i64 mf) ∧ W'.cell? ⟨wr.heap.size, 1, none⟩ = some (.slice (some ⟨b2, o2, none⟩) 2 cc) ∧ W'.cell? ⟨b2, o2, none⟩ = some (.int .i64 ta) ∧ Below Wm.heap.size Wm W')) (fun e W'' hh => ⟨hh.1, SH.out W'' (hb'.trans (hh.2.mono hb'.size))⟩))
          have T1 := Lib.hid t1'
          have HREL2 := Lib.hid HREL.out
          have HSK2 := Lib.hid HSK.out
          clear q0 q1 q2 c0 c1 c2 t0 t1 t1' hXn hXm hXa Ba hbm hba HREL HSK hC HC ST HB
          generalize hasR rs mf = hh at *
          generalize (clz ss mf == 0) = s1 at *
          generalize (clz ss ta == 0) = s2 at *
          have hwm : w.heap.size + 2 ≤ Wm.heap.size := by have := hbw.size; omega
          cases hh with
          | true =>
            have HR := Lib.hid (HR0.out (by rw [hcv.out, Bool.not_true, Bool.and_false]))
            clear HR0 SF SG SH HPT HPP HPL
            go_wp2_with fail
            go_roundw
            case rel => exact HR.out
            case measure => simp [intOf]; omega
          | false =>
            cases s1 with
            | false =>
              have HR1 := Lib.hid (fun W' (hb' : Below Wm.heap.size Wm W') => HREL2.out W' (hbw.trans (hb'.mono hbw.size)) (HSK2.out (by rw [hcv.out]; rfl)))
              clear HPT HPP HPL HR0
              go_wp2_with fail
              refine wp_region_held_drew (S := fun W' => W'.cell? ⟨w.heap.size, 0, none⟩ = some (.slice A0 ss.length k0) ∧ W'.cell? ⟨wr.heap.size, 0, none⟩ = some (.int .i64 mf) ∧ W'.cell? ⟨wr.heap.size, 1, none⟩ = some (.slice (some ⟨b2, o2, none⟩) 2 cc) ∧ W'.cell? ⟨b2, o2, none⟩ = some (.int .i64 ta) ∧ Below Wm.heap.size Wm W') (by kernel_rfl) (SH.out _ ((Below.refl _ _).drew)) (fun hHeld => ?_)
              refine anyH_take (i := 0) (v := ?_) (some 35) rfl rfl (by kernel_rfl) (by kernel_rfl) (by kernel_rfl) (fun _ _ _ h => h) (by rfl) (by assumption) ?_ ?_
              rotate_left
              · intro w hSw; (try dsimp only at hSw); go_split_ands; go_simp; try (with_reducible rfl)
              try simp only [Act.put, List.setIfInBounds_toArray, List.set_cons_zero, List.set_cons_succ]
              refine anyH_take (i := 1) (v := ?_) (some 36) rfl rfl (by kernel_rfl) (by kernel_rfl) (by kernel_rfl) (fun _ _ _ h => h) (by rfl) (by assumption) ?_ ?_
              rotate_left
              · intro w hSw; (try dsimp only at hSw); go_split_ands; go_simp; try (with_reducible rfl)
              try simp only [Act.put, List.setIfInBounds_toArray, List.set_cons_zero, List.set_cons_succ]
              refine anyH_take (i := 2) (v := ?_) (some 37) rfl rfl (by kernel_rfl) (by kernel_rfl) (by kernel_rfl) (fun _ _ _ h => h) (by rfl) (by assumption) ?_ ?_
              rotate_left
              · intro w hSw; (try dsimp only at hSw); go_split_ands; go_simp; try (with_reducible rfl)
              try simp only [Act.put, List.setIfInBounds_toArray, List.set_cons_zero, List.set_cons_succ]
              refine anyH_take (i := 3) (v := ?_) (some 38) rfl rfl (by kernel_rfl) (by kernel_rfl) (by kernel_rfl) (fun _ _ _ h => h) (by rfl) (by assumption) ?_ ?_
              rotate_left
              · intro w hSw; (try dsimp only at hSw); go_split_ands; go_simp; try (with_reducible rfl)
              try simp only [Act.put, List.setIfInBounds_toArray, List.set_cons_zero, List.set_cons_succ]
              refine anyH_call (i := 4) (some 39) rfl rfl (by kernel_rfl) (by rfl) (by go_simp) (SF.out _ hHeld.2.2.2.2) (fun W5 hS6 => ?_)
              clear hHeld
              have hHeld := hS6
              clear hS6
              try simp only [Act.put, List.setIfInBounds_toArray, List.set_cons_zero, List.set_cons_succ]
              refine anyH_take (i := 5) (v := ?_) (some 40) rfl rfl (by kernel_rfl) (by kernel_rfl) (by kernel_rfl) (fun _ _ _ h => h) (by rfl) (by assumption) ?_ ?_
              rotate_left
              · intro w hSw; (try dsimp only at hSw); go_split_ands; go_simp; try (with_reducible rfl)
              try simp only [Act.put, List.setIfInBounds_toArray, List.set_cons_zero, List.set_cons_succ]
              refine anyH_take (i := 6) (v := ?_) (some 41) rfl rfl (by kernel_rfl) (by kernel_rfl) (by kernel_rfl) (fun _ _ _ h => h) (by rfl) (by assumption) ?_ ?_
              rotate_left
              · intro w hSw; (try dsimp only at hSw); go_split_ands; go_simp; try (with_reducible rfl)
              try simp only [Act.put, List.setIfInBounds_toArray, List.set_cons_zero, List.set_cons_succ]
              refine anyH_skip (i := 7) (some 42) rfl rfl (by kernel_rfl) (by kernel_rfl) (by kernel_rfl) (fun _ _ _ h => h) (by rfl) (by assumption) ?_
              try simp only [Act.put, List.setIfInBounds_toArray, List.set_cons_zero, List.set_cons_succ]
              refine anyH_skip (i := 8) (some 43) rfl rfl (by kernel_rfl) (by kernel_rfl) (by kernel_rfl) (fun _ _ _ h => h) (by rfl) (by assumption) ?_
              try simp only [Act.put, List.setIfInBounds_toArray, List.set_cons_zero, List.set_cons_succ]
              refine anyH_skip (i := 9) (some 44) rfl rfl (by kernel_rfl) (by kernel_rfl) (by kernel_rfl) (fun _ _ _ h => h) (by rfl) (by assumption) ?_
              try simp only [Act.put, List.setIfInBounds_toArray, List.set_cons_zero, List.set_cons_succ]
              refine anyH_skip (i := 10) (some 45) rfl rfl (by kernel_rfl) (by kernel_rfl) (by kernel_rfl) (fun _ _ _ h => h) (by rfl) (by assumption) ?_
              try simp only [Act.put, List.setIfInBounds_toArray, List.set_cons_zero, List.set_cons_succ]
              refine anyH_skip (i := 11) (some 46) rfl rfl (by kernel_rfl) (by kernel_rfl) (by kernel_rfl) (fun _ _ _ h => h) (by rfl) (by assumption) ?_
              try simp only [Act.put, List.setIfInBounds_toArray, List.set_cons_zero, List.set_cons_succ]
              refine anyH_skip (i := 12) (some 47) rfl rfl (by kernel_rfl) (by kernel_rfl) (by kernel_rfl) (fun _ _ _ h => h) (by rfl) (by assumption) ?_
              try simp only [Act.put, List.setIfInBounds_toArray, List.set_cons_zero, List.set_cons_succ]
              refine anyH_skip (i := 13) (some 48) rfl rfl (by kernel_rfl) (by kernel_rfl) (by kernel_rfl) (fun _ _ _ h => h) (by rfl) (by assumption) ?_
              try simp only [Act.put, List.setIfInBounds_toArray, List.set_cons_zero, List.set_cons_succ]
              refine anyH_skip (i := 14) (some 49) rfl rfl (by kernel_rfl) (by kernel_rfl) (by kernel_rfl) (fun _ _ _ h => h) (by rfl) (by assumption) ?_
              try simp only [Act.put, List.setIfInBounds_toArray, List.set_cons_zero, List.set_cons_succ]
              refine anyH_take (i := 15) (v := ?_) (some 50) rfl rfl (by kernel_rfl) (by kernel_rfl) (by kernel_rfl) (fun _ _ _ h => h) (by rfl) (by assumption) ?_ ?_
              rotate_left
              · intro w hSw; (try dsimp only at hSw); go_split_ands; go_simp; try (with_reducible rfl)
              try simp only [Act.put, List.setIfInBounds_toArray, List.set_cons_zero, List.set_cons_succ]
              refine wpAnyH_done (by kernel_rfl) ?_ _
              have HR := Lib.hid (HR1.out _ hHeld.2.2.2.2)
              clear hHeld SF SG SH HR1
              go_wp2_with fail
              go_roundw
              case rel => exact HR.out
              case measure => simp [intOf]; omega
            | true =>
              cases s2 with
              | false =>
                have HR1 := Lib.hid (fun W' (hb' : Below Wm.heap.size Wm W') => HREL2.out W' (hbw.trans (hb'.mono hbw.size)) (HSK2.out (by rw [hcv.out]; rfl)))
                clear HPT HPP HPL HR0
                go_wp2_with fail
                refine wp_region_held_drew (S := fun W' => W'.cell? ⟨w.heap.size, 0, none⟩ = some (.slice A0 ss.length k0) ∧ W'.cell? ⟨wr.heap.size, 0, none⟩ = some (.int .i64 mf) ∧ W'.cell? ⟨wr.heap.size, 1, none⟩ = some (.slice (some ⟨b2, o2, none⟩) 2 cc) ∧ W'.cell? ⟨b2, o2, none⟩ = some (.int .i64 ta) ∧ Below Wm.heap.size Wm W') (by kernel_rfl) (SH.out _ ((Below.refl _ _).drew)) (fun hHeld => ?_)
                refine anyH_take (i := 0) (v := ?_) (some 35) rfl rfl (by kernel_rfl) (by kernel_rfl) (by kernel_rfl) (fun _ _ _ h => h) (by rfl) (by assumption) ?_ ?_
                rotate_left
                · intro w hSw; (try dsimp only at hSw); go_split_ands; go_simp; try (with_reducible rfl)
                try simp only [Act.put, List.setIfInBounds_toArray, List.set_cons_zero, List.set_cons_succ]
                refine anyH_take (i := 1) (v := ?_) (some 36) rfl rfl (by kernel_rfl) (by kernel_rfl) (by kernel_rfl) (fun _ _ _ h => h) (by rfl) (by assumption) ?_ ?_
                rotate_left
                · intro w hSw; (try dsimp only at hSw); go_split_ands; go_simp; try (with_reducible rfl)
                try simp only [Act.put, List.setIfInBounds_toArray, List.set_cons_zero, List.set_cons_succ]
                refine anyH_take (i := 2) (v := ?_) (some 37) rfl rfl (by kernel_rfl) (by kernel_rfl) (by kernel_rfl) (fun _ _ _ h => h) (by rfl) (by assumption) ?_ ?_
                rotate_left
                · intro w hSw; (try dsimp only at hSw); go_split_ands; go_simp; try (with_reducible rfl)
                try simp only [Act.put, List.setIfInBounds_toArray, List.set_cons_zero, List.set_cons_succ]
                refine anyH_take (i := 3) (v := ?_) (some 38) rfl rfl (by kernel_rfl) (by kernel_rfl) (by kernel_rfl) (fun _ _ _ h => h) (by rfl) (by assumption) ?_ ?_
                rotate_left
                · intro w hSw; (try dsimp only at hSw); go_split_ands; go_simp; try (with_reducible rfl)
                try simp only [Act.put, List.setIfInBounds_toArray, List.set_cons_zero, List.set_cons_succ]
                refine anyH_call (i := 4) (some 39) rfl rfl (by kernel_rfl) (by rfl) (by go_simp) (SF.out _ hHeld.2.2.2.2) (fun W5 hS6 => ?_)
                clear hHeld
                have hHeld := hS6
                clear hS6
                try simp only [Act.put, List.setIfInBounds_toArray, List.set_cons_zero, List.set_cons_succ]
                refine anyH_take (i := 5) (v := ?_) (some 40) rfl rfl (by kernel_rfl) (by kernel_rfl) (by kernel_rfl) (fun _ _ _ h => h) (by rfl) (by assumption) ?_ ?_
                rotate_left
                · intro w hSw; (try dsimp only at hSw); go_split_ands; go_simp; try (with_reducible rfl)
                try simp only [Act.put, List.setIfInBounds_toArray, List.set_cons_zero, List.set_cons_succ]
                refine anyH_take (i := 6) (v := ?_) (some 41) rfl rfl (by kernel_rfl) (by kernel_rfl) (by kernel_rfl) (fun _ _ _ h => h) (by rfl) (by assumption) ?_ ?_
                rotate_left
                · intro w hSw; (try dsimp only at hSw); go_split_ands; go_simp; try (with_reducible rfl)
                try simp only [Act.put, List.setIfInBounds_toArray, List.set_cons_zero, List.set_cons_succ]
                refine anyH_take (i := 7) (v := ?_) (some 42) rfl rfl (by kernel_rfl) (by kernel_rfl) (by kernel_rfl) (fun _ _ _ h => h) (by rfl) (by assumption) ?_ ?_
                rotate_left
                · intro w hSw; (try dsimp only at hSw); go_split_ands; go_simp; try (with_reducible rfl)
                try simp only [Act.put, List.setIfInBounds_toArray, List.set_cons_zero, List.set_cons_succ]
                refine anyH_take (i := 8) (v := ?_) (some 43) rfl rfl (by kernel_rfl) (by kernel_rfl) (by kernel_rfl) (fun _ _ _ h => h) (by rfl) (by assumption) ?_ ?_
                rotate_left
                · intro w hSw; (try dsimp only at hSw); go_split_ands; go_simp; try (with_reducible rfl)
                try simp only [Act.put, List.setIfInBounds_toArray, List.set_cons_zero, List.set_cons_succ]
                refine anyH_take (i := 9) (v := ?_) (some 44) rfl rfl (by kernel_rfl) (by kernel_rfl) (by kernel_rfl) (fun _ _ _ h => h) (by rfl) (by assumption) ?_ ?_
                rotate_left
                · intro w hSw; (try dsimp only at hSw); go_split_ands; go_simp; try (with_reducible rfl)
                try simp only [Act.put, List.setIfInBounds_toArray, List.set_cons_zero, List.set_cons_succ]
                refine anyH_take (i := 10) (v := ?_) (some 45) rfl rfl (by kernel_rfl) (by kernel_rfl) (by kernel_rfl) (fun _ _ _ h => h) (by rfl) (by assumption) ?_ ?_
                rotate_left
                · intro w hSw; (try dsimp only at hSw); go_split_ands; go_simp; try (with_reducible rfl)
                try simp only [Act.put, List.setIfInBounds_toArray, List.set_cons_zero, List.set_cons_succ]
                refine anyH_take (i := 11) (v := ?_) (some 46) rfl rfl (by kernel_rfl) (by kernel_rfl) (by kernel_rfl) (fun _ _ _ h => h) (by rfl) (by assumption) ?_ ?_
                rotate_left
                · intro w hSw; (try dsimp only at hSw); go_split_ands; go_simp; try (with_reducible rfl)
                try simp only [Act.put, List.setIfInBounds_toArray, List.set_cons_zero, List.set_cons_succ]
                refine anyH_take (i := 12) (v := ?_) (some 47) rfl rfl (by kernel_rfl) (by kernel_rfl) (by kernel_rfl) (fun _ _ _ h => h) (by rfl) (by assumption) ?_ ?_
                rotate_left
                · intro w hSw; (try dsimp only at hSw); go_split_ands; go_simp; try (with_reducible rfl)
                try simp only [Act.put, List.setIfInBounds_toArray, List.set_cons_zero, List.set_cons_succ]
                refine anyH_call (i := 13) (some 48) rfl rfl (by kernel_rfl) (by rfl) (by go_simp) (SG.out _ hHeld.2.2.2.2) (fun W6 hS6 => ?_)
                clear hHeld
                have hHeld := hS6
                clear hS6
                try simp only [Act.put, List.setIfInBounds_toArray, List.set_cons_zero, List.set_cons_succ]
                refine anyH_take (i := 14) (v := ?_) (some 49) rfl rfl (by kernel_rfl) (by kernel_rfl) (by kernel_rfl) (fun _ _ _ h => h) (by rfl) (by assumption) ?_ ?_
                rotate_left
                · intro w hSw; (try dsimp only at hSw); go_split_ands; go_simp; try (with_reducible rfl)
                try simp only [Act.put, List.setIfInBounds_toArray, List.set_cons_zero, List.set_cons_succ]
                refine anyH_take (i := 15) (v := ?_) (some 50) rfl rfl (by kernel_rfl) (by kernel_rfl) (by kernel_rfl) (fun _ _ _ h => h) (by rfl) (by assumption) ?_ ?_
                rotate_left
                · intro w hSw; (try dsimp only at hSw); go_split_ands; go_simp; try (with_reducible rfl)
                try simp only [Act.put, List.setIfInBounds_toArray, List.set_cons_zero, List.set_cons_succ]
                refine wpAnyH_done (by kernel_rfl) ?_ _
                have HR := Lib.hid (HR1.out _ hHeld.2.2.2.2)
                clear hHeld SF SG SH HR1
                go_wp2_with fail
                go_roundw
                case rel => exact HR.out
                case measure => simp [intOf]; omega
              | true =>
                have hcb : cb = true := by rw [hcv.out]; rfl
                clear HR0
                go_wp2_with fail
                refine wp_region_held_drew (S := fun W' => W'.cell? ⟨w.heap.size, 0, none⟩ = some (.slice A0 ss.length k0) ∧ W'.cell? ⟨wr.heap.size, 0, none⟩ = some (.int .i64 mf) ∧ W'.cell? ⟨wr.heap.size, 1, none⟩ = some (.slice (some ⟨b2, o2, none⟩) 2 cc) ∧ W'.cell? ⟨b2, o2, none⟩ = some (.int .i64 ta) ∧ Below Wm.heap.size Wm W') (by kernel_rfl) (SH.out _ ((Below.refl _ _).drew)) (fun hHeld => ?_)
                refine anyH_take (i := 0) (v := ?_) (some 35) rfl rfl (by kernel_rfl) (by kernel_rfl) (by kernel_rfl) (fun _ _ _ h => h) (by rfl) (by assumption) ?_ ?_
                rotate_left
                · intro w hSw; (try dsimp only at hSw); go_split_ands; go_simp; try (with_reducible rfl)
                try simp only [Act.put, List.setIfInBounds_toArray, List.set_cons_zero, List.set_cons_succ]
                refine anyH_take (i := 1) (v := ?_) (some 36) rfl rfl (by kernel_rfl) (by kernel_rfl) (by kernel_rfl) (fun _ _ _ h => h) (by rfl) (by assumption) ?_ ?_
                rotate_left
                · intro w hSw; (try dsimp only at hSw); go_split_ands; go_simp; try (with_reducible rfl)
                try simp only [Act.put, List.setIfInBounds_toArray, List.set_cons_zero, List.set_cons_succ]
                refine anyH_take (i := 2) (v := ?_) (some 37) rfl rfl (by kernel_rfl) (by kernel_rfl) (by kernel_rfl) (fun _ _ _ h => h) (by rfl) (by assumption) ?_ ?_
                rotate_left
                · intro w hSw; (try dsimp only at hSw); go_split_ands; go_simp; try (with_reducible rfl)
                try simp only [Act.put, List.setIfInBounds_toArray, List.set_cons_zero, List.set_cons_succ]
                refine anyH_take (i := 3) (v := ?_) (some 38) rfl rfl (by kernel_rfl) (by kernel_rfl) (by kernel_rfl) (fun _ _ _ h => h) (by rfl) (by assumption) ?_ ?_
                rotate_left
                · intro w hSw; (try dsimp only at hSw); go_split_ands; go_simp; try (with_reducible rfl)
                try simp only [Act.put, List.setIfInBounds_toArray, List.set_cons_zero, List.set_cons_succ]
                refine anyH_call (i := 4) (some 39) rfl rfl (by kernel_rfl) (by rfl) (by go_simp) (SF.out _ hHeld.2.2.2.2) (fun W5 hS6 => ?_)
                clear hHeld
                have hHeld := hS6
                clear hS6
                try simp only [Act.put, List.setIfInBounds_toArray, List.set_cons_zero, List.set_cons_succ]
                refine anyH_take (i := 5) (v := ?_) (some 40) rfl rfl (by kernel_rfl) (by kernel_rfl) (by kernel_rfl) (fun _ _ _ h => h) (by rfl) (by assumption) ?_ ?_
                rotate_left
                · intro w hSw; (try dsimp only at hSw); go_split_ands; go_simp; try (with_reducible rfl)
                try simp only [Act.put, List.setIfInBounds_toArray, List.set_cons_zero, List.set_cons_succ]
                refine anyH_take (i := 6) (v := ?_) (some 41) rfl rfl (by kernel_rfl) (by kernel_rfl) (by kernel_rfl) (fun _ _ _ h => h) (by rfl) (by assumption) ?_ ?_
                rotate_left
                · intro w hSw; (try dsimp only at hSw); go_split_ands; go_simp; try (with_reducible rfl)
                try simp only [Act.put, List.setIfInBounds_toArray, List.set_cons_zero, List.set_cons_succ]
                refine anyH_take (i := 7) (v := ?_) (some 42) rfl rfl (by kernel_rfl) (by kernel_rfl) (by kernel_rfl) (fun _ _ _ h => h) (by rfl) (by assumption) ?_ ?_
                rotate_left
                · intro w hSw; (try dsimp only at hSw); go_split_ands; go_simp; try (with_reducible rfl)
                try simp only [Act.put, List.setIfInBounds_toArray, List.set_cons_zero, List.set_cons_succ]
                refine anyH_take (i := 8) (v := ?_) (some 43) rfl rfl (by kernel_rfl) (by kernel_rfl) (by kernel_rfl) (fun _ _ _ h => h) (by rfl) (by assumption) ?_ ?_
                rotate_left
                · intro w hSw; (try dsimp only at hSw); go_split_ands; go_simp; try (with_reducible rfl)
                try simp only [Act.put, List.setIfInBounds_toArray, List.set_cons_zero, List.set_cons_succ]
                refine anyH_take (i := 9) (v := ?_) (some 44) rfl rfl (by kernel_rfl) (by kernel_rfl) (by kernel_rfl) (fun _ _ _ h => h) (by rfl) (by assumption) ?_ ?_
                rotate_left
                · intro w hSw; (try dsimp only at hSw); go_split_ands; go_simp; try (with_reducible rfl)
                try simp only [Act.put, List.setIfInBounds_toArray, List.set_cons_zero, List.set_cons_succ]
                refine anyH_take (i := 10) (v := ?_) (some 45) rfl rfl (by kernel_rfl) (by kernel_rfl) (by kernel_rfl) (fun _ _ _ h => h) (by rfl) (by assumption) ?_ ?_
                rotate_left
                · intro w hSw; (try dsimp only at hSw); go_split_ands; go_simp; try (with_reducible rfl)
                try simp only [Act.put, List.setIfInBounds_toArray, List.set_cons_zero, List.set_cons_succ]
                refine anyH_take (i := 11) (v := ?_) (some 46) rfl rfl (by kernel_rfl) (by kernel_rfl) (by kernel_rfl) (fun _ _ _ h => h) (by rfl) (by assumption) ?_ ?_
                rotate_left
                · intro w hSw; (try dsimp only at hSw); go_split_ands; go_simp; try (with_reducible rfl)
                try simp only [Act.put, List.setIfInBounds_toArray, List.set_cons_zero, List.set_cons_succ]
                refine anyH_take (i := 12) (v := ?_) (some 47) rfl rfl (by kernel_rfl) (by kernel_rfl) (by kernel_rfl) (fun _ _ _ h => h) (by rfl) (by assumption) ?_ ?_
                rotate_left
                · intro w hSw; (try dsimp only at hSw); go_split_ands; go_simp; try (with_reducible rfl)
                try simp only [Act.put, List.setIfInBounds_toArray, List.set_cons_zero, List.set_cons_succ]
                refine anyH_call (i := 13) (some 48) rfl rfl (by kernel_rfl) (by rfl) (by go_simp) (SG.out _ hHeld.2.2.2.2) (fun W6 hS6 => ?_)
                clear hHeld
                have hHeld := hS6
                clear hS6
                try simp only [Act.put, List.setIfInBounds_toArray, List.set_cons_zero, List.set_cons_succ]
                refine anyH_take (i := 14) (v := ?_) (some 49) rfl rfl (by kernel_rfl) (by kernel_rfl) (by kernel_rfl) (fun _ _ _ h => h) (by rfl) (by assumption) ?_ ?_
                rotate_left
                · intro w hSw; (try dsimp only at hSw); go_split_ands; go_simp; try (with_reducible rfl)
                try simp only [Act.put, List.setIfInBounds_toArray, List.set_cons_zero, List.set_cons_succ]
                refine anyH_take (i := 15) (v := ?_) (some 50) rfl rfl (by kernel_rfl) (by kernel_rfl) (by kernel_rfl) (fun _ _ _ h => h) (by rfl) (by assumption) ?_ ?_
                rotate_left
                · intro w hSw; (try dsimp only at hSw); go_split_ands; go_simp; try (with_reducible rfl)
                try simp only [Act.put, List.setIfInBounds_toArray, List.set_cons_zero, List.set_cons_succ]
                refine wpAnyH_done (by kernel_rfl) ?_ _
                have v0 := hHeld.2.1
                have v1 := hHeld.2.2.1
                have v2 := hHeld.2.2.2.1
                have hb6 := hHeld.2.2.2.2
                have v3 := (hb6.cell (World.block_lt_of_cell? _ _ T1.out)).trans T1.out
                clear hHeld SF SG SH
                have al : Below W6.heap.size W6 (W6.alloc (.cells #[.int .i64 0, .int .i64 0] 53)) := (Below.refl _ _).alloc (Nat.le_refl _) _
                have u0 := (al.cell (World.block_lt_of_cell? _ _ v0)).trans v0
                have u1 := (al.cell (World.block_lt_of_cell? _ _ v1)).trans v1
                have u2 := (al.cell (World.block_lt_of_cell? _ _ v2)).trans v2
                have u3 := (al.cell (World.block_lt_of_cell? _ _ v3)).trans v3
                have HPT' := Lib.hid (fun (h : (Hg.comp ta tb).2 = true ∨ ∃ v, F (ta, tb) = some v) => HPT.out (h.elim (fun h => .inr (.inl h)) (fun h => .inr (.inr h))))
                have HPP' := Lib.hid (fun (h : (Hg.comp ta tb).2 = false) (h3 : F (ta, tb) = none) => show F1 = fun y => if y = (ta, tb) then some mf else F y from HPP.out hcb h h3)
                have HPL' := Lib.hid (fun v => HPL.out (ta, tb) v)
                clear HPT HPP HPL
                go_wp2_with fail
                go_region
                have hBp : Below W6.heap.size W6 (W6.alloc (.cells #[.int .i64 ta, .int .i64 tb] 53)).drew := ((Below.refl _ _).alloc (Nat.le_refl _) _).drew
                have hXp : Box (W6.alloc (.cells #[.int .i64 ta, .int .i64 tb] 53)).drew W6.heap.size 53 [.int .i64 ta, .int .i64 tb] := Box.new W6 53 [.int .i64 ta, .int .i64 tb] rfl
                obtain ⟨Wp, hWp⟩ : ∃ Wp, (W6.alloc (.cells #[.int .i64 ta, .int .i64 tb] 53)).drew = Wp := ⟨_, rfl⟩
                rw [hWp] at hBp hXp ⊢
                clear hWp u0 u1 u2 u3 al
                have v0p := (hBp.cell (World.block_lt_of_cell? _ _ v0)).trans v0
                have hb7 : Below wr.heap.size wr Wp := BW.out.trans ((hb6.trans (hBp.mono hb6.size)).mono BW.out.size)
                clear v0 v1 v2 v3 hBp hb6 p0 m0 m1 t0'
                have e0 := hXp.cell (i := 0) rfl
                have e1 := hXp.cell (i := 1) rfl
                have XP := Lib.hid hXp
                have hxl := hXp.lt
                clear hXp
                have CCO := Lib.hid (CO.out ta tb Wp)
                generalize Hg.comp ta tb = cm at *
                obtain ⟨cv, cf⟩ := cm
                dsimp only at *
                have hpk : pok (ta, tb) := ⟨iok_of (hcd.2.2 ta (by simp)), iok_of (hcd.2.2 tb (by simp))⟩
                go_wp2_with fail
                with_reducible refine CCO.out.mono ?_
                rintro e W8 ⟨rfl, hb8⟩
                have hb9 := hb7.trans (hb8.mono hb7.size)
                have v08 := (hb8.cell (World.block_lt_of_cell? _ _ v0p)).trans v0p
                clear e0 e1
                have X8 := XP.out.below hb8 hxl
                have e0 := X8.cell (i := 0) rfl
                have e1 := X8.cell (i := 1) rfl
                clear v0p X8 CCO
                cases cf with
                | true =>
                  have HR := Lib.hid (HREL2.out W8 hb9 (HPT'.out (.inl rfl)))
                  clear HREL2 HPT' HPP' HPL'
                  go_wp2_with fail
                  go_roundw
                  case rel => exact HR.out
                  case measure => simp [intOf]; omega
                | false =>
                  have HM8 := Lib.hid (HMP.out.below hb9)
                  cases hF : F (ta, tb) with
                  | some v =>
                    have hlv := HPL'.out v hF
                    have HFV := Lib.hid (show pcV F (ta, tb) = some (.int .i64 v) from by unfold pcV; rw [hF]; rfl)
                    have HR := Lib.hid (HREL2.out W8 hb9 (HPT'.out (.inr ⟨v, hF⟩)))
                    have hnl : ¬ mf < v := by omega
                    clear HREL2 HPT' HPP' HPL' hF
                    go_wp2_with (at_lookup; refine wpList_lookOk rfl _ _ 49 rfl HM8.out law_pair Tryd.underlying49 (zero_intP _) rfl rfl hpk (pkey_some hpk) ?_; rw [HFV.out]; simp only [Option.getD_some, Option.isSome_some])
                    go_roundw
                    case rel => exact HR.out
                    case measure => simp [intOf]; omega
                  | none =>
                    have HFV := Lib.hid (show pcV F (ta, tb) = none from by unfold pcV; rw [hF]; rfl)
                    have HF9 := Lib.hid (HPP'.out rfl hF)
                    have HX8 := Lib.hid (HX.out.below hb9 hXlt)
                    have hb10 := hb.trans (hb9.mono hb.size)
                    have hsz8 : w.heap.size + 2 ≤ W8.heap.size := by have := hb9.size; omega
                    clear HREL2 HPT' HPP' HPL' hF
                    go_wp2_with (first
                      | (at_lookup; refine wpList_lookOk rfl _ _ 49 rfl HM8.out law_pair Tryd.underlying49 (zero_intP _) rfl rfl hpk (pkey_some hpk) ?_; rw [HFV.out]; simp only [Option.getD_none, Option.isSome_none])
                      | (at_mapUpdate; refine wpList_mput rfl _ _ _ 49 rfl HM8.out law_pair Tryd.underlying49 (by unfold maxLen; omega) rfl rfl rfl hpk (pkey_some hpk) (fun y hy e => plit_inj hy hpk e) ?_; intro w9 hM9 hg9))
                    go_roundw
                    case rel =>
                      refine ⟨i + 1, by omega, by go_num, HX8.out.grown hg9 (by simp), ?_, below_grown hb10 hg9 (by omega) hb10.size, by have := hg9.size; omega⟩
                      rw [HF1.out, HF9.out]
                      refine hM9.ext fun y _ => ?_
                      unfold pcV
                      dsimp only
                      split <;> rfl
                    case measure => simp [intOf]; omega
        · have hcb : cb = false := by rw [HB.out]; simp [h2]
          have d2 : ((mt.length : Int) != 2) = true := by simp; omega
          have HR := Lib.hid (HREL.out _ Ba (HSK.out hcb))
          clear HREL HSK HPT HPP HPL hC hXa
          go_wp2_with fail
          go_roundw
          case rel => exact HR.out
          case measure => simp [intOf]; omega
      · have hcb : cb = false := by rw [HB.out]; simp [show ¬ mg = ByteArray.empty from fun e => hg (by rw [e]; rfl)]
        have g0 : ¬ mg.toList = [] := str_cons hg
        have g1 : mg.toList.isEmpty = false := by simpa using g0
        have HR := Lib.hid (HREL.out _ Ba (HSK.out hcb))
        clear HREL HSK HPT HPP HPL hC hXa
        go_wp2_with fail
        go_roundw
        case rel => exact HR.out
        case measure => simp [intOf]; omega
    · obtain rfl : i = ms.length := by omega
      have hb9 := hb
      have HR := Lib.hid (show MapP wr (w.heap.size + 1) ms.length PN from by rw [P9.out]; exact HMP.out)
      go_wp2_with fail
      go_ret
      exact ⟨w.heap.size + 1, rfl, HR.out, by omega, hb9⟩
end Go.Proofs.YtjglanjfgbipmaaDoor
