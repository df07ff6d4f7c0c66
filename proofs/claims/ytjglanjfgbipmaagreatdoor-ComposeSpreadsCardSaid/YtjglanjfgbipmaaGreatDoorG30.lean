/- Texts that are merged into one file: RefPairs. -/
import Derived.Test.YtjglanjfgbipmaaGreatDoorG24
import Derived.Test.YtjglanjfgbipmaaGreatDoorG25
import Derived.Test.YtjglanjfgbipmaaGreatDoorG29
/- Contracts of the reference's before, Pairs and Primary of composing. Written by gen_refpairs.py. -/
namespace Go.Proofs.YtjglanjfgbipmaaGreatDoor
open Go.RowKit Go.Maps Go.WideMaps Go.Shelf

/-- whether a triple stands in front of another one -/
def befB (x y : Int × Int × Int) : Bool := decide (x.1 < y.1) || (decide (x.1 = y.1) && decide (x.2.1 < y.2.1))
theorem befB_iff {x y : Int × Int × Int} : befB x y = true ↔ befT x y := by unfold befB befT; simp
theorem befB_no {x y : Int × Int × Int} : befB x y = false ↔ ¬ befT x y := by rw [← befB_iff, Bool.not_eq_true]
set_option maxRecDepth 100000 in
set_option maxHeartbeats 3200000 in
theorem before_any (x y : Int × Int × Int) (w : World) : Calls Tryz.prog 38 #[.agg (encT x).toArray, .agg (encT y).toArray] w (RetBool (befB x y) w) := by
  obtain ⟨x0, x1, x2⟩ := x
  obtain ⟨y0, y1, y2⟩ := y
  unfold encT befB
  dsimp only
  have B0 : Below w.heap.size w ((w.alloc (.cells #[.int .i64 x0, .int .i64 x1, .int .i64 x2] 36)).alloc (.cells #[.int .i64 y0, .int .i64 y1, .int .i64 y2] 36)) := ((Below.refl _ _).alloc (Nat.le_refl _) _).alloc (by simp) _
  go_enter Tryz.func38, Tryz.ntmps38
  by_cases h1 : x0 < y0
  · have d1 : decide (x0 < y0) = true := by simpa using h1
    go_wp2_with fail
    go_ret
    exact ⟨ret_bool (by simp [h1]), B0⟩
  · have d1 : decide (x0 < y0) = false := by simpa using h1
    by_cases h2 : x0 = y0
    · subst h2
      have d2 : (x0 == x0) = true := by simp
      by_cases h3 : x1 < y1
      · have d3 : decide (x1 < y1) = true := by simpa using h3
        go_wp2_with fail
        go_ret
        exact ⟨ret_bool (by simp), B0⟩
      · have d3 : decide (x1 < y1) = false := by simpa using h3
        go_wp2_with fail
        go_ret
        exact ⟨ret_bool (by simp), B0⟩
    · have d2 : (x0 == y0) = false := by simpa using h2
      go_wp2_with fail
      go_ret
      exact ⟨ret_bool (by simp), B0⟩

/-- the address of a part of a slice of triples -/
def subA3 (A : Option Addr) (a lo : Nat) : Option Addr := if a = lo then A else A.map (fun x => x.add (lo * 3))
theorem flatT_drop (L : List (Int × Int × Int)) (k : Nat) : (L.drop k).flatMap encT = (L.flatMap encT).drop (k * 3) := by
  induction L generalizing k with
  | nil => simp
  | cons t L ih =>
    cases k with
    | zero => simp
    | succ k =>
      rw [List.drop_succ_cons, ih, List.flatMap_cons, show (k + 1) * 3 = k * 3 + 3 by omega]
      rw [List.drop_append]
      simp [encT]
theorem Tri.from {w : World} {A : Option Addr} {L : List (Int × Int × Int)} (h : Sl w A (L.flatMap encT)) {a lo : Nat} (h3 : L.length ≤ a) : Sl w (subA3 A a lo) ((L.drop lo).flatMap encT) := by
  unfold subA3
  by_cases e : a = lo
  · rw [if_pos e, List.drop_of_length_le (by omega)]
    exact Sl.nil _ _
  · rw [if_neg e, flatT_drop]
    intro hne
    have hl : (L.flatMap encT) ≠ [] := by intro e0; rw [e0] at hne; simp at hne
    obtain ⟨b, o, rfl, hc⟩ := h hl
    refine ⟨b, o + lo * 3, ?_, fun j u hu => ?_⟩
    · simp only [Option.map_some, Addr.add]
      split
      · next h0 => rw [h0]; rfl
      · rfl
    · rw [List.getElem?_drop] at hu
      have := hc _ _ hu
      rw [Nat.add_assoc]
      exact this
theorem Tri.to {w : World} {A : Option Addr} {L : List (Int × Int × Int)} (h : Sl w A (L.flatMap encT)) {a : Nat} (k : Nat) (h3 : L.length ≤ a) : Sl w (subA3 A a 0) ((L.take k).flatMap encT) := by
  have h1 := Tri.from h (a := a) (lo := 0) h3
  rw [List.drop_zero] at h1
  intro hne
  have e : L.flatMap encT = (L.take k).flatMap encT ++ (L.drop k).flatMap encT := by rw [← List.flatMap_append, List.take_append_drop]
  obtain ⟨b, o, hA, hc⟩ := h1 (by rw [e]; intro h0; exact hne (List.append_eq_nil_iff.1 h0).1)
  refine ⟨b, o, hA, fun j u hu => hc j u ?_⟩
  rw [e, List.getElem?_append_left (List.getElem?_eq_some_iff.1 hu).1]
  exact hu
theorem run_cutTo3 (A : Option Addr) (n a hi : Nat) (h2 : hi ≤ a) (W : World) : (Instr.sliceAt 34 (.slice A n a) none (some (.int .i64 hi)) none).run Tryz.prog W = .ok (.slice (subA3 A a 0) (hi - 0) (a - 0)) W := by
  have hu := Tryz.underlying34
  have he : Tryz.prog.elem 34 = 36 := by kernel_rfl
  obtain ⟨i, hi', _, hs, _⟩ := info_parts info_tri
  rw [run_sliceAt_slice (h := by rw [he]; exact hu), run_slice_h (ht := by rw [he]; exact hu) (h0 := by omega) (h2 := by omega)]
  simp [sizeOf, typeInfo, he, hi', hs, sliced, subA3]
theorem run_cutFrom3 (A : Option Addr) (n a lo : Nat) (h1 : lo ≤ n) (W : World) : (Instr.sliceAt 34 (.slice A n a) (some (.int .i64 lo)) none none).run Tryz.prog W = .ok (.slice (subA3 A a lo) (n - lo) (a - lo)) W := by
  have hu := Tryz.underlying34
  have he : Tryz.prog.elem 34 = 36 := by kernel_rfl
  obtain ⟨i, hi', _, hs, _⟩ := info_parts info_tri
  rw [run_sliceAt_slice (h := by rw [he]; exact hu), run_slice_l (ht := by rw [he]; exact hu) (h0 := by omega) (h1 := by omega)]
  simp [sizeOf, typeInfo, he, hi', hs, sliced, subA3]
theorem one_tri (l : List (Int × Int × Int)) : ∀ v ∈ l.flatMap encT, v.oneCell' = true := by
  intro v hv
  obtain ⟨t, _, h⟩ := List.mem_flatMap.1 hv
  exact one_encT t v h
theorem tri_own {w : World} {base c : Nat} {A : Option Addr} {L : List (Int × Int × Int)} (h : w.ownsRow base 36 3 (.slice A L.length c) L.length (L.flatMap encT)) {k : Nat} (hk : k < L.length) :
    ∃ g, A = some ⟨g, 0, none⟩ ∧ base ≤ g ∧ w.cell? ⟨g, k * 3, none⟩ = some (.int .i64 L[k].1) ∧ w.cell? ⟨g, k * 3 + 1, none⟩ = some (.int .i64 L[k].2.1) ∧ w.cell? ⟨g, k * 3 + 2, none⟩ = some (.int .i64 L[k].2.2) := by
  rcases h.2 with ⟨hv, h0⟩ | ⟨g, cap, cur, hv, hb, _⟩
  · omega
  · injection hv with hA _ hc
    subst hA; subst hc
    have key : ∀ j u, (encT L[k])[j]? = some u → j < 3 → w.cell? ⟨g, k * 3 + j, none⟩ = some u := by
      intro j u hu hj
      rw [h.cellAt (k * 3 + j) (by omega)]
      have := flatK_get encT 3 (fun _ => rfl) L k j hk hj
      unfold flatK at this
      rw [this]
      exact hu
    exact ⟨g, rfl, hb, key 0 _ rfl (by omega), key 1 _ rfl (by omega), key 2 _ rfl (by omega)⟩

/-- the list of pairs is returned, at most m -/
def RetPairs (x : Nrm) (m : Nat) (w : World) (e : Ending) (w' : World) : Prop := ∃ L, PairsOk x L ∧ L.length ≤ m ∧ ∃ A c, e = .returned (.slice A L.length c) ∧ L.length ≤ c ∧ w'.ownsRow w.heap.size 36 3 (.slice A L.length c) L.length (L.flatMap encT) ∧ Below w.heap.size w w'

theorem own_down {w : World} {b' b size n : Nat} {e : TypeId} {v : Value} {xs : List Value} (h : w.ownsRow b e size v n xs) (hb : b' ≤ b) : w.ownsRow b' e size v n xs :=
  ⟨h.1, h.2.imp id (fun ⟨g, cap, cur, hv, hb1, r⟩ => ⟨g, cap, cur, hv, Nat.le_trans hb hb1, r⟩)⟩

set_option maxRecDepth 100000 in
set_option maxHeartbeats 12800000 in
theorem refPairs_any (A0 : Option Addr) (n0 k0 : Nat) (A1 : Option Addr) (n1 k1 : Nat) (A2 : Option Addr) (n2 k2 : Nat) (x : Nrm) (w : World) (hN : NrmAt w A0 n0 A1 n1 A2 n2 x) (hz : NrmSz x) :
    Calls Tryz.prog 16 #[.agg #[.slice A0 n0 k0, .slice A1 n1 k1, .slice A2 n2 k2]] w (RetPairs (usN x) (usN x).dec.length w) := by
  have hB : Below w.heap.size w (w.alloc (.cells #[.slice A0 n0 k0, .slice A1 n1 k1, .slice A2 n2 k2] 28)) := (Below.refl _ _).alloc (Nat.le_refl _) _
  have hX : Box (w.alloc (.cells #[.slice A0 n0 k0, .slice A1 n1 k1, .slice A2 n2 k2] 28)) w.heap.size 28 [.slice A0 n0 k0, .slice A1 n1 k1, .slice A2 n2 k2] := Box.new w _ [.slice A0 n0 k0, .slice A1 n1 k1, .slice A2 n2 k2] rfl
  have UC := Lib.hid (refCounted_eq A0 n0 k0 A1 n1 k1 A2 n2 k2 x _ (hN.below hB) hz)
  obtain ⟨B0, c0, B1, c1, B2, c2, hv, hNW⟩ := usV_at hN k0 k1 k2
  rw [hv] at UC
  have HNW := Lib.hid hNW
  clear hv hNW
  have HB := Lib.hid hB
  have HX := Lib.hid hX
  have hzu := hz.us
  have hny := usN_ok x
  have z1 : (usN x).dec.length ≤ 1048576 := hzu.z1.n
  clear hN hz hB hX
  generalize usN x = y at *
  have CX := Lib.hid (fun i (hi : i < y.dec.length) W (hb : Below w.heap.size w W) => composite_any B0 _ c0 B1 _ c1 B2 _ c2 y i W (HNW.out W hb) hzu hi)
  have PX := Lib.hid (fun u v W (hb : Below w.heap.size w W) => refpair_any B0 _ c0 B1 _ c1 B2 _ c2 y u v W (HNW.out W hb) hzu)
  have P0 := Lib.hid (PairsAt.start y)
  have PD := Lib.hid (fun L (h : PairsAt y y.dec.length L) => h.done)
  have PLN := Lib.hid (fun i L (h : PairsAt y i L) => h.len)
  have PN := Lib.hid (fun i L (h : PairsAt y i L) (hi : i < y.dec.length) hc => h.no hi hc)
  have PS := Lib.hid (fun i L (h : PairsAt y i L) (hi : i < y.dec.length) h1 hc => h.skip hi h1 hc)
  have PP := Lib.hid (fun i L (h : PairsAt y i L) (hi : i < y.dec.length) h1 hc k hk g1 g2 => h.put hny hi h1 hc (k := k) hk g1 g2)
  have HL2 := Lib.hid (fun m (h : cpB y m = true) => show m.to.length = 2 from by unfold cpB at h; simp at h; exact h.1.2)
  clear hzu hny
  go_enter Tryz.func16, Tryz.ntmps16
  have g0 := HX.out.cell (i := 0) rfl
  have g1 := HX.out.cell (i := 1) rfl
  have g2 := HX.out.cell (i := 2) rfl
  go_wp2_with fail
  with_reducible refine UC.out.mono ?_
  rintro e W1 ⟨rfl, hb1⟩
  have hX1 := HX.out.below hb1 HX.out.lt
  have hb := HB.out.trans (hb1.mono HB.out.size)
  clear g0 g1 g2
  have d0 := hX1.cell (i := 0) rfl
  have d1 := hX1.cell (i := 1) rfl
  have d2 := hX1.cell (i := 2) rfl
  have f0 := hX1.free 0
  have f1 := hX1.free 1
  have f2 := hX1.free 2
  have hX2 := ((hX1.set 0 (.slice B0 y.cls.length c0)).set 1 (.slice B1 y.dec.length c1)).set 2 (.slice B2 y.exc.length c2)
  have hb4 : Below w.heap.size w (((W1.setCell ⟨w.heap.size, 0, none⟩ (.slice B0 y.cls.length c0)).setCell ⟨w.heap.size, 1, none⟩ (.slice B1 y.dec.length c1)).setCell ⟨w.heap.size, 2, none⟩ (.slice B2 y.exc.length c2)) := ((hb.setCell (by simp) _).setCell (by simp) _).setCell (by simp) _
  have W2E : ∃ W3, (((W1.setCell ⟨w.heap.size, 0, none⟩ (.slice B0 y.cls.length c0)).setCell ⟨w.heap.size, 1, none⟩ (.slice B1 y.dec.length c1)).setCell ⟨w.heap.size, 2, none⟩ (.slice B2 y.exc.length c2)) = W3 := ⟨_, rfl⟩
  go_wp2_with fail
  obtain ⟨W3, hW2⟩ := W2E
  rw [hW2] at hX2 hb4 ⊢
  clear hW2 d0 d1 d2 f0 f1 f2 hX1 hb hb1 UC HX HB
  have hXl := hX2.lt
  have X3 := Lib.hid hX2
  clear hX2
  go_loopw [3, 4] (fun v u wr => ∃ (i : Nat) (L : List (Int × Int × Int)) (S : Option Addr) (c : Nat), i ≤ y.dec.length ∧ u = .int .i64 i ∧ v = .slice S L.length c ∧ PairsAt y i L ∧ wr.ownsRow W3.heap.size 36 3 (.slice S L.length c) L.length (L.flatMap encT) ∧ Below W3.heap.size W3 wr) (fun _ u _ => y.dec.length - (intOf u).toNat)
  case atStart => exact ⟨0, [], none, 0, Nat.zero_le _, rfl, rfl, P0.out, World.ownsRow_nil _ _ _ _, Below.refl _ _⟩
  case round =>
    obtain ⟨i, L, S, c, hi, rfl, rfl, hpa, hown, hbr⟩ := hrel
    have HPA := Lib.hid hpa; have HOWN := Lib.hid hown
    clear hpa hown
    have hLi := PLN.out i L HPA.out
    have hbw := hb4.trans (hbr.mono hb4.size)
    have q0 := (X3.out.below hbr hXl).cell (i := 0) rfl
    have q1 := (X3.out.below hbr hXl).cell (i := 1) rfl
    have q2 := (X3.out.below hbr hXl).cell (i := 2) rfl
    by_cases hlt : i < y.dec.length
    · have CXI := Lib.hid (CX.out i hlt wr hbw)
      go_wp2_with fail
      with_reducible refine CXI.out.mono ?_
      rintro e w4 ⟨rfl, hbn⟩
      have hbr4 := hbr.trans (hbn.mono hbr.size)
      have hbw4 := hb4.trans (hbr4.mono hb4.size)
      have HO4 := Lib.hid (own_keep HOWN.out hbn)
      clear q0 q1 q2 hbn HOWN CXI hbr hbw
      have PNI := Lib.hid (fun hc => PN.out i L HPA.out hlt hc)
      have PSI := Lib.hid (fun h1 hc => PS.out i L HPA.out hlt h1 hc)
      have PPI := Lib.hid (fun h1 hc k hk g1 g2 => PP.out i L HPA.out hlt h1 hc k hk g1 g2)
      cases hcb : cpB y y.dec[i] with
      | false =>
        have HPN := Lib.hid (PNI.out hcb)
        clear PNI PSI PPI
        go_wp2_with fail
        go_roundw
        case rel => exact ⟨i + 1, L, S, c, by omega, by go_num, rfl, HPN.out, HO4.out, hbr4⟩
        case measure => simp [intOf]; omega
      | true =>
        have hl2 := HL2.out _ hcb
        have PSI := Lib.hid (fun hc => PSI.out hcb hc)
        have PPI := Lib.hid (fun hc k hk g1 g2 => PPI.out hcb hc k hk g1 g2)
        obtain ⟨b1, o1, rfl, hbl, hcell⟩ := (HNW.out w4 hbw4).s1.at hlt
        obtain ⟨C, cc, e0, e1, e2, hcc, hC⟩ := hcell i hlt
        have PXI := Lib.hid (fun u v W hb => PX.out u v W hb)
        clear hcell hcb PNI
        generalize y.dec[i] = mi at *
        obtain ⟨mf, mt, mg⟩ := mi
        dsimp only at *
        obtain ⟨ta, tb, rfl⟩ : ∃ a b, mt = [a, b] := by
          match mt, hl2 with
          | [a, b], _ => exact ⟨a, b, rfl⟩
        obtain ⟨b2, o2, rfl, hc2⟩ := hC.at (k := 0) (by simp)
        have t0 := hc2 0 (by simp)
        have t1 := hc2 1 (by simp)
        simp only [List.getElem_cons_zero, List.getElem_cons_succ, Nat.add_zero] at t0 t1
        simp only [List.length_cons, List.length_nil, Nat.zero_add, Nat.reduceAdd] at e1 hcc
        have PSI := Lib.hid (show ¬ (prN y ta tb).getD 0 = mf → PairsAt y (i + 1) L from PSI.out)
        have PPI := Lib.hid (show (prN y ta tb).getD 0 = mf → ∀ k, k ≤ L.length → (∀ j, (hj : j < L.length) → k ≤ j → befT (ta, tb, mf) L[j]) → (k = 0 ∨ ∃ hj : k - 1 < L.length, ¬ befT (ta, tb, mf) L[k - 1]) → PairsAt y (i + 1) (insT L k (ta, tb, mf)) from PPI.out)
        clear hc2 hC hl2
        have q1 := (X3.out.below hbr4 hXl).cell (i := 1) rfl
        have SH7 := Lib.hid (fun W' (hb' : Below w4.heap.size w4 W') => show W'.cell? ⟨w.heap.size, 1, none⟩ = some (.slice (some ⟨b1, o1, none⟩) y.dec.length c1) ∧ W'.cell? ⟨b1, o1 + i * 3, none⟩ = some (.int .i64 mf) ∧ W'.cell? ⟨b1, o1 + i * 3 + 1, none⟩ = some (.slice (some ⟨b2, o2, none⟩) 2 cc) ∧ W'.cell? ⟨b2, o2, none⟩ = some (.int .i64 ta) ∧ W'.cell? ⟨b2, o2 + 1, none⟩ = some (.int .i64 tb) ∧ Below w4.heap.size w4 W' from ⟨(hb'.cell (World.block_lt_of_cell? _ _ q1)).trans q1, (hb'.cell (World.block_lt_of_cell? _ _ e0)).trans e0, (hb'.cell (World.block_lt_of_cell? _ _ e1)).trans e1, (hb'.cell (World.block_lt_of_cell? _ _ t0)).trans t0, (hb'.cell (World.block_lt_of_cell? _ _ t1)).trans t1, hb'⟩)
        have hb70 : Below w4.heap.size w4 (w4.drew.alloc (.cells #[.int .i64 0, .int .i64 0, .int .i64 0] 36)) := ((Below.refl _ _).drew).alloc (Nat.le_refl _) _
        have hBp : Below w4.heap.size w4 (w4.drew.alloc (.cells #[.int .i64 ta, .int .i64 tb, .int .i64 mf] 36)) := ((Below.refl _ _).drew).alloc (Nat.le_refl _) _
        have hXp : Box (w4.drew.alloc (.cells #[.int .i64 ta, .int .i64 tb, .int .i64 mf] 36)) w4.heap.size 36 [.int .i64 ta, .int .i64 tb, .int .i64 mf] := Box.new w4.drew 36 [.int .i64 ta, .int .i64 tb, .int .i64 mf] rfl
        clear q1 e0 e1 e2 t0 t1
        go_wp2_with fail
        refine wp_region_held_drew (S := fun W' => W'.cell? ⟨w.heap.size, 1, none⟩ = some (.slice (some ⟨b1, o1, none⟩) y.dec.length c1) ∧ W'.cell? ⟨b1, o1 + i * 3, none⟩ = some (.int .i64 mf) ∧ W'.cell? ⟨b1, o1 + i * 3 + 1, none⟩ = some (.slice (some ⟨b2, o2, none⟩) 2 cc) ∧ W'.cell? ⟨b2, o2, none⟩ = some (.int .i64 ta) ∧ W'.cell? ⟨b2, o2 + 1, none⟩ = some (.int .i64 tb) ∧ Below w4.heap.size w4 W') (by kernel_rfl) (SH7.out _ ((Below.refl _ _).drew)) (fun hHeld => ?_)
        refine anyH_take (i := 0) (v := ?_) (some 23) rfl rfl (by kernel_rfl) (by kernel_rfl) (by kernel_rfl) (fun _ _ _ h => h) (by rfl) (by assumption) ?_ ?_
        rotate_left
        · intro w hSw; (try dsimp only at hSw); go_split_ands; go_simp; try (with_reducible rfl)
        try simp only [Act.put, List.setIfInBounds_toArray, List.set_cons_zero, List.set_cons_succ]
        refine anyH_take (i := 1) (v := ?_) (some 24) rfl rfl (by kernel_rfl) (by kernel_rfl) (by kernel_rfl) (fun _ _ _ h => h) (by rfl) (by assumption) ?_ ?_
        rotate_left
        · intro w hSw; (try dsimp only at hSw); go_split_ands; go_simp; try (with_reducible rfl)
        try simp only [Act.put, List.setIfInBounds_toArray, List.set_cons_zero, List.set_cons_succ]
        refine anyH_take (i := 2) (v := ?_) (some 25) rfl rfl (by kernel_rfl) (by kernel_rfl) (by kernel_rfl) (fun _ _ _ h => h) (by rfl) (by assumption) ?_ ?_
        rotate_left
        · intro w hSw; (try dsimp only at hSw); go_split_ands; go_simp; try (with_reducible rfl)
        try simp only [Act.put, List.setIfInBounds_toArray, List.set_cons_zero, List.set_cons_succ]
        refine anyH_take (i := 3) (v := ?_) (some 26) rfl rfl (by kernel_rfl) (by kernel_rfl) (by kernel_rfl) (fun _ _ _ h => h) (by rfl) (by assumption) ?_ ?_
        rotate_left
        · intro w hSw; (try dsimp only at hSw); go_split_ands; go_simp; try (with_reducible rfl)
        try simp only [Act.put, List.setIfInBounds_toArray, List.set_cons_zero, List.set_cons_succ]
        refine anyH_take (i := 4) (v := ?_) (some 27) rfl rfl (by kernel_rfl) (by kernel_rfl) (by kernel_rfl) (fun _ _ _ h => h) (by rfl) (by assumption) ?_ ?_
        rotate_left
        · intro w hSw; (try dsimp only at hSw); go_split_ands; go_simp; try (with_reducible rfl)
        try simp only [Act.put, List.setIfInBounds_toArray, List.set_cons_zero, List.set_cons_succ]
        refine anyH_take (i := 5) (v := ?_) (some 28) rfl rfl (by kernel_rfl) (by kernel_rfl) (by kernel_rfl) (fun _ _ _ h => h) (by rfl) (by assumption) ?_ ?_
        rotate_left
        · intro w hSw; (try dsimp only at hSw); go_split_ands; go_simp; try (with_reducible rfl)
        try simp only [Act.put, List.setIfInBounds_toArray, List.set_cons_zero, List.set_cons_succ]
        refine anyH_take (i := 6) (v := ?_) (some 29) rfl rfl (by kernel_rfl) (by kernel_rfl) (by kernel_rfl) (fun _ _ _ h => h) (by rfl) (by assumption) ?_ ?_
        rotate_left
        · intro w hSw; (try dsimp only at hSw); go_split_ands; go_simp; try (with_reducible rfl)
        try simp only [Act.put, List.setIfInBounds_toArray, List.set_cons_zero, List.set_cons_succ]
        refine anyH_take (i := 7) (v := ?_) (some 30) rfl rfl (by kernel_rfl) (by kernel_rfl) (by kernel_rfl) (fun _ _ _ h => h) (by rfl) (by assumption) ?_ ?_
        rotate_left
        · intro w hSw; (try dsimp only at hSw); go_split_ands; go_simp; try (with_reducible rfl)
        try simp only [Act.put, List.setIfInBounds_toArray, List.set_cons_zero, List.set_cons_succ]
        refine anyH_take (i := 8) (v := ?_) (some 31) rfl rfl (by kernel_rfl) (by kernel_rfl) (by kernel_rfl) (fun _ _ _ h => h) (by rfl) (by assumption) ?_ ?_
        rotate_left
        · intro w hSw; (try dsimp only at hSw); go_split_ands; go_simp; try (with_reducible rfl)
        try simp only [Act.put, List.setIfInBounds_toArray, List.set_cons_zero, List.set_cons_succ]
        refine anyH_take (i := 9) (v := ?_) (some 32) rfl rfl (by kernel_rfl) (by kernel_rfl) (by kernel_rfl) (fun _ _ _ h => h) (by rfl) (by assumption) ?_ ?_
        rotate_left
        · intro w hSw; (try dsimp only at hSw); go_split_ands; go_simp; try (with_reducible rfl)
        try simp only [Act.put, List.setIfInBounds_toArray, List.set_cons_zero, List.set_cons_succ]
        refine anyH_take (i := 10) (v := ?_) (some 33) rfl rfl (by kernel_rfl) (by kernel_rfl) (by kernel_rfl) (fun _ _ _ h => h) (by rfl) (by assumption) ?_ ?_
        rotate_left
        · intro w hSw; (try dsimp only at hSw); go_split_ands; go_simp; try (with_reducible rfl)
        try simp only [Act.put, List.setIfInBounds_toArray, List.set_cons_zero, List.set_cons_succ]
        refine anyH_take (i := 11) (v := ?_) (some 34) rfl rfl (by kernel_rfl) (by kernel_rfl) (by kernel_rfl) (fun _ _ _ h => h) (by rfl) (by assumption) ?_ ?_
        rotate_left
        · intro w hSw; (try dsimp only at hSw); go_split_ands; go_simp; try (with_reducible rfl)
        try simp only [Act.put, List.setIfInBounds_toArray, List.set_cons_zero, List.set_cons_succ]
        refine anyH_take (i := 12) (v := ?_) (some 35) rfl rfl (by kernel_rfl) (by kernel_rfl) (by kernel_rfl) (fun _ _ _ h => h) (by rfl) (by assumption) ?_ ?_
        rotate_left
        · intro w hSw; (try dsimp only at hSw); go_split_ands; go_simp; try (with_reducible rfl)
        try simp only [Act.put, List.setIfInBounds_toArray, List.set_cons_zero, List.set_cons_succ]
        refine anyH_take (i := 13) (v := ?_) (some 36) rfl rfl (by kernel_rfl) (by kernel_rfl) (by kernel_rfl) (fun _ _ _ h => h) (by rfl) (by assumption) ?_ ?_
        rotate_left
        · intro w hSw; (try dsimp only at hSw); go_split_ands; go_simp; try (with_reducible rfl)
        try simp only [Act.put, List.setIfInBounds_toArray, List.set_cons_zero, List.set_cons_succ]
        refine anyH_take (i := 14) (v := ?_) (some 37) rfl rfl (by kernel_rfl) (by kernel_rfl) (by kernel_rfl) (fun _ _ _ h => h) (by rfl) (by assumption) ?_ ?_
        rotate_left
        · intro w hSw; (try dsimp only at hSw); go_split_ands; go_simp; try (with_reducible rfl)
        try simp only [Act.put, List.setIfInBounds_toArray, List.set_cons_zero, List.set_cons_succ]
        refine anyH_take (i := 15) (v := ?_) (some 38) rfl rfl (by kernel_rfl) (by kernel_rfl) (by kernel_rfl) (fun _ _ _ h => h) (by rfl) (by assumption) ?_ ?_
        rotate_left
        · intro w hSw; (try dsimp only at hSw); go_split_ands; go_simp; try (with_reducible rfl)
        try simp only [Act.put, List.setIfInBounds_toArray, List.set_cons_zero, List.set_cons_succ]
        refine anyH_take (i := 16) (v := ?_) (some 39) rfl rfl (by kernel_rfl) (by kernel_rfl) (by kernel_rfl) (fun _ _ _ h => h) (by rfl) (by assumption) ?_ ?_
        rotate_left
        · intro w hSw; (try dsimp only at hSw); go_split_ands; go_simp; try (with_reducible rfl)
        try simp only [Act.put, List.setIfInBounds_toArray, List.set_cons_zero, List.set_cons_succ]
        refine anyH_take (i := 17) (v := ?_) (some 40) rfl rfl (by kernel_rfl) (by kernel_rfl) (by kernel_rfl) (fun _ _ _ h => h) (by rfl) (by assumption) ?_ ?_
        rotate_left
        · intro w hSw; (try dsimp only at hSw); go_split_ands; go_simp; try (with_reducible rfl)
        try simp only [Act.put, List.setIfInBounds_toArray, List.set_cons_zero, List.set_cons_succ]
        refine anyH_take (i := 18) (v := ?_) (some 41) rfl rfl (by kernel_rfl) (by kernel_rfl) (by kernel_rfl) (fun _ _ _ h => h) (by rfl) (by assumption) ?_ ?_
        rotate_left
        · intro w hSw; (try dsimp only at hSw); go_split_ands; go_simp; try (with_reducible rfl)
        try simp only [Act.put, List.setIfInBounds_toArray, List.set_cons_zero, List.set_cons_succ]
        refine anyH_take (i := 19) (v := ?_) (some 42) rfl rfl (by kernel_rfl) (by kernel_rfl) (by kernel_rfl) (fun _ _ _ h => h) (by rfl) (by assumption) ?_ ?_
        rotate_left
        · intro w hSw; (try dsimp only at hSw); go_split_ands; go_simp; try (with_reducible rfl)
        try simp only [Act.put, List.setIfInBounds_toArray, List.set_cons_zero, List.set_cons_succ]
        refine anyH_take (i := 20) (v := ?_) (some 43) rfl rfl (by kernel_rfl) (by kernel_rfl) (by kernel_rfl) (fun _ _ _ h => h) (by rfl) (by assumption) ?_ ?_
        rotate_left
        · intro w hSw; (try dsimp only at hSw); go_split_ands; go_simp; try (with_reducible rfl)
        try simp only [Act.put, List.setIfInBounds_toArray, List.set_cons_zero, List.set_cons_succ]
        refine anyH_take (i := 21) (v := ?_) (some 44) rfl rfl (by kernel_rfl) (by kernel_rfl) (by kernel_rfl) (fun _ _ _ h => h) (by rfl) (by assumption) ?_ ?_
        rotate_left
        · intro w hSw; (try dsimp only at hSw); go_split_ands; go_simp; try (with_reducible rfl)
        try simp only [Act.put, List.setIfInBounds_toArray, List.set_cons_zero, List.set_cons_succ]
        refine anyH_take (i := 22) (v := ?_) (some 45) rfl rfl (by kernel_rfl) (by kernel_rfl) (by kernel_rfl) (fun _ _ _ h => h) (by rfl) (by assumption) ?_ ?_
        rotate_left
        · intro w hSw; (try dsimp only at hSw); go_split_ands; go_simp; try (with_reducible rfl)
        try simp only [Act.put, List.setIfInBounds_toArray, List.set_cons_zero, List.set_cons_succ]
        refine anyH_val (w' := w4.drew.alloc (.cells #[.int .i64 0, .int .i64 0, .int .i64 0] 36)) (v := .pointer (some ⟨w4.heap.size, 0, none⟩)) (i := 23) (some 5) rfl rfl (by kernel_rfl) (by rfl) (by go_simp) (SH7.out _ hb70) ?_
        try simp only [Act.put, List.setIfInBounds_toArray, List.set_cons_zero, List.set_cons_succ]
        refine anyH_unit (w' := w4.drew.alloc (.cells #[.int .i64 ta, .int .i64 tb, .int .i64 mf] 36)) (i := 24) none rfl rfl (by kernel_rfl) (by rfl) (by go_simp) (SH7.out _ hBp) ?_
        try simp only [Act.put]
        refine wpAnyH_done (by kernel_rfl) ?_ _
        clear hHeld
        obtain ⟨W5, hW5⟩ : ∃ W5, (w4.drew.alloc (.cells #[.int .i64 ta, .int .i64 tb, .int .i64 mf] 36)) = W5 := ⟨_, rfl⟩
        rw [hW5] at hBp hXp ⊢
        clear hW5 hb70 SH7
        have hbr5 := hbr4.trans (hBp.mono hbr4.size)
        have hbw5 := hb4.trans (hbr5.mono hb4.size)
        have HO5 := Lib.hid (own_keep HO4.out hBp)
        have h45 : W3.heap.size ≤ w4.heap.size := hbr4.size
        clear hBp HO4 hbr4 hbw4
        have q0 := (X3.out.below hbr5 hXl).cell (i := 0) rfl
        have q1 := (X3.out.below hbr5 hXl).cell (i := 1) rfl
        have q2 := (X3.out.below hbr5 hXl).cell (i := 2) rfl
        have v0 := hXp.cell (i := 0) rfl
        have v1 := hXp.cell (i := 1) rfl
        have hxl := hXp.lt
        have XP := Lib.hid hXp
        clear hXp
        have PXJ := Lib.hid (PXI.out ta tb W5 hbw5)
        generalize prN y ta tb = pr at *
        go_wp2_with fail
        with_reducible refine PXJ.out.mono ?_
        rintro e W6 ⟨rfl, hb6⟩
        have hbr6 := hbr5.trans (hb6.mono hbr5.size)
        have HO6 := Lib.hid (own_keep HO5.out hb6)
        have XT6 := Lib.hid (XP.out.below hb6 hxl)
        clear q0 q1 q2 v0 v1 XP hxl HO5 hb6 hbr5 hbw5 PXI PXJ
        have v0 := XT6.out.cell (i := 0) rfl
        have v1 := XT6.out.cell (i := 1) rfl
        have v2 := XT6.out.cell (i := 2) rfl
        have xtl := XT6.out.lt
        generalize pr.getD 0 = pv at *
        generalize pr.isSome = pb at *
        by_cases he : pv = mf
        · have dm : (pv != mf) = false := by simp [he]
          have PPI := Lib.hid (fun k hk g1 g2 => PPI.out he k hk g1 g2)
          clear PSI he
          go_wp2_with fail
          go_loopw [8] (fun u wr => ∃ k : Nat, k ≤ L.length ∧ u = .int .i64 k ∧ (∀ j, (hj : j < L.length) → k ≤ j → befT (ta, tb, mf) L[j]) ∧ Below W6.heap.size W6 wr) (fun u _ => (intOf u).toNat)
          case atStart => exact ⟨L.length, Nat.le_refl _, rfl, fun j hj h => by omega, Below.refl _ _⟩
          case round =>
            obtain ⟨k, hk, rfl, hge, hbq⟩ := hrel
            have HGE := Lib.hid hge
            have hbrq := hbr6.trans (hbq.mono hbr6.size)
            have HOQ := Lib.hid (own_keep HO6.out hbq)
            have XTQ := Lib.hid (XT6.out.below hbq xtl)
            clear hge v0 v1 v2
            by_cases hk0 : 0 < k
            · have dk : decide ((0 : Int) < (k : Int)) = true := by simp; omega
              obtain ⟨m, rfl⟩ : ∃ m, k = m + 1 := ⟨k - 1, by omega⟩
              have hm : m < L.length := by omega
              have hcp := own_le HOQ.out
              obtain ⟨g, rfl, hg, r0, r1, r2⟩ := tri_own HOQ.out hm
              have v0 := XTQ.out.cell (i := 0) rfl
              have v1 := XTQ.out.cell (i := 1) rfl
              have v2 := XTQ.out.cell (i := 2) rfl
              have xql := XTQ.out.lt
              have hgl := World.block_lt_of_cell? _ _ r0
              have BFX := Lib.hid (fun W => show Calls Tryz.prog 38 #[.agg #[.int .i64 ta, .int .i64 tb, .int .i64 mf], .agg #[.int .i64 L[m].1, .int .i64 L[m].2.1, .int .i64 L[m].2.2]] W (RetBool (befB (ta, tb, mf) L[m]) W) from before_any (ta, tb, mf) L[m] W)
              have HYES := Lib.hid (fun (h : befB (ta, tb, mf) L[m] = true) => show ∀ j, (hj : j < L.length) → m ≤ j → befT (ta, tb, mf) L[j] from fun j hj hmj => by
                rcases Nat.eq_or_lt_of_le hmj with e | e
                · subst e; exact befB_iff.1 h
                · exact HGE.out j hj e)
              have HNO := Lib.hid (fun (h : befB (ta, tb, mf) L[m] = false) => show m + 1 = 0 ∨ ∃ hj : m + 1 - 1 < L.length, ¬ befT (ta, tb, mf) L[m + 1 - 1] from .inr ⟨hm, befB_no.1 h⟩)
              have i1 : IntKind.i64.wrap (m : Int) = (m : Int) := IntWalk.i64_in _ (by omega)
              generalize L[m] = Lm at *
              generalize befB (ta, tb, mf) Lm = bb at *
              have SH := Lib.hid (fun W' (hb' : Below wr.heap.size wr W') => show W'.cell? ⟨w4.heap.size, 0, none⟩ = some (.int .i64 ta) ∧ W'.cell? ⟨w4.heap.size, 1, none⟩ = some (.int .i64 tb) ∧ W'.cell? ⟨w4.heap.size, 2, none⟩ = some (.int .i64 mf) ∧ W'.cell? ⟨g, m * 3, none⟩ = some (.int .i64 Lm.1) ∧ W'.cell? ⟨g, m * 3 + 1, none⟩ = some (.int .i64 Lm.2.1) ∧ W'.cell? ⟨g, m * 3 + 2, none⟩ = some (.int .i64 Lm.2.2) ∧ Below wr.heap.size wr W' from ⟨(hb'.cell xql).trans v0, (hb'.cell xql).trans v1, (hb'.cell xql).trans v2, (hb'.cell (World.block_lt_of_cell? _ _ r0)).trans r0, (hb'.cell (World.block_lt_of_cell? _ _ r1)).trans r1, (hb'.cell (World.block_lt_of_cell? _ _ r2)).trans r2, hb'⟩)
              have BF := Lib.hid (fun W (hb' : Below wr.heap.size wr W) => (BFX.out W).mono (R' := fun e W' => e = .returned (.bool bb) ∧ (W'.cell? ⟨w4.heap.size, 0, none⟩ = some (.int .i64 ta) ∧ W'.cell? ⟨w4.heap.size, 1, none⟩ = some (.int .i64 tb) ∧ W'.cell? ⟨w4.heap.size, 2, none⟩ = some (.int .i64 mf) ∧ W'.cell? ⟨g, m * 3, none⟩ = some (.int .i64 Lm.1) ∧ W'.cell? ⟨g, m * 3 + 1, none⟩ = some (.int .i64 Lm.2.1) ∧ W'.cell? ⟨g, m * 3 + 2, none⟩ = some (.int .i64 Lm.2.2) ∧ Below wr.heap.size wr W')) (fun e W' hh => ⟨hh.1, SH.out W' (hb'.trans (hh.2.mono hb'.size))⟩))
              clear v0 v1 v2 r0 r1 r2 BFX
              cases bb with
              | true =>
                have HY := Lib.hid (HYES.out rfl)
                clear HYES HNO
                go_wp2_with fail
                refine wp_region_held_drew (S := fun W' => W'.cell? ⟨w4.heap.size, 0, none⟩ = some (.int .i64 ta) ∧ W'.cell? ⟨w4.heap.size, 1, none⟩ = some (.int .i64 tb) ∧ W'.cell? ⟨w4.heap.size, 2, none⟩ = some (.int .i64 mf) ∧ W'.cell? ⟨g, m * 3, none⟩ = some (.int .i64 Lm.1) ∧ W'.cell? ⟨g, m * 3 + 1, none⟩ = some (.int .i64 Lm.2.1) ∧ W'.cell? ⟨g, m * 3 + 2, none⟩ = some (.int .i64 Lm.2.2) ∧ Below wr.heap.size wr W') (by kernel_rfl) (SH.out _ ((Below.refl _ _).drew)) (fun hHeld => ?_)
                refine anyH_take (i := 0) (v := ?_) (some 61) rfl rfl (by kernel_rfl) (by kernel_rfl) (by kernel_rfl) (fun _ _ _ h => h) (by rfl) (by assumption) ?_ ?_
                rotate_left
                · intro w hSw; (try dsimp only at hSw); go_split_ands; go_simp; try (with_reducible rfl)
                try simp only [Act.put, List.setIfInBounds_toArray, List.set_cons_zero, List.set_cons_succ]
                refine anyH_take (i := 1) (v := ?_) (some 62) rfl rfl (by kernel_rfl) (by kernel_rfl) (by kernel_rfl) (fun _ _ _ h => h) (by rfl) (by assumption) ?_ ?_
                rotate_left
                · intro w hSw; (try dsimp only at hSw); go_split_ands; go_simp; try (with_reducible rfl)
                try simp only [Act.put, List.setIfInBounds_toArray, List.set_cons_zero, List.set_cons_succ]
                refine anyH_take (i := 2) (v := ?_) (some 63) rfl rfl (by kernel_rfl) (by kernel_rfl) (by kernel_rfl) (fun _ _ _ h => h) (by rfl) (by assumption) ?_ ?_
                rotate_left
                · intro w hSw; (try dsimp only at hSw); go_split_ands; go_simp; try (with_reducible rfl)
                try simp only [Act.put, List.setIfInBounds_toArray, List.set_cons_zero, List.set_cons_succ]
                refine anyH_take (i := 3) (v := ?_) (some 64) rfl rfl (by kernel_rfl) (by kernel_rfl) (by kernel_rfl) (fun _ _ _ h => h) (by rfl) (by assumption) ?_ ?_
                rotate_left
                · intro w hSw; (try dsimp only at hSw); go_split_ands; go_simp; try (with_reducible rfl)
                try simp only [Act.put, List.setIfInBounds_toArray, List.set_cons_zero, List.set_cons_succ]
                refine anyH_take (i := 4) (v := ?_) (some 65) rfl rfl (by kernel_rfl) (by kernel_rfl) (by kernel_rfl) (fun _ _ _ h => h) (by rfl) (by assumption) ?_ ?_
                rotate_left
                · intro w hSw; (try dsimp only at hSw); go_split_ands; go_simp; try (with_reducible rfl)
                try simp only [Act.put, List.setIfInBounds_toArray, List.set_cons_zero, List.set_cons_succ]
                refine anyH_take (i := 5) (v := ?_) (some 66) rfl rfl (by kernel_rfl) (by kernel_rfl) (by kernel_rfl) (fun _ _ _ h => h) (by rfl) (by assumption) ?_ ?_
                rotate_left
                · intro w hSw; (try dsimp only at hSw); go_split_ands; go_simp; try (with_reducible rfl)
                try simp only [Act.put, List.setIfInBounds_toArray, List.set_cons_zero, List.set_cons_succ]
                refine anyH_take (i := 6) (v := ?_) (some 67) rfl rfl (by kernel_rfl) (by kernel_rfl) (by kernel_rfl) (fun _ _ _ h => h) (by rfl) (by assumption) ?_ ?_
                rotate_left
                · intro w hSw; (try dsimp only at hSw); go_split_ands; go_simp; try (with_reducible rfl)
                try simp only [Act.put, List.setIfInBounds_toArray, List.set_cons_zero, List.set_cons_succ]
                refine anyH_take (i := 7) (v := ?_) (some 68) rfl rfl (by kernel_rfl) (by kernel_rfl) (by kernel_rfl) (fun _ _ _ h => h) (by rfl) (by assumption) ?_ ?_
                rotate_left
                · intro w hSw; (try dsimp only at hSw); go_split_ands; go_simp; try (with_reducible rfl)
                try simp only [Act.put, List.setIfInBounds_toArray, List.set_cons_zero, List.set_cons_succ]
                refine anyH_take (i := 8) (v := ?_) (some 69) rfl rfl (by kernel_rfl) (by kernel_rfl) (by kernel_rfl) (fun _ _ _ h => h) (by rfl) (by assumption) ?_ ?_
                rotate_left
                · intro w hSw; (try dsimp only at hSw); go_split_ands; go_simp; try (with_reducible rfl)
                try simp only [Act.put, List.setIfInBounds_toArray, List.set_cons_zero, List.set_cons_succ]
                refine anyH_call (i := 9) (some 70) rfl rfl (by kernel_rfl) (by rfl) (by go_simp) (BF.out _ hHeld.2.2.2.2.2.2) (fun W9 hS6 => ?_)
                clear hHeld
                have hHeld := hS6
                clear hS6
                try simp only [Act.put, List.setIfInBounds_toArray, List.set_cons_zero, List.set_cons_succ]
                refine anyH_take (i := 10) (v := ?_) (some 71) rfl rfl (by kernel_rfl) (by kernel_rfl) (by kernel_rfl) (fun _ _ _ h => h) (by rfl) (by assumption) ?_ ?_
                rotate_left
                · intro w hSw; (try dsimp only at hSw); go_split_ands; go_simp; try (with_reducible rfl)
                try simp only [Act.put, List.setIfInBounds_toArray, List.set_cons_zero, List.set_cons_succ]
                refine wpAnyH_done (by kernel_rfl) ?_ _
                have hbz := hbq.trans (hHeld.2.2.2.2.2.2.mono hbq.size)
                clear hHeld SH BF
                go_wp2_with fail
                go_roundw
                case rel => exact ⟨m, by omega, by go_num, HY.out, hbz⟩
                case measure => simp [intOf]
              | false =>
                have HLE := Lib.hid (HNO.out rfl)
                clear HYES HNO
                go_wp2_with fail
                refine wp_region_held_drew (S := fun W' => W'.cell? ⟨w4.heap.size, 0, none⟩ = some (.int .i64 ta) ∧ W'.cell? ⟨w4.heap.size, 1, none⟩ = some (.int .i64 tb) ∧ W'.cell? ⟨w4.heap.size, 2, none⟩ = some (.int .i64 mf) ∧ W'.cell? ⟨g, m * 3, none⟩ = some (.int .i64 Lm.1) ∧ W'.cell? ⟨g, m * 3 + 1, none⟩ = some (.int .i64 Lm.2.1) ∧ W'.cell? ⟨g, m * 3 + 2, none⟩ = some (.int .i64 Lm.2.2) ∧ Below wr.heap.size wr W') (by kernel_rfl) (SH.out _ ((Below.refl _ _).drew)) (fun hHeld => ?_)
                refine anyH_take (i := 0) (v := ?_) (some 61) rfl rfl (by kernel_rfl) (by kernel_rfl) (by kernel_rfl) (fun _ _ _ h => h) (by rfl) (by assumption) ?_ ?_
                rotate_left
                · intro w hSw; (try dsimp only at hSw); go_split_ands; go_simp; try (with_reducible rfl)
                try simp only [Act.put, List.setIfInBounds_toArray, List.set_cons_zero, List.set_cons_succ]
                refine anyH_take (i := 1) (v := ?_) (some 62) rfl rfl (by kernel_rfl) (by kernel_rfl) (by kernel_rfl) (fun _ _ _ h => h) (by rfl) (by assumption) ?_ ?_
                rotate_left
                · intro w hSw; (try dsimp only at hSw); go_split_ands; go_simp; try (with_reducible rfl)
                try simp only [Act.put, List.setIfInBounds_toArray, List.set_cons_zero, List.set_cons_succ]
                refine anyH_take (i := 2) (v := ?_) (some 63) rfl rfl (by kernel_rfl) (by kernel_rfl) (by kernel_rfl) (fun _ _ _ h => h) (by rfl) (by assumption) ?_ ?_
                rotate_left
                · intro w hSw; (try dsimp only at hSw); go_split_ands; go_simp; try (with_reducible rfl)
                try simp only [Act.put, List.setIfInBounds_toArray, List.set_cons_zero, List.set_cons_succ]
                refine anyH_take (i := 3) (v := ?_) (some 64) rfl rfl (by kernel_rfl) (by kernel_rfl) (by kernel_rfl) (fun _ _ _ h => h) (by rfl) (by assumption) ?_ ?_
                rotate_left
                · intro w hSw; (try dsimp only at hSw); go_split_ands; go_simp; try (with_reducible rfl)
                try simp only [Act.put, List.setIfInBounds_toArray, List.set_cons_zero, List.set_cons_succ]
                refine anyH_take (i := 4) (v := ?_) (some 65) rfl rfl (by kernel_rfl) (by kernel_rfl) (by kernel_rfl) (fun _ _ _ h => h) (by rfl) (by assumption) ?_ ?_
                rotate_left
                · intro w hSw; (try dsimp only at hSw); go_split_ands; go_simp; try (with_reducible rfl)
                try simp only [Act.put, List.setIfInBounds_toArray, List.set_cons_zero, List.set_cons_succ]
                refine anyH_take (i := 5) (v := ?_) (some 66) rfl rfl (by kernel_rfl) (by kernel_rfl) (by kernel_rfl) (fun _ _ _ h => h) (by rfl) (by assumption) ?_ ?_
                rotate_left
                · intro w hSw; (try dsimp only at hSw); go_split_ands; go_simp; try (with_reducible rfl)
                try simp only [Act.put, List.setIfInBounds_toArray, List.set_cons_zero, List.set_cons_succ]
                refine anyH_take (i := 6) (v := ?_) (some 67) rfl rfl (by kernel_rfl) (by kernel_rfl) (by kernel_rfl) (fun _ _ _ h => h) (by rfl) (by assumption) ?_ ?_
                rotate_left
                · intro w hSw; (try dsimp only at hSw); go_split_ands; go_simp; try (with_reducible rfl)
                try simp only [Act.put, List.setIfInBounds_toArray, List.set_cons_zero, List.set_cons_succ]
                refine anyH_take (i := 7) (v := ?_) (some 68) rfl rfl (by kernel_rfl) (by kernel_rfl) (by kernel_rfl) (fun _ _ _ h => h) (by rfl) (by assumption) ?_ ?_
                rotate_left
                · intro w hSw; (try dsimp only at hSw); go_split_ands; go_simp; try (with_reducible rfl)
                try simp only [Act.put, List.setIfInBounds_toArray, List.set_cons_zero, List.set_cons_succ]
                refine anyH_take (i := 8) (v := ?_) (some 69) rfl rfl (by kernel_rfl) (by kernel_rfl) (by kernel_rfl) (fun _ _ _ h => h) (by rfl) (by assumption) ?_ ?_
                rotate_left
                · intro w hSw; (try dsimp only at hSw); go_split_ands; go_simp; try (with_reducible rfl)
                try simp only [Act.put, List.setIfInBounds_toArray, List.set_cons_zero, List.set_cons_succ]
                refine anyH_call (i := 9) (some 70) rfl rfl (by kernel_rfl) (by rfl) (by go_simp) (BF.out _ hHeld.2.2.2.2.2.2) (fun W9 hS6 => ?_)
                clear hHeld
                have hHeld := hS6
                clear hS6
                try simp only [Act.put, List.setIfInBounds_toArray, List.set_cons_zero, List.set_cons_succ]
                refine anyH_take (i := 10) (v := ?_) (some 71) rfl rfl (by kernel_rfl) (by kernel_rfl) (by kernel_rfl) (fun _ _ _ h => h) (by rfl) (by assumption) ?_ ?_
                rotate_left
                · intro w hSw; (try dsimp only at hSw); go_split_ands; go_simp; try (with_reducible rfl)
                try simp only [Act.put, List.setIfInBounds_toArray, List.set_cons_zero, List.set_cons_succ]
                refine wpAnyH_done (by kernel_rfl) ?_ _
                have hbz := hHeld.2.2.2.2.2.2
                have hbr9 := hbrq.trans (hbz.mono hbrq.size)
                have HO9 := Lib.hid (own_keep HOQ.out hbz)
                have XT := Lib.hid (XTQ.out.below hbz xql)
                clear hHeld SH BF hbz
                have PPI := Lib.hid (fun k hk g1 g2 => PPI.out k hk g1 g2)
                have hcap := own_le HO9.out
                have rc1 : ∀ W, (Instr.sliceAt 34 (.slice (some ⟨g, 0, none⟩) L.length c) none (some (.int .i64 ((m : Int) + 1))) none).run Tryz.prog W = .ok (.slice (subA3 (some ⟨g, 0, none⟩) c 0) (m + 1) c) W := fun W => run_cutTo3 (some ⟨g, 0, none⟩) L.length c (m + 1) (by omega) W
                have rc2 : ∀ W, (Instr.sliceAt 34 (.slice (some ⟨g, 0, none⟩) L.length c) (some (.int .i64 ((m : Int) + 1))) none none).run Tryz.prog W = .ok (.slice (subA3 (some ⟨g, 0, none⟩) c (m + 1)) (L.length - (m + 1)) (c - (m + 1))) W := fun W => run_cutFrom3 (some ⟨g, 0, none⟩) L.length c (m + 1) (by omega) W
                have HS9 := Sl.of_own HO9.out
                have HT1 := Lib.hid (Tri.to HS9 (m + 1) hcap)
                have HT2 := Lib.hid (Tri.from HS9 (lo := (m + 1)) hcap)
                have ht1 : ((L.take (m + 1)).flatMap encT).length = (m + 1) * 3 := by rw [flatT_len, List.length_take]; congr 1; omega
                have ht2 : ((L.drop (m + 1)).flatMap encT).length = (L.length - (m + 1)) * 3 := by rw [flatT_len, List.length_drop]
                have HD1 := Lib.hid ht1; have HD2 := Lib.hid ht2
                clear ht1 ht2 HS9
                have t0 := XT.out.cell (i := 0) rfl
                have t1 := XT.out.cell (i := 1) rfl
                have t2 := XT.out.cell (i := 2) rfl
                have tlt := XT.out.lt
                go_wp2_with (first | (at_builtin; refine wpList_app0 _ _ 34 36 (.agg #[.int .i64 0, .int .i64 0, .int .i64 0]) 3 24 rfl rfl Tryz.underlying34 info_tri rfl (by decide) (by decide) rfl rfl HT1.out HD1.out (one_tri _) (by omega) ?_; intro B91 d91 w91 hown91 hd91 hb91; have t0' := (hb91.cell tlt).trans t0; have t1' := (hb91.cell tlt).trans t1; have t2' := (hb91.cell tlt).trans t2; have hal1 : Below W9.heap.size W9 (w91.alloc (.cells #[.int .i64 ta, .int .i64 tb, .int .i64 mf] 36)) := hb91.alloc hb91.size _) | (at_builtin; refine wpList_app _ _ 34 36 (.agg #[.int .i64 0, .int .i64 0, .int .i64 0]) 3 24 rfl rfl Tryz.underlying34 info_tri rfl (by decide) (by decide) rfl (own_keep hown91 ((Below.refl _ _).alloc (Nat.le_refl _) _)) rfl (Sl_new w91 [.int .i64 ta, .int .i64 tb, .int .i64 mf] 36 rfl) (by simp) (oneCell_ints [ta, tb, mf]) (by omega) (by have := hb91.size; simp; omega) ?_; intro B92 d92 w92 hown92 hd92 hb92 hg92 hB92; have hb92' := hal1.trans (hb92.mono (Nat.le_refl _)); have HT2' := Lib.hid (HT2.out.below hb92')) | (at_builtin; refine wpList_app _ _ 34 36 (.agg #[.int .i64 0, .int .i64 0, .int .i64 0]) 3 24 rfl rfl Tryz.underlying34 info_tri rfl (by decide) (by decide) rfl hown92 rfl HT2'.out HD2.out (one_tri _) (by omega) hb92'.size ?_; intro B93 d93 w93 hown93 hd93 hb93 hg93 hB93))
                have hb93' := hb92'.trans (hb93.mono (Nat.le_refl _))
                have hnum : (m + 1) + 1 + (L.length - (m + 1)) = (insT L (m + 1) (ta, tb, mf)).length := by rw [insT_len]; omega
                have hfl : (L.take (m + 1)).flatMap encT ++ [.int .i64 ta, .int .i64 tb, .int .i64 mf] ++ (L.drop (m + 1)).flatMap encT = (insT L (m + 1) (ta, tb, mf)).flatMap encT := by
                  unfold insT
                  rw [List.flatMap_append, List.flatMap_cons, List.append_assoc]
                  rfl
                rw [hfl, hnum] at hown93
                rw [hnum]
                have HOF := Lib.hid (own_down hown93 (b' := W3.heap.size) hbr9.size)
                have HPF := Lib.hid (PPI.out (m + 1) (by omega) HGE.out HLE.out)
                clear hown93 hfl
                go_roundw
                case rel => exact ⟨i + 1, _, B93, d93, by omega, by go_num, rfl, HPF.out, HOF.out, hbr9.trans (hb93'.mono hbr9.size)⟩
                case measure => simp [intOf]; omega
            · have dk : decide ((0 : Int) < (k : Int)) = false := by simp; omega
              have HLE := Lib.hid (show k = 0 ∨ ∃ hj : k - 1 < L.length, ¬ befT (ta, tb, mf) L[k - 1] from .inl (by omega))
              go_wp2_with fail
              go_quiet (fail)
              have hbz : Below wr.heap.size wr (wr.drewN nq) := below_drewN (Below.refl _ _) nq
              generalize wr.drewN nq = W9 at *
              have hbr9 := hbrq.trans (hbz.mono hbrq.size)
              have HO9 := Lib.hid (own_keep HOQ.out hbz)
              have XT := Lib.hid (XTQ.out.below hbz XTQ.out.lt)
              clear hbz
              have hcap := own_le HO9.out
              have rc1 : ∀ W, (Instr.sliceAt 34 (.slice S L.length c) none (some (.int .i64 (k : Int))) none).run Tryz.prog W = .ok (.slice (subA3 S c 0) k c) W := fun W => run_cutTo3 S L.length c k (by omega) W
              have rc2 : ∀ W, (Instr.sliceAt 34 (.slice S L.length c) (some (.int .i64 (k : Int))) none none).run Tryz.prog W = .ok (.slice (subA3 S c k) (L.length - k) (c - k)) W := fun W => run_cutFrom3 S L.length c k (by omega) W
              have HS9 := Sl.of_own HO9.out
              have HT1 := Lib.hid (Tri.to HS9 k hcap)
              have HT2 := Lib.hid (Tri.from HS9 (lo := k) hcap)
              have ht1 : ((L.take k).flatMap encT).length = k * 3 := by rw [flatT_len, List.length_take]; congr 1; omega
              have ht2 : ((L.drop k).flatMap encT).length = (L.length - k) * 3 := by rw [flatT_len, List.length_drop]
              have HD1 := Lib.hid ht1; have HD2 := Lib.hid ht2
              clear ht1 ht2 HS9
              have t0 := XT.out.cell (i := 0) rfl
              have t1 := XT.out.cell (i := 1) rfl
              have t2 := XT.out.cell (i := 2) rfl
              have tlt := XT.out.lt
              go_wp2_with (first | (at_builtin; refine wpList_app0 _ _ 34 36 (.agg #[.int .i64 0, .int .i64 0, .int .i64 0]) 3 24 rfl rfl Tryz.underlying34 info_tri rfl (by decide) (by decide) rfl rfl HT1.out HD1.out (one_tri _) (by omega) ?_; intro B91 d91 w91 hown91 hd91 hb91; have t0' := (hb91.cell tlt).trans t0; have t1' := (hb91.cell tlt).trans t1; have t2' := (hb91.cell tlt).trans t2; have hal1 : Below W9.heap.size W9 (w91.alloc (.cells #[.int .i64 ta, .int .i64 tb, .int .i64 mf] 36)) := hb91.alloc hb91.size _) | (at_builtin; refine wpList_app _ _ 34 36 (.agg #[.int .i64 0, .int .i64 0, .int .i64 0]) 3 24 rfl rfl Tryz.underlying34 info_tri rfl (by decide) (by decide) rfl (own_keep hown91 ((Below.refl _ _).alloc (Nat.le_refl _) _)) rfl (Sl_new w91 [.int .i64 ta, .int .i64 tb, .int .i64 mf] 36 rfl) (by simp) (oneCell_ints [ta, tb, mf]) (by omega) (by have := hb91.size; simp; omega) ?_; intro B92 d92 w92 hown92 hd92 hb92 hg92 hB92; have hb92' := hal1.trans (hb92.mono (Nat.le_refl _)); have HT2' := Lib.hid (HT2.out.below hb92')) | (at_builtin; refine wpList_app _ _ 34 36 (.agg #[.int .i64 0, .int .i64 0, .int .i64 0]) 3 24 rfl rfl Tryz.underlying34 info_tri rfl (by decide) (by decide) rfl hown92 rfl HT2'.out HD2.out (one_tri _) (by omega) hb92'.size ?_; intro B93 d93 w93 hown93 hd93 hb93 hg93 hB93))
              have hb93' := hb92'.trans (hb93.mono (Nat.le_refl _))
              have hnum : k + 1 + (L.length - k) = (insT L k (ta, tb, mf)).length := by rw [insT_len]; omega
              have hfl : (L.take k).flatMap encT ++ [.int .i64 ta, .int .i64 tb, .int .i64 mf] ++ (L.drop k).flatMap encT = (insT L k (ta, tb, mf)).flatMap encT := by
                unfold insT
                rw [List.flatMap_append, List.flatMap_cons, List.append_assoc]
                rfl
              rw [hfl, hnum] at hown93
              rw [hnum]
              have HOF := Lib.hid (own_down hown93 (b' := W3.heap.size) hbr9.size)
              have HPF := Lib.hid (PPI.out k (by omega) HGE.out HLE.out)
              clear hown93 hfl
              go_roundw
              case rel => exact ⟨i + 1, _, B93, d93, by omega, by go_num, rfl, HPF.out, HOF.out, hbr9.trans (hb93'.mono hbr9.size)⟩
              case measure => simp [intOf]; omega
        · have dm : (pv != mf) = true := by simp [he]
          have HPS := Lib.hid (PSI.out he)
          clear PSI PPI he
          go_wp2_with fail
          go_roundw
          case rel => exact ⟨i + 1, L, S, c, by omega, by go_num, rfl, HPS.out, HO6.out, hbr6⟩
          case measure => simp [intOf]; omega
    · obtain rfl : i = y.dec.length := by omega
      have hPD := PD.out L HPA.out
      have hcap := own_le HOWN.out
      have HSL := Lib.hid (own_down HOWN.out (b' := w.heap.size) hb4.size)
      go_wp2_with fail
      go_ret
      exact ⟨L, hPD, hLi, S, c, rfl, hcap, HSL.out, hbw⟩

end Go.Proofs.YtjglanjfgbipmaaGreatDoor
