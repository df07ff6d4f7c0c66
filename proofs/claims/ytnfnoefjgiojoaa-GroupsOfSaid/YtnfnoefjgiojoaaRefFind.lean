/- The contracts of the reference's Data, find and Find, for a valid collation. Written by gen_reffind.py. -/
import Derived.Test.YtnfnoefjgiojoaaFind
import Derived.Test.YtnfnoefjgiojoaaCompare
namespace Go.Proofs.Ytnfnoefjgiojoaa
open Go.RowKit Go.Maps Go.WideMaps

theorem results_data (tmps : Array Value) (w : World) {b : Nat} {v0 v1 : Value} {z0 z1 z2 : Int} (ha : tmps.getD 2 undef = .pointer (some ⟨b, 0, none⟩))
    (c0 : w.cell? ⟨b, 0, none⟩ = some v0) (c1 : w.cell? ⟨b, 1, none⟩ = some v1) (c2 : w.cell? ⟨b, 2, none⟩ = some (.int .i64 z0)) (c3 : w.cell? ⟨b, 3, none⟩ = some (.int .i64 z1)) (c4 : w.cell? ⟨b, 4, none⟩ = some (.int .i64 z2)) :
    (results Try.f68 tmps).run Try.prog w = .ok (.agg #[v0, v1, .int .i64 z0, .int .i64 z1, .int .i64 z2]) w := by
  have hr : Try.f68.results = #[.cell 2 25] := rfl
  unfold results
  rw [hr]
  simp only [ha, List.mapM_toArray, List.mapM_cons, List.mapM_nil, asAddr]
  go_simp

set_option maxRecDepth 100000 in
set_option maxHeartbeats 3200000 in
theorem data_ok (A : Option Addr) (n a : Nat) (B : Option Addr) (m b : Nat) (c : Col) (w : World) (h : ColAt w A n B m c) (hz : ColSz c) (he : colErr c = 0) :
    Calls Try.prog 68 #[colV A n a B m b c] w (fun e w' => e = .returned (colV A n a B m b c) ∧ Below w.heap.size w w') := by
  have B0 : Below w.heap.size w ((w.alloc (.cells #[.slice A n a, .slice B m b, .int .i64 c.base, .int .i64 c.second, .int .i64 c.third] 25)).alloc (.cells #[.slice none 0 0, .slice none 0 0, .int .i64 0, .int .i64 0, .int .i64 0] 25)) := ((Below.refl _ _).alloc (Nat.le_refl _) _).alloc (by simp) _
  have s0 : ((w.alloc (.cells #[.slice A n a, .slice B m b, .int .i64 c.base, .int .i64 c.second, .int .i64 c.third] 25)).alloc (.cells #[.slice none 0 0, .slice none 0 0, .int .i64 0, .int .i64 0, .int .i64 0] 25)).heap.size = w.heap.size + 2 := by simp
  have k0 : ((w.alloc (.cells #[.slice A n a, .slice B m b, .int .i64 c.base, .int .i64 c.second, .int .i64 c.third] 25)).alloc (.cells #[.slice none 0 0, .slice none 0 0, .int .i64 0, .int .i64 0, .int .i64 0] 25)).cell? ⟨w.heap.size, 0, none⟩ = some (.slice A n a) := by simp
  have k1 : ((w.alloc (.cells #[.slice A n a, .slice B m b, .int .i64 c.base, .int .i64 c.second, .int .i64 c.third] 25)).alloc (.cells #[.slice none 0 0, .slice none 0 0, .int .i64 0, .int .i64 0, .int .i64 0] 25)).cell? ⟨w.heap.size, 1, none⟩ = some (.slice B m b) := by simp
  have k2 : ((w.alloc (.cells #[.slice A n a, .slice B m b, .int .i64 c.base, .int .i64 c.second, .int .i64 c.third] 25)).alloc (.cells #[.slice none 0 0, .slice none 0 0, .int .i64 0, .int .i64 0, .int .i64 0] 25)).cell? ⟨w.heap.size, 2, none⟩ = some (.int .i64 c.base) := by simp
  have k3 : ((w.alloc (.cells #[.slice A n a, .slice B m b, .int .i64 c.base, .int .i64 c.second, .int .i64 c.third] 25)).alloc (.cells #[.slice none 0 0, .slice none 0 0, .int .i64 0, .int .i64 0, .int .i64 0] 25)).cell? ⟨w.heap.size, 3, none⟩ = some (.int .i64 c.second) := by simp
  have k4 : ((w.alloc (.cells #[.slice A n a, .slice B m b, .int .i64 c.base, .int .i64 c.second, .int .i64 c.third] 25)).alloc (.cells #[.slice none 0 0, .slice none 0 0, .int .i64 0, .int .i64 0, .int .i64 0] 25)).cell? ⟨w.heap.size, 4, none⟩ = some (.int .i64 c.third) := by simp
  have l0 : ((w.alloc (.cells #[.slice A n a, .slice B m b, .int .i64 c.base, .int .i64 c.second, .int .i64 c.third] 25)).alloc (.cells #[.slice none 0 0, .slice none 0 0, .int .i64 0, .int .i64 0, .int .i64 0] 25)).cell? ⟨w.heap.size + 1, 0, none⟩ = some (.slice none 0 0) := by simp
  have l1 : ((w.alloc (.cells #[.slice A n a, .slice B m b, .int .i64 c.base, .int .i64 c.second, .int .i64 c.third] 25)).alloc (.cells #[.slice none 0 0, .slice none 0 0, .int .i64 0, .int .i64 0, .int .i64 0] 25)).cell? ⟨w.heap.size + 1, 1, none⟩ = some (.slice none 0 0) := by simp
  have l2 : ((w.alloc (.cells #[.slice A n a, .slice B m b, .int .i64 c.base, .int .i64 c.second, .int .i64 c.third] 25)).alloc (.cells #[.slice none 0 0, .slice none 0 0, .int .i64 0, .int .i64 0, .int .i64 0] 25)).cell? ⟨w.heap.size + 1, 2, none⟩ = some (.int .i64 0) := by simp
  have l3 : ((w.alloc (.cells #[.slice A n a, .slice B m b, .int .i64 c.base, .int .i64 c.second, .int .i64 c.third] 25)).alloc (.cells #[.slice none 0 0, .slice none 0 0, .int .i64 0, .int .i64 0, .int .i64 0] 25)).cell? ⟨w.heap.size + 1, 3, none⟩ = some (.int .i64 0) := by simp
  have l4 : ((w.alloc (.cells #[.slice A n a, .slice B m b, .int .i64 c.base, .int .i64 c.second, .int .i64 c.third] 25)).alloc (.cells #[.slice none 0 0, .slice none 0 0, .int .i64 0, .int .i64 0, .int .i64 0] 25)).cell? ⟨w.heap.size + 1, 4, none⟩ = some (.int .i64 0) := by simp
  have lf : ∀ j, ((w.alloc (.cells #[.slice A n a, .slice B m b, .int .i64 c.base, .int .i64 c.second, .int .i64 c.third] 25)).alloc (.cells #[.slice none 0 0, .slice none 0 0, .int .i64 0, .int .i64 0, .int .i64 0] 25)).frozen? ⟨w.heap.size + 1, j, none⟩ = false := fun j => by simp
  have W0E : ∃ W0, ((w.alloc (.cells #[.slice A n a, .slice B m b, .int .i64 c.base, .int .i64 c.second, .int .i64 c.third] 25)).alloc (.cells #[.slice none 0 0, .slice none 0 0, .int .i64 0, .int .i64 0, .int .i64 0] 25)) = W0 := ⟨_, rfl⟩
  have CK := Lib.hid (fun W (hb : Below w.heap.size w W) => refColl_any A n a B m b c W (h.below hb) hz)
  have HER := Lib.hid he
  clear h hz he
  unfold colV at *
  go_enter Try.func68, Try.ntmps68
  go_wp2_with fail
  obtain ⟨W0, hW0⟩ := W0E
  rw [hW0] at B0 s0 k0 k1 k2 k3 k4 l0 l1 l2 l3 l4 lf ⊢
  clear hW0
  have hx0 : w.heap.size < W0.heap.size := by omega
  have hx1 : w.heap.size + 1 < W0.heap.size := by omega
  with_reducible refine (CK.out W0 B0).mono ?_
  rw [HER.out]
  rintro e W1 ⟨rfl, hb1⟩
  have hb2 := B0.trans (hb1.mono B0.size)
  have f0 := (hb1.cell (p := ⟨w.heap.size, 0, none⟩) hx0).trans k0
  have f1 := (hb1.cell (p := ⟨w.heap.size, 1, none⟩) hx0).trans k1
  have f2 := (hb1.cell (p := ⟨w.heap.size, 2, none⟩) hx0).trans k2
  have f3 := (hb1.cell (p := ⟨w.heap.size, 3, none⟩) hx0).trans k3
  have f4 := (hb1.cell (p := ⟨w.heap.size, 4, none⟩) hx0).trans k4
  have g0 := (hb1.cell (p := ⟨w.heap.size + 1, 0, none⟩) hx1).trans l0
  have g1 := (hb1.cell (p := ⟨w.heap.size + 1, 1, none⟩) hx1).trans l1
  have g2 := (hb1.cell (p := ⟨w.heap.size + 1, 2, none⟩) hx1).trans l2
  have g3 := (hb1.cell (p := ⟨w.heap.size + 1, 3, none⟩) hx1).trans l3
  have g4 := (hb1.cell (p := ⟨w.heap.size + 1, 4, none⟩) hx1).trans l4
  have hx2 : w.heap.size < W1.heap.size := by have := hb1.size; omega
  have hx3 : w.heap.size + 1 < W1.heap.size := by have := hb1.size; omega
  have z0 := (hb1.frozen (p := ⟨w.heap.size + 1, 0, none⟩) hx1).trans (lf 0)
  have z1 := (hb1.frozen (p := ⟨w.heap.size + 1, 1, none⟩) hx1).trans (lf 1)
  have z2 := (hb1.frozen (p := ⟨w.heap.size + 1, 2, none⟩) hx1).trans (lf 2)
  have z3 := (hb1.frozen (p := ⟨w.heap.size + 1, 3, none⟩) hx1).trans (lf 3)
  have z4 := (hb1.frozen (p := ⟨w.heap.size + 1, 4, none⟩) hx1).trans (lf 4)
  clear k0 k1 k2 k3 k4 l0 l1 l2 l3 l4 lf CK
  go_wp2_with fail
  (try simp only [Exit.inBlock, Exit.then]); refine bodyPost_ret (results_data _ _ (b := w.heap.size + 1) (v0 := .slice A n a) (v1 := .slice B m b) (z0 := c.base) (z1 := c.second) (z2 := c.third) rfl (by go_simp) (by go_simp) (by go_simp) (by go_simp) (by go_simp)) rfl ?_
  have hN1 : w.heap.size ≤ w.heap.size + 1 := by omega
  exact ⟨rfl, ((((hb2.setCell (p := ⟨w.heap.size + 1, 0, none⟩) hN1 _).setCell (p := ⟨w.heap.size + 1, 1, none⟩) hN1 _).setCell (p := ⟨w.heap.size + 1, 2, none⟩) hN1 _).setCell (p := ⟨w.heap.size + 1, 3, none⟩) hN1 _).setCell (p := ⟨w.heap.size + 1, 4, none⟩) hN1 _⟩

/-- the elements of the first entry with these codes -/
def firstE (es : List Ent) (zs : List Int) : Option (List Elt) := (es.find? (fun x => decide (x.codes = zs))).map Ent.elems
theorem firstE_at {es : List Ent} {zs : List Int} {k : Nat} (hk : k < es.length) (h : es[k].codes = zs) (hb : ∀ t, (ht : t < es.length) → t < k → es[t].codes ≠ zs) : firstE es zs = some es[k].elems := by
  unfold firstE
  rw [List.find?_eq_some_iff_getElem.2 ⟨by simpa using h, k, hk, rfl, fun j hj => by simp [hb j (by omega) hj]⟩]
  rfl
theorem firstE_none {es : List Ent} {zs : List Int} (h : ∀ t, (ht : t < es.length) → es[t].codes ≠ zs) : firstE es zs = none := by
  unfold firstE
  rw [List.find?_eq_none.2]
  · rfl
  · intro x hx
    obtain ⟨t, ht, rfl⟩ := List.getElem_of_mem hx
    simp [h t ht]

set_option maxRecDepth 100000 in
set_option maxHeartbeats 3200000 in
theorem refFind1_any (A : Option Addr) (n a : Nat) (B : Option Addr) (m b : Nat) (c : Col) (C : Option Addr) (kn kc : Nat) (zs : List Int) (w : World) (h : ColAt w A n B m c) (hz : ColSz c)
    (hC : Ints w C zs) (hkn : zs.length = kn) (hk2 : kn ≤ 1048576) :
    Calls Try.prog 67 #[colV A n a B m b c, .slice C kn kc] w (RetFind (firstE c.ents zs) w) := by
  have B0 : Below w.heap.size w (w.alloc (.cells #[.slice A n a, .slice B m b, .int .i64 c.base, .int .i64 c.second, .int .i64 c.third] 25)) := (Below.refl _ _).alloc (Nat.le_refl _) _
  have k0 : (w.alloc (.cells #[.slice A n a, .slice B m b, .int .i64 c.base, .int .i64 c.second, .int .i64 c.third] 25)).cell? ⟨w.heap.size, 0, none⟩ = some (.slice A n a) := by simp
  have s0 : (w.alloc (.cells #[.slice A n a, .slice B m b, .int .i64 c.base, .int .i64 c.second, .int .i64 c.third] 25)).heap.size = w.heap.size + 1 := by simp
  have W0E : ∃ W0, (w.alloc (.cells #[.slice A n a, .slice B m b, .int .i64 c.base, .int .i64 c.second, .int .i64 c.third] 25)) = W0 := ⟨_, rfl⟩
  have HE := Lib.hid h.ents
  have HC := Lib.hid hC
  have hn := h.hn
  have hnz := hz.n
  have HZ := Lib.hid hz.e
  have F1 := Lib.hid (fun k hk hh hb => firstE_at (es := c.ents) (zs := zs) (k := k) hk hh hb)
  have F0 := Lib.hid (firstE_none (es := c.ents) (zs := zs))
  clear h hz hC
  unfold colV at *
  generalize firstE c.ents zs = r at *
  generalize c.ents = es at *
  subst hn
  subst hkn
  go_enter Try.func67, Try.ntmps67
  go_wp2_with fail
  obtain ⟨W0, hW0⟩ := W0E
  rw [hW0] at B0 s0 k0 ⊢
  clear hW0
  have hx0 : w.heap.size < W0.heap.size := by omega
  go_loopw [6] (fun u wr => ∃ i : Nat, i ≤ es.length ∧ u = .int .i64 i ∧ (∀ t, (ht : t < es.length) → t < i → es[t].codes ≠ zs) ∧ Below W0.heap.size W0 wr) (fun u _ => es.length - (intOf u).toNat)
  case atStart => exact ⟨0, Nat.zero_le _, rfl, fun t _ h => by omega, Below.refl _ _⟩
  case round =>
    obtain ⟨i, hi, rfl, hne, hbr⟩ := hrel
    have HNE := Lib.hid hne; clear hne
    have f0 := (hbr.cell (p := ⟨w.heap.size, 0, none⟩) hx0).trans k0
    have hx1 : w.heap.size < wr.heap.size := by have := hbr.size; omega
    have hb2 := B0.trans (hbr.mono B0.size)
    by_cases hlt : i < es.length
    · obtain ⟨b1, o1, rfl, hbl, hcell⟩ := (HE.out.below hb2).at hlt
      obtain ⟨D, cc, E, dd, c1, c2, hD, hE⟩ := hcell i hlt
      obtain ⟨z1, z2⟩ := HZ.out i hlt
      have HEL := Lib.hid hE
      have EQ := Lib.hid (Equal_any D C _ zs.length cc kc es[i].codes zs wr hD (HC.out.below hb2) rfl rfl (by omega) (by omega))
      have FY := Lib.hid (fun hh => F1.out i hlt hh HNE.out)
      have FN := Lib.hid (fun hh => all_up (P := fun x => x.codes ≠ zs) hlt HNE.out hh)
      have hii : (i : Int) < (es.length : Int) := by omega
      clear hcell hD hE
      generalize es[i].codes = cds at *
      generalize es[i].elems = els at *
      go_wp2_with fail
      with_reducible refine EQ.out.mono ?_
      rintro e w1 ⟨rfl, hq⟩
      have hbq := hbr.trans (hq.below.mono hbr.size)
      have g0 := (hbq.cell (p := ⟨w.heap.size, 0, none⟩) hx0).trans k0
      have g2 := (hq.below.cell (p := ⟨b1, o1 + i * 2 + 1, none⟩) hbl).trans c2
      have hx2 : w.heap.size < w1.heap.size := by have := hbq.size; omega
      have hx5 : b1 < w1.heap.size := by have := hq.below.size; omega
      clear EQ
      by_cases hcz : cds = zs
      · have q1 : decide (cds = zs) = true := by simpa using hcz
        obtain rfl := FY.out hcz
        have HEL1 := Lib.hid (HEL.out.below hq.below)
        clear FY FN F1 F0 hcz
        generalize decide (cds = zs) = dz at *
        subst q1
        have hB9 : Below W0.heap.size W0 (w1.alloc (.cells #[] 51)) := hbq.alloc hbq.size _
        have f9 := (hB9.cell (p := ⟨w.heap.size, 0, none⟩) hx0).trans k0
        go_wp2_with (at_builtin; refine wpList_app _ _ 47 51 (.agg #[.int .i64 0, .int .i64 0, .int .i64 0, .bool false]) 4 32 rfl rfl Try.underlying47 info_elt rfl (by decide) (by decide) rfl (own_new [] 51 4 0 w1.heap.size rfl rfl (Nat.le_refl _) (by omega)) rfl (Sl.alloc HEL1.out _) (flatK_len Elt.cells 4 (fun _ => rfl) els) (oneCell_elts _) (by omega) (by simp) ?_; intro A1 c1 w9 hown1 hc1 hb9 _ _; simp only [Nat.zero_add, List.nil_append] at hown1 hc1; have HOWN := Lib.hid hown1; clear hown1)
        go_ret2
        refine ⟨A1, c1, ?_, Sl.of_own HOWN.out, (B0.trans (hB9.mono B0.size)).trans (hb9.mono (by omega))⟩
        simp
      · have q1 : decide (cds = zs) = false := by simpa using hcz
        have HN := Lib.hid (FN.out hcz)
        clear FY FN hcz
        generalize decide (cds = zs) = dz at *
        subst q1
        go_wp2_with fail
        go_roundw
        case rel => exact ⟨i + 1, by omega, by go_num, HN.out, hbq⟩
        case measure => simp [intOf]; omega
    · obtain rfl := F0.out (fun t ht => HNE.out t ht (by omega))
      go_wp2_with fail
      go_ret2
      exact ⟨none, 0, rfl, Sl.nil _ _, hb2⟩

set_option maxRecDepth 100000 in
set_option maxHeartbeats 3200000 in
theorem refFind_ok (A : Option Addr) (n a : Nat) (B : Option Addr) (m b : Nat) (c : Col) (C : Option Addr) (kn kc : Nat) (zs : List Int) (w : World) (h : ColAt w A n B m c) (hz : ColSz c) (he : colErr c = 0)
    (hC : Ints w C zs) (hkn : zs.length = kn) (hk2 : kn ≤ 1048576) :
    Calls Try.prog 58 #[colV A n a B m b c, .slice C kn kc] w (RetFind (firstE c.ents zs) w) := by
  have B0 : Below w.heap.size w (w.alloc (.cells #[.slice A n a, .slice B m b, .int .i64 c.base, .int .i64 c.second, .int .i64 c.third] 25)) := (Below.refl _ _).alloc (Nat.le_refl _) _
  have k0 : (w.alloc (.cells #[.slice A n a, .slice B m b, .int .i64 c.base, .int .i64 c.second, .int .i64 c.third] 25)).cell? ⟨w.heap.size, 0, none⟩ = some (.slice A n a) := by simp
  have k1 : (w.alloc (.cells #[.slice A n a, .slice B m b, .int .i64 c.base, .int .i64 c.second, .int .i64 c.third] 25)).cell? ⟨w.heap.size, 1, none⟩ = some (.slice B m b) := by simp
  have k2 : (w.alloc (.cells #[.slice A n a, .slice B m b, .int .i64 c.base, .int .i64 c.second, .int .i64 c.third] 25)).cell? ⟨w.heap.size, 2, none⟩ = some (.int .i64 c.base) := by simp
  have k3 : (w.alloc (.cells #[.slice A n a, .slice B m b, .int .i64 c.base, .int .i64 c.second, .int .i64 c.third] 25)).cell? ⟨w.heap.size, 3, none⟩ = some (.int .i64 c.second) := by simp
  have k4 : (w.alloc (.cells #[.slice A n a, .slice B m b, .int .i64 c.base, .int .i64 c.second, .int .i64 c.third] 25)).cell? ⟨w.heap.size, 4, none⟩ = some (.int .i64 c.third) := by simp
  have W0E : ∃ W0, (w.alloc (.cells #[.slice A n a, .slice B m b, .int .i64 c.base, .int .i64 c.second, .int .i64 c.third] 25)) = W0 := ⟨_, rfl⟩
  have DC := Lib.hid (fun W (hb : Below w.heap.size w W) => data_ok A n a B m b c W (h.below hb) hz he)
  have FC := Lib.hid (fun W (hb : Below w.heap.size w W) => refFind1_any A n a B m b c C kn kc zs W (h.below hb) hz (hC.below hb) hkn hk2)
  clear h hz he hC
  unfold colV at *
  generalize firstE c.ents zs = r at *
  go_enter Try.func58, Try.ntmps58
  go_wp2_with fail
  obtain ⟨W0, hW0⟩ := W0E
  rw [hW0] at B0 k0 k1 k2 k3 k4 ⊢
  clear hW0
  with_reducible refine (DC.out W0 B0).mono ?_
  rintro e W1 ⟨rfl, hb1⟩
  have hb2 := B0.trans (hb1.mono B0.size)
  clear DC k0 k1 k2 k3 k4
  go_wp2_with fail
  with_reducible refine (FC.out W1 hb2).mono ?_
  rintro e W2 ⟨E, d, rfl, hE, hb3⟩
  have HEL := Lib.hid hE
  clear FC hE
  go_wp2_with fail
  go_ret2
  exact ⟨E, d, rfl, HEL.out, hb2.trans (hb3.mono hb2.size)⟩

end Go.Proofs.Ytnfnoefjgiojoaa
