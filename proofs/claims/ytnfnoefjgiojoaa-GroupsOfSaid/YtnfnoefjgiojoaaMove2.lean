/- The contracts of groups.Move and of the reference's Move. -/
import Derived.Test.YtnfnoefjgiojoaaMover
namespace Go.Proofs.Ytnfnoefjgiojoaa
open Go.RowKit Go.Maps Go.WideMaps

structure OrdF (gs : List Grp) (names : List ByteArray) : Prop where
  nd : (gnames gs).Nodup
  nn : names.Nodup
  sub : ∀ s ∈ names, s ∈ gnames gs
  bd : ∀ g ∈ gs, 1 ≤ g.lo ∧ g.lo ≤ g.hi ∧ g.hi < 65502
theorem ordF {c : Col} {names : List ByteArray} (h : ordErr c names = 0) : OrdF c.grps names := by
  unfold ordErr at h
  split at h
  · rename_i h0; exact absurd h h0
  · rename_i h0
    split at h
    · omega
    · rename_i h1
      split at h
      · omega
      · rename_i h2
        obtain ⟨b1, b2, b3⟩ := col_ok (by simpa using h0)
        obtain ⟨d1, d2⟩ := grp_ok b3
        exact ⟨d1, by simpa using h2, by simpa using h1, fun g hg => by have := d2 g hg; omega⟩
section
variable {gs : List Grp} {names : List ByteArray}
theorem OrdF.nodup (h : OrdF gs names) : (gnames (ordG gs names)).Nodup := ord_nodup h.nd h.nn h.sub
theorem OrdF.len (h : OrdF gs names) : (ordG gs names).length = gs.length := by unfold ordG; rw [relo_len, raw_len h.nd h.nn h.sub]
theorem OrdF.lo0 (h : OrdF gs names) : 0 ≤ firstLo gs ∧ firstLo gs < 65502 := by
  cases gs with
  | nil => simp [firstLo]
  | cons g r => have := h.bd g (List.mem_cons_self ..); simp only [firstLo]; omega
theorem OrdF.tb (h : OrdF gs names) (hl : gs.length ≤ 19) : ∀ g ∈ ordG gs names, 0 ≤ g.lo ∧ g.lo ≤ g.hi ∧ g.hi ≤ 2000000 := by
  intro g hg
  have h1 := relo_bd (firstLo gs) (ordRaw gs names) (fun x hx => h.bd x (raw_mem h.sub hx)) g hg
  rw [raw_len h.nd h.nn h.sub] at h1
  have := h.lo0
  omega
theorem OrdF.sz (h : OrdF gs names) (hs : ∀ g ∈ gs, g.name.size ≤ 9223372036854775807) : ∀ g ∈ ordG gs names, g.name.size ≤ 9223372036854775807 := by
  intro g hg
  have h1 : g.name ∈ gnames (ordG gs names) := List.mem_map.2 ⟨g, hg, rfl⟩
  rw [ord_mem h.sub] at h1
  obtain ⟨y, hy, he⟩ := List.mem_map.1 h1
  rw [← he]; exact hs y hy
theorem OrdF.mem (h : OrdF gs names) : ∀ g ∈ gs, g.name ∈ gnames (ordG gs names) := fun g hg => (ord_mem h.sub).2 (List.mem_map.2 ⟨g, hg, rfl⟩)
end

set_option maxRecDepth 100000 in
set_option maxHeartbeats 3200000 in
theorem Move_any (A : Option Addr) (n a : Nat) (B : Option Addr) (m b : Nat) (c : Col) (N : Option Addr) (kn kc : Nat) (names : List ByteArray) (x : Int) (w : World) (h : ColAt w A n B m c) (hz : ColSz c) (hm8 : m ≤ 19)
    (hN : Strs w N names) (hkn : names.length = kn) (hk12 : kn ≤ 1048576) (hns : ∀ s ∈ names, s.size ≤ 9223372036854775807) :
    Calls Try.prog 16 #[colV A n a B m b c, .slice N kn kc, .int .i64 x] w (RetI (mov c names x) w) := by
  have B0 : Below w.heap.size w (w.alloc (.cells #[.slice A n a, .slice B m b, .int .i64 c.base, .int .i64 c.second, .int .i64 c.third] 25)) := (Below.refl _ _).alloc (Nat.le_refl _) _
  have k1 : (w.alloc (.cells #[.slice A n a, .slice B m b, .int .i64 c.base, .int .i64 c.second, .int .i64 c.third] 25)).cell? ⟨w.heap.size, 1, none⟩ = some (.slice B m b) := by simp
  have s0 : (w.alloc (.cells #[.slice A n a, .slice B m b, .int .i64 c.base, .int .i64 c.second, .int .i64 c.third] 25)).heap.size = w.heap.size + 1 := by simp
  have W0E : ∃ W0, w.alloc (.cells #[.slice A n a, .slice B m b, .int .i64 c.base, .int .i64 c.second, .int .i64 c.third] 25) = W0 := ⟨_, rfl⟩
  have OC := Lib.hid (fun W (hb : Below w.heap.size w W) => Order_any A n a B m b c N kn kc names W (h.below hb) hz hm8 (hN.below hb) hkn hk12 hns)
  have HF := Lib.hid (ordF (c := c) (names := names))
  have HG := Lib.hid h.grps
  have HM := Lib.hid h.hm
  have HSZ := Lib.hid h.hs
  have M1 := Lib.hid (fun (he : ordErr c names = 0) => show mov c names x = movF c.grps (ordG c.grps names) x by unfold mov; rw [if_pos he])
  have M0 := Lib.hid (fun (he : ¬ ordErr c names = 0) => show mov c names x = x by unfold mov; rw [if_neg he])
  have OUT1 := Lib.hid (fun (h : ordErr c names = 0) => show ordOut c names = ordG c.grps names by unfold ordOut; rw [if_pos h])
  unfold colV at *
  clear h hz hN hns
  go_enter Try.func16, Try.ntmps16
  go_wp2_with fail
  obtain ⟨W0, hW0⟩ := W0E
  rw [hW0] at B0 s0 k1 ⊢
  clear hW0
  refine (OC.out W0 B0).mono ?_
  rintro e W1 ⟨A1, c1, rfl, hc1, hG1, hb1⟩
  clear OC
  have hb2 := B0.trans (hb1.mono B0.size)
  by_cases he : ordErr c names = 0
  · have hf := HF.out he
    have HMX := Lib.hid (M1.out he)
    rw [OUT1.out he] at hG1 hc1 ⊢
    have q1 : (ordErr c names != 0) = false := by simpa using he
    have hlen := hf.len
    have f1 := (hb1.cell (p := ⟨w.heap.size, 1, none⟩) (by show w.heap.size < _; omega)).trans k1
    have hm := HM.out
    have MV := Lib.hid (mover_any B m b c.grps A1 (ordG c.grps names).length c1 (ordG c.grps names) W1 (HG.out.below hb2) hm hG1 rfl (by omega) hf.nodup (hf.sz HSZ.out))
    have M1C := Lib.hid (fun f p V W hv => mover1_any f p V c.grps (ordG c.grps names) x W hv (by omega) HSZ.out hf.mem (fun g hg => by have := hf.bd g hg; omega) (fun g hg => by have := hf.tb (by omega) g hg; omega))
    clear he HF M1 M0 OUT1 HSZ HG hf hG1 HM hlen k1
    generalize ordErr c names = er at *
    generalize ordG c.grps names = og at *
    generalize movF c.grps og x = mx at *
    go_wp2_with fail
    refine MV.out.mono ?_
    rintro e W2 ⟨f, p, V, rfl, hMv, hb3⟩
    unfold mvV
    clear MV
    go_wp2_with fail
    refine (M1C.out f p V W2 hMv).mono ?_
    rintro e W3 ⟨rfl, hb4⟩
    go_wp2_with fail
    go_ret
    exact ⟨ret_int HMX.out.symm, (hb2.trans (hb3.mono hb2.size)).trans (hb4.mono (Nat.le_trans hb2.size hb3.size))⟩
  · have q1 : (ordErr c names != 0) = true := by simpa using he
    have HMX := Lib.hid (M0.out he)
    clear he HF M1 M0 OUT1 HSZ HG HM hG1 k1
    generalize ordErr c names = er at *
    go_wp2_with fail
    go_ret
    exact ⟨ret_int HMX.out.symm, hb2⟩

theorem conG_up {gs : List Grp} {x : Int} {k : Nat} (hlt : k < gs.length) (h : ∀ t, (ht : t < gs.length) → t < k → inR gs[t].lo gs[t].hi x = false) (hn : inR gs[k].lo gs[k].hi x = false) : ∀ t, (ht : t < gs.length) → t < k + 1 → inR gs[t].lo gs[t].hi x = false := all_up (P := fun g => inR g.lo g.hi x = false) hlt h hn

set_option maxRecDepth 100000 in
set_option maxHeartbeats 6400000 in
theorem refMove_any (A : Option Addr) (n a : Nat) (B : Option Addr) (m b : Nat) (c : Col) (N : Option Addr) (kn kc : Nat) (names : List ByteArray) (x : Int) (w : World) (h : ColAt w A n B m c) (hz : ColSz c) (hm8 : m ≤ 19)
    (hN : Strs w N names) (hkn : names.length = kn) (hk12 : kn ≤ 1048576) (hkc : kn ≤ kc) :
    Calls Try.prog 17 #[colV A n a B m b c, .slice N kn kc, .int .i64 x] w (RetI (mov c names x) w) := by
  have B0 : Below w.heap.size w (w.alloc (.cells #[.slice A n a, .slice B m b, .int .i64 c.base, .int .i64 c.second, .int .i64 c.third] 25)) := (Below.refl _ _).alloc (Nat.le_refl _) _
  have k1 : (w.alloc (.cells #[.slice A n a, .slice B m b, .int .i64 c.base, .int .i64 c.second, .int .i64 c.third] 25)).cell? ⟨w.heap.size, 1, none⟩ = some (.slice B m b) := by simp
  have s0 : (w.alloc (.cells #[.slice A n a, .slice B m b, .int .i64 c.base, .int .i64 c.second, .int .i64 c.third] 25)).heap.size = w.heap.size + 1 := by simp
  have W0E : ∃ W0, w.alloc (.cells #[.slice A n a, .slice B m b, .int .i64 c.base, .int .i64 c.second, .int .i64 c.third] 25) = W0 := ⟨_, rfl⟩
  have OC := Lib.hid (fun W (hb : Below w.heap.size w W) => refOrder_any A n a B m b c N kn kc names W (h.below hb) hz hm8 (hN.below hb) hkn hk12 hkc)
  have HF := Lib.hid (ordF (c := c) (names := names))
  have HG := Lib.hid h.grps
  have HM := Lib.hid h.hm
  have HSZ := Lib.hid h.hs
  have M1 := Lib.hid (fun (he : ordErr c names = 0) => show mov c names x = movF c.grps (ordG c.grps names) x by unfold mov; rw [if_pos he])
  have M0 := Lib.hid (fun (he : ¬ ordErr c names = 0) => show mov c names x = x by unfold mov; rw [if_neg he])
  have OUT1 := Lib.hid (fun (h : ordErr c names = 0) => show ordOut c names = ordG c.grps names by unfold ordOut; rw [if_pos h])
  unfold colV at *
  clear h hz hN
  go_enter Try.func17, Try.ntmps17
  go_wp2_with fail
  obtain ⟨W0, hW0⟩ := W0E
  rw [hW0] at B0 s0 k1 ⊢
  clear hW0
  refine (OC.out W0 B0).mono ?_
  rintro e W1 ⟨A1, c1, rfl, hc1, hG1, hb1⟩
  clear OC
  have hb2 := B0.trans (hb1.mono B0.size)
  by_cases he : ordErr c names = 0
  · have hf := HF.out he
    have HMX := Lib.hid (M1.out he)
    rw [OUT1.out he] at hG1 hc1 ⊢
    have q1 : (ordErr c names != 0) = false := by simpa using he
    have hlen := hf.len
    have F1 := Lib.hid ((hb1.cell (p := ⟨w.heap.size, 1, none⟩) (by show w.heap.size < _; omega)).trans k1)
    have hx0 : w.heap.size < W1.heap.size := by have := hb1.size; omega
    have hm := HM.out
    have HG1 := Lib.hid hG1
    have HGB := Lib.hid (HG.out.below hb2)
    have HF' := Lib.hid hf
    clear he HF M1 M0 OUT1 HSZ HG hf hG1 HM k1
    generalize ordErr c names = er at *
    generalize hgs : c.grps = gs at *
    clear hgs
    subst hm
    generalize hog : ordG gs names = og at *
    have HTB := Lib.hid (show ∀ g ∈ og, 0 ≤ g.lo ∧ g.lo ≤ g.hi ∧ g.hi ≤ 2000000 from fun g hg => HF'.out.tb hm8 g (by rw [hog]; exact hg))
    have HBD := Lib.hid HF'.out.bd
    have HME := Lib.hid (show ∀ g ∈ gs, g.name ∈ gnames og from fun g hg => by have := HF'.out.mem g hg; rw [hog] at this; exact this)
    have hol : og.length ≤ 1048576 := by omega
    clear hog HF' hlen
    have X1 := Lib.hid (fun g (h : conG gs x = some g) => HMX.out.trans (movF_some (to := og) h))
    have X0 := Lib.hid (fun (h : conG gs x = none) => HMX.out.trans (movF_none (to := og) h))
    clear HMX
    go_wp2_with fail
    go_loopw [9] (fun u wr => ∃ i : Nat, i ≤ gs.length ∧ u = .int .i64 i ∧ (∀ t, (ht : t < gs.length) → t < i → inR gs[t].lo gs[t].hi x = false) ∧ Below W1.heap.size W1 wr) (fun u _ => gs.length - (intOf u).toNat)
    case atStart => exact ⟨0, Nat.zero_le _, rfl, fun t _ h => by omega, Below.refl _ _⟩
    case round =>
      obtain ⟨i, hi, rfl, hne, hb⟩ := hrel
      have HNE := Lib.hid hne; clear hne
      have f1 := (hb.cell (p := ⟨w.heap.size, 1, none⟩) hx0).trans F1.out
      have hx1 : w.heap.size < wr.heap.size := by have := hb.size; omega
      have hx2 : ¬ w.heap.size = wr.heap.size := by omega
      by_cases hlt : i < gs.length
      · obtain ⟨b1, o1, rfl, hbl, hcell⟩ := (HGB.out.below hb).at hlt
        obtain ⟨c1', c2, c3⟩ := hcell i hlt
        have HB := Lib.hid (fun h => X1.out _ (conG_at hlt h HNE.out))
        have HN := Lib.hid (fun h => conG_up hlt HNE.out h)
        have hbd := HBD.out gs[i] (List.getElem_mem hlt)
        have hme := HME.out gs[i] (List.getElem_mem hlt)
        clear hcell
        generalize gs[i] = gi at *
        obtain ⟨xn, xlo, xhi⟩ := gi
        dsimp only at *
        have hbz := hb.alloc hb.size (.cells #[.string xn, .int .i64 xlo, .int .i64 xhi] 36)
        by_cases h1 : xlo ≤ x
        · by_cases h2 : x ≤ xhi
          · have HR := Lib.hid (HB.out (inR_true h1 h2))
            have q2 : decide (xlo ≤ x) = true := by simpa using h1
            have q3 : decide (x ≤ xhi) = true := by simpa using h2
            obtain ⟨hpk, hpe⟩ := gOf_pos hme
            have hgm := HTB.out _ (gOf_spec hme).1
            have CI := Lib.hid (fun j => quiet_left (index_any A1 og.length c1 og xn ((wr.alloc (.cells #[.string xn, .int .i64 xlo, .int .i64 xhi] 36)).drewN j) ((HG1.out.below hbz).drewN j) rfl hol))
            rw [gIdx_some hme] at CI
            obtain ⟨b2, o2, rfl, hbl2, hcell2⟩ := (HG1.out.below hbz).at hpk
            obtain ⟨d1, d2, d3⟩ := hcell2 _ hpk
            rw [hpe] at d1 d2 d3
            have HBZ := Lib.hid hbz
            clear hcell2 hpe hme HB HN X1 X0
            generalize pos (gnames og) xn = pk at *
            generalize (gOf og xn).lo = y at *
            have q4 : IntKind.i64.wrap (y + x) = y + x := IntWalk.i64_in _ (by omega)
            have q5 : IntKind.i64.wrap (y + x - xlo) = y + x - xlo := IntWalk.i64_in _ (by omega)
            have q6 : (pk : Int) < (og.length : Int) := by omega
            have e0 : (wr.alloc (.cells #[.string xn, .int .i64 xlo, .int .i64 xhi] 36)).cell? ⟨wr.heap.size, 0, none⟩ = some (.string xn) := by simp
            have e1 : (wr.alloc (.cells #[.string xn, .int .i64 xlo, .int .i64 xhi] 36)).cell? ⟨wr.heap.size, 1, none⟩ = some (.int .i64 xlo) := by simp
            go_wp2_with fail
            obtain ⟨W2, hW2⟩ : ∃ W2, wr.alloc (.cells #[.string xn, .int .i64 xlo, .int .i64 xhi] 36) = W2 := ⟨_, rfl⟩
            rw [hW2] at CI d1 d2 d3 HBZ e0 e1 ⊢
            clear hW2 hbz hbl2 c1' c2 c3 f1
            go_quiet (first | exact CI.out _)
            go_wp2_with fail
            go_ret
            have H := hb2.trans (HBZ.out.mono hb2.size)
            exact ⟨ret_int HR.out.symm, H.trans ((below_of_drewN _ _).mono H.size)⟩
          · have HQ := Lib.hid (HN.out (inR_hi (by omega)))
            have q2 : decide (xlo ≤ x) = true := by simpa using h1
            have q3 : decide (x ≤ xhi) = false := by simpa using h2
            clear HB HN X1 X0
            go_wp2_with fail
            go_roundw
            case rel => exact ⟨i + 1, by omega, by go_num, HQ.out, hbz⟩
            case measure => simp [intOf]; omega
        · have HQ := Lib.hid (HN.out (inR_lo (by omega)))
          have q2 : decide (xlo ≤ x) = false := by simpa using h1
          clear HB HN X1 X0
          go_wp2_with fail
          go_roundw
          case rel => exact ⟨i + 1, by omega, by go_num, HQ.out, hbz⟩
          case measure => simp [intOf]; omega
      · have HR := Lib.hid (X0.out (conG_none (fun t ht => HNE.out t ht (by omega))))
        clear X0 X1
        go_wp2_with fail
        go_ret
        exact ⟨ret_int HR.out.symm, hb2.trans (hb.mono hb2.size)⟩
  · have q1 : (ordErr c names != 0) = true := by simpa using he
    have HMX := Lib.hid (M0.out he)
    clear he HF M1 M0 OUT1 HSZ HG HM hG1 k1
    generalize ordErr c names = er at *
    go_wp2_with fail
    go_ret
    exact ⟨ret_int HMX.out.symm, hb2⟩

end Go.Proofs.Ytnfnoefjgiojoaa
