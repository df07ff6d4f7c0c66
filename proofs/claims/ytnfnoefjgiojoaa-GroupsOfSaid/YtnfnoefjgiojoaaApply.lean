/- The contract of groups.Apply. Written by gen_apply.py. -/
import Derived.Test.YtnfnoefjgiojoaaApplyA
namespace Go.Proofs.Ytnfnoefjgiojoaa
open Go.RowKit Go.Maps Go.WideMaps

theorem appC0 {c : Col} {names : List ByteArray} (h : ¬ ordErr c names = 0) : appC c names = ⟨[], [], 0, 0, 0⟩ := by unfold appC; rw [if_neg h]
theorem appC1 {c : Col} {names : List ByteArray} (h : ordErr c names = 0) : appC c names = ⟨c.ents.map (movEnt (movF c.grps (ordG c.grps names))), ordG c.grps names, c.base, c.second, c.third⟩ := by
  unfold appC
  rw [if_pos h]
  have : mov c names = movF c.grps (ordG c.grps names) := by funext x; unfold mov; rw [if_pos h]
  rw [this]

/-- as RetApp; and what is returned bears a change of a block that was there and holds no string -/
def RetAppF (out : Col) (err : Int) (w : World) (e : Ending) (w' : World) : Prop := ∃ A n a B m b, e = .returned (.tuple #[colV A n a B m b out, .int .i64 err]) ∧ ColAt w' A n B m out ∧ n ≤ a ∧ m ≤ b ∧ Below w.heap.size w w' ∧
  ∀ (w'' : World) (q : Nat), q < w.heap.size → (∀ o s, w'.cell? ⟨q, o, none⟩ ≠ some (.string s)) → (∀ p : Addr, p.block ≠ q → w''.cell? p = w'.cell? p) → ColAt w'' A n B m out

set_option maxRecDepth 100000 in
set_option maxHeartbeats 3200000 in
theorem Apply_anyF (A : Option Addr) (n a : Nat) (B : Option Addr) (m b : Nat) (c : Col) (N : Option Addr) (kn kc : Nat) (names : List ByteArray) (w : World) (h : ColAt w A n B m c) (hz : ColSz c) (hm8 : m ≤ 19)
    (hN : Strs w N names) (hkn : names.length = kn) (hk12 : kn ≤ 1048576) (hns : ∀ s ∈ names, s.size ≤ 9223372036854775807) :
    Calls Try.prog 19 #[colV A n a B m b c, .slice N kn kc] w (RetAppF (appC c names) (ordErr c names) w) := by
  have B0 : Below w.heap.size w ((w.alloc (.cells #[.slice A n a, .slice B m b, .int .i64 c.base, .int .i64 c.second, .int .i64 c.third] 25)).alloc (.cells #[.slice none 0 0, .slice none 0 0, .int .i64 0, .int .i64 0, .int .i64 0] 25)) := ((Below.refl _ _).alloc (Nat.le_refl _) _).alloc (by simp) _
  have k0 : ((w.alloc (.cells #[.slice A n a, .slice B m b, .int .i64 c.base, .int .i64 c.second, .int .i64 c.third] 25)).alloc (.cells #[.slice none 0 0, .slice none 0 0, .int .i64 0, .int .i64 0, .int .i64 0] 25)).cell? ⟨w.heap.size, 0, none⟩ = some (.slice A n a) := by simp
  have k1 : ((w.alloc (.cells #[.slice A n a, .slice B m b, .int .i64 c.base, .int .i64 c.second, .int .i64 c.third] 25)).alloc (.cells #[.slice none 0 0, .slice none 0 0, .int .i64 0, .int .i64 0, .int .i64 0] 25)).cell? ⟨w.heap.size, 1, none⟩ = some (.slice B m b) := by simp
  have k2 : ((w.alloc (.cells #[.slice A n a, .slice B m b, .int .i64 c.base, .int .i64 c.second, .int .i64 c.third] 25)).alloc (.cells #[.slice none 0 0, .slice none 0 0, .int .i64 0, .int .i64 0, .int .i64 0] 25)).cell? ⟨w.heap.size, 2, none⟩ = some (.int .i64 c.base) := by simp
  have k3 : ((w.alloc (.cells #[.slice A n a, .slice B m b, .int .i64 c.base, .int .i64 c.second, .int .i64 c.third] 25)).alloc (.cells #[.slice none 0 0, .slice none 0 0, .int .i64 0, .int .i64 0, .int .i64 0] 25)).cell? ⟨w.heap.size, 3, none⟩ = some (.int .i64 c.second) := by simp
  have k4 : ((w.alloc (.cells #[.slice A n a, .slice B m b, .int .i64 c.base, .int .i64 c.second, .int .i64 c.third] 25)).alloc (.cells #[.slice none 0 0, .slice none 0 0, .int .i64 0, .int .i64 0, .int .i64 0] 25)).cell? ⟨w.heap.size, 4, none⟩ = some (.int .i64 c.third) := by simp
  have l0 : ((w.alloc (.cells #[.slice A n a, .slice B m b, .int .i64 c.base, .int .i64 c.second, .int .i64 c.third] 25)).alloc (.cells #[.slice none 0 0, .slice none 0 0, .int .i64 0, .int .i64 0, .int .i64 0] 25)).cell? ⟨w.heap.size + 1, 0, none⟩ = some (.slice none 0 0) := by simp
  have l1 : ((w.alloc (.cells #[.slice A n a, .slice B m b, .int .i64 c.base, .int .i64 c.second, .int .i64 c.third] 25)).alloc (.cells #[.slice none 0 0, .slice none 0 0, .int .i64 0, .int .i64 0, .int .i64 0] 25)).cell? ⟨w.heap.size + 1, 1, none⟩ = some (.slice none 0 0) := by simp
  have l2 : ((w.alloc (.cells #[.slice A n a, .slice B m b, .int .i64 c.base, .int .i64 c.second, .int .i64 c.third] 25)).alloc (.cells #[.slice none 0 0, .slice none 0 0, .int .i64 0, .int .i64 0, .int .i64 0] 25)).cell? ⟨w.heap.size + 1, 2, none⟩ = some (.int .i64 0) := by simp
  have l3 : ((w.alloc (.cells #[.slice A n a, .slice B m b, .int .i64 c.base, .int .i64 c.second, .int .i64 c.third] 25)).alloc (.cells #[.slice none 0 0, .slice none 0 0, .int .i64 0, .int .i64 0, .int .i64 0] 25)).cell? ⟨w.heap.size + 1, 3, none⟩ = some (.int .i64 0) := by simp
  have l4 : ((w.alloc (.cells #[.slice A n a, .slice B m b, .int .i64 c.base, .int .i64 c.second, .int .i64 c.third] 25)).alloc (.cells #[.slice none 0 0, .slice none 0 0, .int .i64 0, .int .i64 0, .int .i64 0] 25)).cell? ⟨w.heap.size + 1, 4, none⟩ = some (.int .i64 0) := by simp
  have kf : ∀ j, ((w.alloc (.cells #[.slice A n a, .slice B m b, .int .i64 c.base, .int .i64 c.second, .int .i64 c.third] 25)).alloc (.cells #[.slice none 0 0, .slice none 0 0, .int .i64 0, .int .i64 0, .int .i64 0] 25)).frozen? ⟨w.heap.size, j, none⟩ = false := fun j => by simp
  have lf : ∀ j, ((w.alloc (.cells #[.slice A n a, .slice B m b, .int .i64 c.base, .int .i64 c.second, .int .i64 c.third] 25)).alloc (.cells #[.slice none 0 0, .slice none 0 0, .int .i64 0, .int .i64 0, .int .i64 0] 25)).frozen? ⟨w.heap.size + 1, j, none⟩ = false := fun j => by simp
  have ns0 : ∀ o s, ((w.alloc (.cells #[.slice A n a, .slice B m b, .int .i64 c.base, .int .i64 c.second, .int .i64 c.third] 25)).alloc (.cells #[.slice none 0 0, .slice none 0 0, .int .i64 0, .int .i64 0, .int .i64 0] 25)).cell? ⟨w.heap.size, o, none⟩ ≠ some (.string s) := by
    intro o s; rcases o with _ | _ | _ | _ | _ | o <;> simp
  have ns1 : ∀ o s, ((w.alloc (.cells #[.slice A n a, .slice B m b, .int .i64 c.base, .int .i64 c.second, .int .i64 c.third] 25)).alloc (.cells #[.slice none 0 0, .slice none 0 0, .int .i64 0, .int .i64 0, .int .i64 0] 25)).cell? ⟨w.heap.size + 1, o, none⟩ ≠ some (.string s) := by
    intro o s; rcases o with _ | _ | _ | _ | _ | o <;> simp
  have s0 : ((w.alloc (.cells #[.slice A n a, .slice B m b, .int .i64 c.base, .int .i64 c.second, .int .i64 c.third] 25)).alloc (.cells #[.slice none 0 0, .slice none 0 0, .int .i64 0, .int .i64 0, .int .i64 0] 25)).heap.size = w.heap.size + 2 := by simp
  have W0E : ∃ W0, (w.alloc (.cells #[.slice A n a, .slice B m b, .int .i64 c.base, .int .i64 c.second, .int .i64 c.third] 25)).alloc (.cells #[.slice none 0 0, .slice none 0 0, .int .i64 0, .int .i64 0, .int .i64 0] 25) = W0 := ⟨_, rfl⟩
  have OC := Lib.hid (fun W (hb : Below w.heap.size w W) => Order_any A n a B m b c N kn kc names W (h.below hb) hz hm8 (hN.below hb) hkn hk12 hns)
  have HF := Lib.hid (ordF (c := c) (names := names))
  have HG := Lib.hid h.grps
  have HE := Lib.hid h.ents
  have HM := Lib.hid h.hm
  have HNN := Lib.hid h.hn
  have HSZ := Lib.hid h.hs
  have HZ := Lib.hid hz
  have AC0 := Lib.hid (appC0 (c := c) (names := names))
  have AC1 := Lib.hid (appC1 (c := c) (names := names))
  have OUT1 := Lib.hid (fun (h : ordErr c names = 0) => show ordOut c names = ordG c.grps names by unfold ordOut; rw [if_pos h])
  unfold colV at *
  clear h hz hN hns
  go_enter Try.func19, Try.ntmps19
  go_wp2_with fail
  obtain ⟨W0, hW0⟩ := W0E
  rw [hW0] at B0 s0 k0 k1 k2 k3 k4 l0 l1 l2 l3 l4 kf lf ns0 ns1 ⊢
  clear hW0
  have hx0 : w.heap.size < W0.heap.size := by omega
  have hx1 : w.heap.size + 1 < W0.heap.size := by omega
  refine (OC.out W0 B0).mono ?_
  rintro e W1 ⟨A1, c1, rfl, hc1, hG1, hb1⟩
  clear OC
  have hb2 := B0.trans (hb1.mono B0.size)
  have KEEP := Lib.hid (show ∀ W', Below W0.heap.size W0 W' → W'.cell? ⟨w.heap.size, 0, none⟩ = some (.slice A n a) ∧ W'.cell? ⟨w.heap.size, 1, none⟩ = some (.slice B m b) ∧ W'.cell? ⟨w.heap.size, 2, none⟩ = some (.int .i64 c.base) ∧ W'.cell? ⟨w.heap.size, 3, none⟩ = some (.int .i64 c.second) ∧ W'.cell? ⟨w.heap.size, 4, none⟩ = some (.int .i64 c.third) ∧ W'.cell? ⟨w.heap.size + 1, 0, none⟩ = some (.slice none 0 0) ∧ W'.cell? ⟨w.heap.size + 1, 1, none⟩ = some (.slice none 0 0) ∧ W'.cell? ⟨w.heap.size + 1, 2, none⟩ = some (.int .i64 0) ∧ W'.cell? ⟨w.heap.size + 1, 3, none⟩ = some (.int .i64 0) ∧ W'.cell? ⟨w.heap.size + 1, 4, none⟩ = some (.int .i64 0) ∧ (∀ j, W'.frozen? ⟨w.heap.size, j, none⟩ = false) ∧ (∀ j, W'.frozen? ⟨w.heap.size + 1, j, none⟩ = false) from fun W' hb => ⟨(hb.cell (p := ⟨w.heap.size, 0, none⟩) hx0).trans k0, (hb.cell (p := ⟨w.heap.size, 1, none⟩) hx0).trans k1, (hb.cell (p := ⟨w.heap.size, 2, none⟩) hx0).trans k2, (hb.cell (p := ⟨w.heap.size, 3, none⟩) hx0).trans k3, (hb.cell (p := ⟨w.heap.size, 4, none⟩) hx0).trans k4, (hb.cell (p := ⟨w.heap.size + 1, 0, none⟩) hx1).trans l0, (hb.cell (p := ⟨w.heap.size + 1, 1, none⟩) hx1).trans l1, (hb.cell (p := ⟨w.heap.size + 1, 2, none⟩) hx1).trans l2, (hb.cell (p := ⟨w.heap.size + 1, 3, none⟩) hx1).trans l3, (hb.cell (p := ⟨w.heap.size + 1, 4, none⟩) hx1).trans l4, fun j => (hb.frozen (p := ⟨w.heap.size, j, none⟩) hx0).trans (kf j), fun j => (hb.frozen (p := ⟨w.heap.size + 1, j, none⟩) hx1).trans (lf j)⟩)
  have NS := Lib.hid (show ∀ W', Below W0.heap.size W0 W' → ∀ b o s, W'.cell? ⟨b, o, none⟩ = some (.string s) → ¬ (b = w.heap.size ∨ b = w.heap.size + 1) from fun W' hb b o s hc hq => by
    rcases hq with rfl | rfl
    · exact ns0 o s ((hb.cell (p := ⟨w.heap.size, o, none⟩) hx0).symm.trans hc)
    · exact ns1 o s ((hb.cell (p := ⟨w.heap.size + 1, o, none⟩) hx1).symm.trans hc))
  clear k0 k1 k2 k3 k4 l0 l1 l2 l3 l4 kf lf ns0 ns1
  by_cases he : ordErr c names = 0
  · have hf := HF.out he
    have HOUT := Lib.hid (AC1.out he)
    rw [OUT1.out he] at hG1 hc1 ⊢
    have q1 : (ordErr c names != 0) = false := by simpa using he
    have hm := HM.out
    have hn := HNN.out
    have HER := Lib.hid he
    clear he HF OUT1 AC0 AC1
    generalize hgs : c.grps = gs at *
    generalize hes : c.ents = es at *
    have HGS := Lib.hid hgs
    have HES := Lib.hid hes
    have HEZ := Lib.hid (show ∀ i, (hi : i < es.length) → es[i].codes.length ≤ 1048576 ∧ es[i].elems.length ≤ 1048576 by rw [← hes]; exact HZ.out.e)
    have hnz : es.length ≤ 1048576 := by rw [← hes]; exact HZ.out.n
    clear hgs hes
    subst hm
    subst hn
    have hlen := hf.len
    generalize hor : ordErr c names = er at *
    have HOR := Lib.hid hor
    clear hor HM HNN HZ
    have MV := Lib.hid (mover_any B gs.length b gs A1 (ordG gs names).length c1 (ordG gs names) W1 (HG.out.below hb2) rfl hG1 rfl (by omega) hf.nodup (hf.sz HSZ.out))
    have M1C := Lib.hid (fun x f p V W hv => mover1_any f p V gs (ordG gs names) x W hv (by omega) HSZ.out hf.mem (fun g hg => by have := hf.bd g hg; omega) (fun g hg => by have := hf.tb (by omega) g hg; omega))
    have HSO := Lib.hid (hf.sz HSZ.out)
    obtain ⟨f0, f1, f2, f3, f4, _⟩ := KEEP.out W1 hb1
    have hx2 : w.heap.size < W1.heap.size := by have := hb1.size; omega
    clear hf HSZ
    generalize hog : ordG gs names = og at *
    have HOG := Lib.hid hog
    generalize hFF : movF gs og = F at *
    have HFF := Lib.hid hFF
    have HLEN := Lib.hid hlen
    have hol : og.length ≤ 19 := by omega
    clear hog hFF hlen
    have HG1 := Lib.hid hG1
    clear hG1
    go_wp2_with fail
    with_reducible refine MV.out.mono ?_
    rintro e W2 ⟨f, p, V, rfl, hMv, hb3⟩
    unfold mvV
    clear MV f0 f1 f2 f3 f4
    have hb4 := hb1.trans (hb3.mono hb1.size)
    have HMV := Lib.hid hMv
    clear hMv
    obtain ⟨f0, f1, f2, f3, f4, _⟩ := KEEP.out W2 hb4
    obtain ⟨i0, hi0, hz0, hs0, hby0⟩ := info_parts (P := Try.prog) info_ent
    obtain ⟨W3, hmk, hown3, hgr3⟩ := run_makeSlice_full (P := Try.prog) W2 W2.heap.size 22 49 i0 _ 2 Try.underlying22 hi0 hz0 hs0 .i64 .i64 es.length (by omega) (by rw [hby0]; omega) (by unfold maxLen; omega) (Nat.le_refl _)
    have hx3 : w.heap.size < W2.heap.size := by have := hb3.size; omega
    have hb5 : Below W2.heap.size W2 W3 := ⟨hgr3.os, hgr3.tape, hgr3.output, hgr3.size, fun k hk => hgr3.block k hk (by simp)⟩
    have hb6 := hb4.trans (hb5.mono hb4.size)
    obtain ⟨g0, g1, g2, g3, g4, _⟩ := KEEP.out W3 hb6
    have s3 : W2.heap.size < W3.heap.size := by
      have h1 := hown3.lt W2.heap.size (by simp [Value.ownBlock])
      exact h1.2
    have hml : (madeCells (Value.agg #[Value.slice none 0 0, Value.slice none 0 0]).cells (es.length * 2)).toList.length = es.length * 2 := hown3.1
    obtain ⟨vs0, hv1, hv2⟩ := unflat2 es.length _ hml
    rw [← hv2] at hown3
    have HOWN3 := Lib.hid hown3
    go_wp2_with fail
    clear hmk hown3 hgr3 hv2 hml f0 f1 f2 f3 f4 g0 g1 g2 g3 g4 i0 hi0 hz0 hs0 hby0
    have HB5 := Lib.hid hb5
    clear hb5 hb6
    go_loopw [10, 11, 12, 13, 35] (fun _ _ _ _ u wr => ∃ (i : Nat) (vs : List (Value × Value)), i ≤ es.length ∧ u = .int .i64 i ∧ vs.length = es.length ∧ wr.ownsRow W2.heap.size 49 2 (.slice (some ⟨W2.heap.size, 0, none⟩) es.length es.length) es.length (flatK two2 vs) ∧ (∀ t, (h1 : t < es.length) → (h2 : t < vs.length) → t < i → EntA wr (W2.heap.size + 1) vs[t] (movEnt F es[t])) ∧ Below W2.heap.size W2 wr) (fun _ _ _ _ u _ => es.length - (intOf u).toNat)
    case atStart => exact ⟨0, vs0, Nat.zero_le _, rfl, hv1, HOWN3.out, fun t _ _ h => by omega, HB5.out⟩
    case round =>
      obtain ⟨i, vs, hi, rfl, hvl, hown, hdone, hbr⟩ := hrel
      have HOWN := Lib.hid hown; have HDONE := Lib.hid hdone
      have hsr : W2.heap.size < wr.heap.size := (hown.lt W2.heap.size (by simp [Value.ownBlock])).2
      clear hown hdone HOWN3
      have hbw := hb4.trans (hbr.mono hb4.size)
      by_cases hlt : i < es.length
      · obtain ⟨b1, o1, rfl, hbl, hcell⟩ := (HE.out.below (B0.trans (hbw.mono B0.size))).at hlt
        obtain ⟨C, cc, E, dd, c1', c2', hC, hE⟩ := hcell i hlt
        obtain ⟨z1, z2⟩ := HEZ.out i hlt
        have HC := Lib.hid hC; have HEL := Lib.hid hE
        clear hcell hC hE
        have hn1 : ¬ b1 = wr.heap.size := by omega
        have NV := Lib.hid (fun wq (vq : Value × Value) (hd : ∀ t, (h1 : t < es.length) → (h2 : t < vs.length) → t < i → EntA wq (W2.heap.size + 1) vs[t] (movEnt F es[t])) (hq : EntA wq (W2.heap.size + 1) vq (movEnt F es[i])) => show ∀ t, (h1 : t < es.length) → (h2 : t < (vs.set i vq).length) → t < i + 1 → EntA wq (W2.heap.size + 1) (vs.set i vq)[t] (movEnt F es[t]) from fun t h1 h2 ht => by
          rcases Nat.lt_or_ge t i with g | g
          · rw [List.getElem_set_ne (by omega)]; exact hd t h1 (by omega) g
          · obtain rfl : t = i := by omega
            rw [List.getElem_set_self]; exact hq)
        generalize hei : es[i] = ei at *
        obtain ⟨ec, ee⟩ := ei
        dsimp only at *
        clear hei
        have Ba : Below wr.heap.size wr (wr.alloc (.cells #[.slice C ec.length cc, .slice E ee.length dd] 49)) := (Below.refl _ _).alloc (Nat.le_refl _) _
        have e0 : (wr.alloc (.cells #[.slice C ec.length cc, .slice E ee.length dd] 49)).cell? ⟨wr.heap.size, 0, none⟩ = some (.slice C ec.length cc) := by simp
        have e1 : (wr.alloc (.cells #[.slice C ec.length cc, .slice E ee.length dd] 49)).cell? ⟨wr.heap.size, 1, none⟩ = some (.slice E ee.length dd) := by simp
        have sa : (wr.alloc (.cells #[.slice C ec.length cc, .slice E ee.length dd] 49)).heap.size = wr.heap.size + 1 := by simp
        go_wp2_with fail
        obtain ⟨Wa, hWa⟩ : ∃ Wa, wr.alloc (.cells #[.slice C ec.length cc, .slice E ee.length dd] 49) = Wa := ⟨_, rfl⟩
        rw [hWa] at Ba e0 e1 sa ⊢
        clear hWa
        with_reducible refine (cloneE_any E ee.length dd ee Wa (HEL.out.below Ba) rfl z2).mono ?_
        rintro e Wb ⟨AE, cE, rfl, hownE, hbE⟩
        have HOWNE := Lib.hid hownE
        have hsb : Wa.heap.size ≤ Wb.heap.size := hbE.size
        have e0b := (hbE.cell (p := ⟨wr.heap.size, 0, none⟩) (by show wr.heap.size < _; omega)).trans e0
        have E0 := Lib.hid e0b
        clear hownE c1' c2' e0 e1 e0b
        have BAB := Lib.hid (Ba.trans (hbE.mono Ba.size))
        obtain ⟨wr0, rfl⟩ : ∃ wr0 : World, wr0 = wr := ⟨_, rfl⟩
        go_wp2_with fail
        go_loopw [13, 45] (fun _ u wq => ∃ k : Nat, k ≤ ee.length ∧ u = .int .i64 k ∧ wq.ownsRow Wa.heap.size 51 4 (.slice AE ee.length cE) ee.length (flatK Elt.cells (mixE F ee k)) ∧ Below Wa.heap.size Wb wq) (fun _ u _ => ee.length - (intOf u).toNat)
        case atStart => exact ⟨0, Nat.zero_le _, rfl, by rw [mixE_zero]; exact HOWNE.out, Below.refl _ _⟩
        case round =>
          obtain ⟨k, hk, rfl, hoq, hbq⟩ := hrel
          have HOQ := Lib.hid hoq
          clear hoq HOWNE
          have HBWQ := Lib.hid (BAB.out.trans (hbq.mono (by omega : wr0.heap.size ≤ Wa.heap.size)))
          by_cases hltk : k < ee.length
          · obtain ⟨gE, hAE, hgE⟩ : ∃ gE, AE = some ⟨gE, 0, none⟩ ∧ Wa.heap.size ≤ gE := by
              rcases HOQ.out.2 with ⟨_, h0⟩ | ⟨gE, cap, cur, hv, hbg, _⟩
              · omega
              · injection hv with hA _ _; exact ⟨gE, hA, hbg⟩
            subst hAE
            have hml : k < (mixE F ee k).length := by rw [mixE_len]; exact hltk
            obtain ⟨b2, o2, hA2, hbl2, hc2⟩ := (show Elts wr (some ⟨gE, 0, none⟩) (mixE F ee k) from Sl.of_own HOQ.out).at hml
            injection hA2 with hA2
            injection hA2 with hA2 hA3
            subst hA2; subst hA3
            have x0 := (hc2 k hml).1
            have hget : (mixE F ee k)[k] = ee[k] := (List.getElem?_eq_some_iff.1 (mixE_get (f := F) hltk)).2
            rw [hget, Nat.zero_add] at x0
            have fz := World.ownsRow.frozenAt HOQ.out (k * 4)
            have HST := Lib.hid (show (flatK Elt.cells (mixE F ee k)).set (k * 4) (.int .i64 (F ee[k].p)) = flatK Elt.cells (mixE F ee (k + 1)) by
              rw [flat4_set _ _ _ hml, hget]; exact congrArg _ (mixE_set hltk))
            have M := Lib.hid (M1C.out ee[k].p f p V wr (HMV.out.below (hbr.trans (HBWQ.out.mono hbr.size))))
            clear hc2 hget hml
            generalize ee[k] = ek at *
            go_wp2_with fail
            with_reducible refine M.out.mono ?_
            rintro e w9 ⟨rfl, hb9⟩
            have y0 := (hb9.cell (p := ⟨gE, k * 4, none⟩) hbl2).trans x0
            have yf := (hb9.frozen (p := ⟨gE, k * 4, none⟩) hbl2).trans fz
            have st := World.ownsRow.stored (own_keep HOQ.out hb9) (k * 4) (.int .i64 (F ek.p))
            rw [HST.out] at st
            have HST2 := Lib.hid st.1
            have hbz := (hbq.trans (hb9.mono (Nat.le_trans (by omega : Wa.heap.size ≤ Wb.heap.size) hbq.size))).setCell (p := ⟨gE, k * 4, none⟩) hgE (.int .i64 (F ek.p))
            clear st x0 fz M HST
            go_wp2_with fail
            go_roundw
            case rel => exact ⟨k + 1, by omega, by go_num, HST2.out, hbz⟩
            case measure => simp [intOf]; omega
          · have e2 := (hbq.cell (p := ⟨wr0.heap.size, 0, none⟩) (by show wr0.heap.size < _; omega)).trans E0.out
            have hoE := HOQ.out
            rw [mixE_end hltk] at hoE
            have HOE := Lib.hid (SlA.of_own hoE)
            have hs9 : Wa.heap.size ≤ wr.heap.size := Nat.le_trans hsb hbq.size
            clear hoE HOQ
            go_wp2_with fail
            with_reducible refine (cloneI_any C ec.length cc ec wr (HC.out.below HBWQ.out) rfl z1).mono ?_
            rintro e Wc ⟨AC, cC, rfl, hownC, hbC⟩
            have hbz := HBWQ.out.trans (hbC.mono HBWQ.out.size)
            have HON := Lib.hid (own_keep HOWN.out hbz)
            have hvi : i < vs.length := by omega
            obtain ⟨b3, o3, hA3, hbl3, hc3⟩ := Recs.at (enc := two2) 2 (fun _ => rfl) (by omega) (show Recs two2 Wc (some ⟨W2.heap.size, 0, none⟩) vs from Sl.of_own HON.out) hvi
            injection hA3 with hA3
            injection hA3 with hA3 hA4
            subst hA3; subst hA4
            have x0 := hc3 i hvi 0 _ rfl
            have x1 := hc3 i hvi 1 _ rfl
            simp only [Nat.zero_add, Nat.add_zero] at x0 x1
            have fz0 := World.ownsRow.frozenAt HON.out (i * 2)
            have fz1 := World.ownsRow.frozenAt HON.out (i * 2 + 1)
            have st1 := World.ownsRow.stored HON.out (i * 2) (.slice AC ec.length cC)
            have st2 := st1.1.stored (i * 2 + 1) (.slice AE ee.length cE)
            rw [flat2_set _ _ _ _ hvi] at st2
            have gr := grown_trans st1.2 st2.2
            have ND := Lib.hid (NV.out _ (.slice AC ec.length cC, .slice AE ee.length cE) (fun t h1 h2 ht => (((HDONE.out t h1 h2 ht).below hbz).grown gr (by omega))) ⟨AC, cC, AE, cE, by simp [movEnt], ((SlA.of_own hownC).mono (by omega)).grown gr (by omega), ((HOE.out.below hbC).mono (by omega)).grown gr (by omega)⟩)
            have HST2 := Lib.hid st2.1
            have hbf := ((hbr.trans (hbz.mono hbr.size)).setCell (p := ⟨W2.heap.size, i * 2, none⟩) (Nat.le_refl _) (.slice AC ec.length cC)).setCell (p := ⟨W2.heap.size, i * 2 + 1, none⟩) (Nat.le_refl _) (.slice AE ee.length cE)
            clear hc3 st1 st2 gr hownC e2 NV HDONE HOWN HON
            generalize vs[i] = vi at *
            go_wp2_with fail
            go_roundw
            case rel => exact ⟨i + 1, vs.set i (.slice AC ec.length cC, .slice AE ee.length cE), by omega, by go_num, by simpa using hvl, HST2.out, ND.out, hbf⟩
            case measure => simp [intOf]; omega
      · have hall := HDONE.out
        obtain ⟨g0, g1, g2, g3, g4, l0, l1, l2, l3, l4, kf, lf⟩ := KEEP.out wr hbw
        have hxa : w.heap.size < wr.heap.size := by have := hbr.size; omega
        have hxb : w.heap.size + 1 < wr.heap.size := by have := hbr.size; have := hb4.size; omega
        have hxc : w.heap.size + 1 < W2.heap.size := by have := hb4.size; omega
        have kf0 := kf 0; have kf1 := kf 1
        have lf0 := lf 0; have lf1 := lf 1; have lf2 := lf 2; have lf3 := lf 3; have lf4 := lf 4
        clear kf lf
        have HBW := Lib.hid (hb4.trans (hbr.mono hb4.size))
        go_wp2_with fail
        (try simp only [Exit.inBlock, Exit.then]); refine bodyPost_ret (results_app _ _ (b := w.heap.size + 1) (v0 := .slice (some ⟨W2.heap.size, 0, none⟩) es.length es.length) (v1 := .slice A1 og.length c1) (z0 := c.base) (z1 := c.second) (z2 := c.third) rfl (by go_simp) (by go_simp) (by go_simp) (by go_simp) (by go_simp)) rfl ?_
        have BF := Lib.hid (B0.trans (hbw.mono B0.size))
        have hN1 : w.heap.size ≤ w.heap.size + 1 := by omega
        rw [HER.out, HOUT.out]
        have HK : Hid (∀ p : Addr, ¬ (p.block = w.heap.size ∨ p.block = w.heap.size + 1) → (((((((wr.setCell ⟨w.heap.size, 0, none⟩ (.slice (some ⟨W2.heap.size, 0, none⟩) es.length es.length)).setCell ⟨w.heap.size, 1, none⟩ (.slice A1 og.length c1)).setCell ⟨w.heap.size + 1, 0, none⟩ (.slice (some ⟨W2.heap.size, 0, none⟩) es.length es.length)).setCell ⟨w.heap.size + 1, 1, none⟩ (.slice A1 og.length c1)).setCell ⟨w.heap.size + 1, 2, none⟩ (.int .i64 c.base)).setCell ⟨w.heap.size + 1, 3, none⟩ (.int .i64 c.second)).setCell ⟨w.heap.size + 1, 4, none⟩ (.int .i64 c.third)).cell? p = wr.cell? p) := Lib.hid (fun p hp => by
          have h1 : w.heap.size + 1 ≠ p.block := fun e => hp (.inr e.symm)
          have h0 : w.heap.size ≠ p.block := fun e => hp (.inl e.symm)
          refine (World.cell?_setCell_far _ _ _ _ h1).trans ?_
          refine (World.cell?_setCell_far _ _ _ _ h1).trans ?_
          refine (World.cell?_setCell_far _ _ _ _ h1).trans ?_
          refine (World.cell?_setCell_far _ _ _ _ h1).trans ?_
          refine (World.cell?_setCell_far _ _ _ _ h1).trans ?_
          refine (World.cell?_setCell_far _ _ _ _ h0).trans ?_
          exact World.cell?_setCell_far _ _ _ _ h0)
        have BS := Lib.hid (((((((BF.out.setCell (p := ⟨w.heap.size, 0, none⟩) (Nat.le_refl _) (.slice (some ⟨W2.heap.size, 0, none⟩) es.length es.length)).setCell (p := ⟨w.heap.size, 1, none⟩) (Nat.le_refl _) (.slice A1 og.length c1)).setCell (p := ⟨w.heap.size + 1, 0, none⟩) hN1 (.slice (some ⟨W2.heap.size, 0, none⟩) es.length es.length)).setCell (p := ⟨w.heap.size + 1, 1, none⟩) hN1 (.slice A1 og.length c1)).setCell (p := ⟨w.heap.size + 1, 2, none⟩) hN1 (.int .i64 c.base)).setCell (p := ⟨w.heap.size + 1, 3, none⟩) hN1 (.int .i64 c.second)).setCell (p := ⟨w.heap.size + 1, 4, none⟩) hN1 (.int .i64 c.third))
        have hKs : ∀ s : Nat, W2.heap.size ≤ s → ∀ p : Addr, s ≤ p.block → ¬ (p.block = w.heap.size ∨ p.block = w.heap.size + 1) := fun s hs p hp => by omega
        refine ⟨some ⟨W2.heap.size, 0, none⟩, es.length, es.length, A1, og.length, c1, rfl, ⟨?_, ?_, ?_, rfl, HSO.out⟩, Nat.le_refl _, hc1, ?_, fun w'' q hq hns hk => ⟨?_, ?_, ?_, rfl, HSO.out⟩⟩
        · refine ⟨vs, by simp [hvl], ((SlA.of_own HOWN.out).keep (fun p hp => HK.out p (hKs _ (Nat.le_refl _) p hp))).sl, fun t h1 h2 => ?_⟩
          have ht : t < es.length := by simpa using h1
          have := ((hall t ht h2 (by omega)).keep (fun p hp => HK.out p (hKs _ (by omega) p hp))).entV
          simpa using this
        · exact (HG1.out.below (hb3.trans (hbr.mono hb3.size))).off (fun b => b = w.heap.size ∨ b = w.heap.size + 1) (NS.out wr hbw) HK.out
        · simp
        · exact BS.out
        · have hkw : ∀ s : Nat, W2.heap.size ≤ s → ∀ p : Addr, s ≤ p.block → w''.cell? p = wr.cell? p := fun s hs p hp => (hk p (by omega)).trans (HK.out p (hKs s hs p hp))
          refine ⟨vs, by simp [hvl], ((SlA.of_own HOWN.out).keep (hkw _ (Nat.le_refl _))).sl, fun t h1 h2 => ?_⟩
          have ht : t < es.length := by simpa using h1
          have := ((hall t ht h2 (by omega)).keep (hkw _ (by omega))).entV
          simpa using this
        · refine (HG1.out.below (hb3.trans (hbr.mono hb3.size))).off (fun b => b = w.heap.size ∨ b = w.heap.size + 1 ∨ b = q) (fun b o s hc hb => ?_) (fun p hp => (hk p (fun e => hp (.inr (.inr e)))).trans (HK.out p (fun e => hp (by rcases e with e | e; exact .inl e; exact .inr (.inl e)))))
          rcases hb with hb | hb | hb
          · exact NS.out wr hbw b o s hc (.inl hb)
          · exact NS.out wr hbw b o s hc (.inr hb)
          · subst hb
            refine hns o s ((HK.out ⟨b, o, none⟩ ?_).trans hc)
            show ¬ (b = w.heap.size ∨ b = w.heap.size + 1)
            omega
        · simp
  · have q1 : (ordErr c names != 0) = true := by simpa using he
    obtain ⟨g0, g1, g2, g3, g4, l0, l1, l2, l3, l4, kf, lf⟩ := KEEP.out W1 hb1
    have hxb : w.heap.size + 1 < W1.heap.size := by have := hb1.size; omega
    have lf0 := lf 0; have lf1 := lf 1; have lf2 := lf 2; have lf3 := lf 3; have lf4 := lf 4
    have HAC := Lib.hid (AC0.out he)
    clear kf lf he HF OUT1 AC0 AC1 hG1 hc1
    generalize ordErr c names = er at *
    generalize ordOut c names = og at *
    go_wp2_with fail
    (try simp only [Exit.inBlock, Exit.then]); refine bodyPost_ret (results_app _ _ (b := w.heap.size + 1) (v0 := .slice none 0 0) (v1 := .slice none 0 0) (z0 := 0) (z1 := 0) (z2 := 0) rfl (by go_simp) (by go_simp) (by go_simp) (by go_simp) (by go_simp)) rfl ?_
    rw [HAC.out]
    refine ⟨none, 0, 0, none, 0, 0, rfl, ⟨⟨[], rfl, Sl.nil _ _, fun i hi => absurd hi (Nat.not_lt_zero _)⟩, Sl.nil _ _, rfl, rfl, fun _ h => by cases h⟩, Nat.le_refl _, Nat.le_refl _, ?_, fun _ _ _ _ _ => ⟨⟨[], rfl, Sl.nil _ _, fun i hi => absurd hi (Nat.not_lt_zero _)⟩, Sl.nil _ _, rfl, rfl, fun _ h => by cases h⟩⟩
    have hN1 : w.heap.size ≤ w.heap.size + 1 := by omega
    exact ((((hb2.setCell (p := ⟨w.heap.size + 1, 0, none⟩) hN1 (.slice none 0 0)).setCell (p := ⟨w.heap.size + 1, 1, none⟩) hN1 (.slice none 0 0)).setCell (p := ⟨w.heap.size + 1, 2, none⟩) hN1 (.int .i64 0)).setCell (p := ⟨w.heap.size + 1, 3, none⟩) hN1 (.int .i64 0)).setCell (p := ⟨w.heap.size + 1, 4, none⟩) hN1 (.int .i64 0)


theorem Apply_any (A : Option Addr) (n a : Nat) (B : Option Addr) (m b : Nat) (c : Col) (N : Option Addr) (kn kc : Nat) (names : List ByteArray) (w : World) (h : ColAt w A n B m c) (hz : ColSz c) (hm8 : m ≤ 19)
    (hN : Strs w N names) (hkn : names.length = kn) (hk12 : kn ≤ 1048576) (hns : ∀ s ∈ names, s.size ≤ 9223372036854775807) :
    Calls Try.prog 19 #[colV A n a B m b c, .slice N kn kc] w (RetApp (appC c names) (ordErr c names) w) :=
  (Apply_anyF A n a B m b c N kn kc names w h hz hm8 hN hkn hk12 hns).mono fun _ _ ⟨A', n', a', B', m', b', h1, h2, h3, h4, h5, _⟩ => ⟨A', n', a', B', m', b', h1, h2, h3, h4, h5⟩

end Go.Proofs.Ytnfnoefjgiojoaa
