/- The contract of the reference's Apply. Written by gen_rapply.py. -/
import Derived.Test.YtnfnoefjgiojoaaApply
namespace Go.Proofs.Ytnfnoefjgiojoaa
open Go.RowKit Go.Maps Go.WideMaps

/-- cells in a block from s on, other than q -/
def SlX (w : World) (s : Nat) (q : Option Nat) (A : Option Addr) (cs : List Value) : Prop := cs ≠ [] → ∃ b o, A = some ⟨b, o, none⟩ ∧ s ≤ b ∧ some b ≠ q ∧ ∀ j u, cs[j]? = some u → w.cell? ⟨b, o + j, none⟩ = some u
section
variable {w w' : World} {q q' : Option Nat} {A : Option Addr} {cs : List Value} {s s' : Nat}
theorem SlX.sl (h : SlX w s q A cs) : Sl w A cs := fun hne => by
  obtain ⟨b, o, h1, _, _, h3⟩ := h hne
  exact ⟨b, o, h1, h3⟩
theorem SlX.below (h : SlX w s q A cs) (hb : Below w.heap.size w w') : SlX w' s q A cs := fun hne => by
  obtain ⟨b, o, h1, h0, h2, h3⟩ := h hne
  refine ⟨b, o, h1, h0, h2, fun j u hu => ?_⟩
  have := h3 j u hu
  exact (hb.cell (p := ⟨b, o + j, none⟩) (World.block_lt_of_cell? w _ this)).trans this
theorem SlX.grown (h : SlX w s q A cs) (hg : w.grownBy w' q) : SlX w' s q A cs := fun hne => by
  obtain ⟨b, o, h1, h0, h2, h3⟩ := h hne
  exact ⟨b, o, h1, h0, h2, fun j u hu => hg.cell (h3 j u hu) h2⟩
theorem SlX.turn (h : SlX w s q A cs) (hq : q' = q ∨ ∃ k, q' = some k ∧ w.heap.size ≤ k) : SlX w s q' A cs := fun hne => by
  obtain ⟨b, o, h1, h0, h2, h3⟩ := h hne
  refine ⟨b, o, h1, h0, ?_, h3⟩
  rcases hq with rfl | ⟨k, rfl, hk⟩
  · exact h2
  · intro e
    have hp : 0 < cs.length := List.length_pos_iff.2 hne
    have : b < w.heap.size := World.block_lt_of_cell? w _ (h3 0 cs[0] (List.getElem?_eq_getElem hp))
    injection e with e
    omega
theorem SlX.grown2 (h : SlX w s q A cs) (hg : w.grownBy w' q) (hq : q' = q ∨ ∃ k, q' = some k ∧ w.heap.size ≤ k) : SlX w' s q' A cs := fun hne => by
  obtain ⟨b, o, h1, h0, h2, h3⟩ := h hne
  obtain ⟨b', o', e1, _, e2, _⟩ := h.turn hq hne
  rw [h1] at e1
  injection e1 with e1
  injection e1 with e1 _
  subst e1
  exact ⟨b, o, h1, h0, e2, fun j u hu => hg.cell (h3 j u hu) h2⟩
theorem SlX.of_A (h : SlA w s' A cs) (hs : s ≤ s') (hq : ∀ k, q = some k → k < s') : SlX w s q A cs := fun hne => by
  obtain ⟨b, o, h1, h2, h3⟩ := h hne
  exact ⟨b, o, h1, by omega, fun e => by have := hq b e.symm; omega, h3⟩
theorem SlX.keep (h : SlX w s q A cs) (hk : ∀ p : Addr, s ≤ p.block → w'.cell? p = w.cell? p) : SlX w' s q A cs := fun hne => by
  obtain ⟨b, o, h1, h0, h2, h3⟩ := h hne
  exact ⟨b, o, h1, h0, h2, fun j u hu => (hk ⟨b, o + j, none⟩ h0).trans (h3 j u hu)⟩
end
def EntX (w : World) (s : Nat) (q : Option Nat) (v : Value × Value) (x : Ent) : Prop := ∃ A c B d, v = (.slice A x.codes.length c, .slice B x.elems.length d) ∧ SlX w s q A (x.codes.map (Value.int .i64)) ∧ SlX w s q B (flatK Elt.cells x.elems)
section
variable {w w' : World} {s : Nat} {q q' : Option Nat} {v : Value × Value} {x : Ent}
theorem EntX.below (h : EntX w s q v x) (hb : Below w.heap.size w w') : EntX w' s q v x := by
  obtain ⟨A, c, B, d, hv, h1, h2⟩ := h
  exact ⟨A, c, B, d, hv, h1.below hb, h2.below hb⟩
theorem EntX.grown (h : EntX w s q v x) (hg : w.grownBy w' q) : EntX w' s q v x := by
  obtain ⟨A, c, B, d, hv, h1, h2⟩ := h
  exact ⟨A, c, B, d, hv, h1.grown hg, h2.grown hg⟩
theorem EntX.turn (h : EntX w s q v x) (hq : q' = q ∨ ∃ k, q' = some k ∧ w.heap.size ≤ k) : EntX w s q' v x := by
  obtain ⟨A, c, B, d, hv, h1, h2⟩ := h
  exact ⟨A, c, B, d, hv, h1.turn hq, h2.turn hq⟩
theorem EntX.grown2 (h : EntX w s q v x) (hg : w.grownBy w' q) (hq : q' = q ∨ ∃ k, q' = some k ∧ w.heap.size ≤ k) : EntX w' s q' v x := by
  obtain ⟨A, c, B, d, hv, h1, h2⟩ := h
  exact ⟨A, c, B, d, hv, h1.grown2 hg hq, h2.grown2 hg hq⟩
theorem EntX.keep (h : EntX w s q v x) (hk : ∀ p : Addr, s ≤ p.block → w'.cell? p = w.cell? p) : EntX w' s q v x := by
  obtain ⟨A, c, B, d, hv, h1, h2⟩ := h
  exact ⟨A, c, B, d, hv, h1.keep hk, h2.keep hk⟩
theorem EntX.entV (h : EntX w s q v x) : EntV w v x := by
  obtain ⟨A, c, B, d, hv, h1, h2⟩ := h
  exact ⟨A, c, B, d, hv, h1.sl, h2.sl⟩
end
theorem flat4_snoc (es : List Elt) (k : Nat) (f : Int → Int) (hk : k < es.length) : flatK Elt.cells ((es.take k).map (movE f)) ++ [.int .i64 (f es[k].p), .int .i64 es[k].s, .int .i64 es[k].t, .bool es[k].v] = flatK Elt.cells ((es.take (k + 1)).map (movE f)) := by
  rw [List.take_succ_eq_append_getElem hk, List.map_append, flatK_append]
  rfl
theorem flat2_snoc (vs : List (Value × Value)) (a b : Value) : flatK two2 vs ++ [a, b] = flatK two2 (vs ++ [(a, b)]) := by
  rw [flatK_append]; rfl

set_option maxRecDepth 100000 in
set_option maxHeartbeats 3200000 in
theorem refApply_any (A : Option Addr) (n a : Nat) (B : Option Addr) (m b : Nat) (c : Col) (N : Option Addr) (kn kc : Nat) (names : List ByteArray) (w : World) (h : ColAt w A n B m c) (hz : ColSz c) (hm8 : m ≤ 19)
    (hN : Strs w N names) (hkn : names.length = kn) (hk12 : kn ≤ 1048576) (hkc : kn ≤ kc) :
    Calls Try.prog 20 #[colV A n a B m b c, .slice N kn kc] w (RetApp (appC c names) (ordErr c names) w) := by
  have B0 : Below w.heap.size w ((w.alloc (.cells #[.slice A n a, .slice B m b, .int .i64 c.base, .int .i64 c.second, .int .i64 c.third] 25)).alloc (.cells #[.slice none 0 0, .slice none 0 0, .int .i64 0, .int .i64 0, .int .i64 0] 25)) := ((Below.refl _ _).alloc (Nat.le_refl _) _).alloc (by simp) _
  have k0 : ((w.alloc (.cells #[.slice A n a, .slice B m b, .int .i64 c.base, .int .i64 c.second, .int .i64 c.third] 25)).alloc (.cells #[.slice none 0 0, .slice none 0 0, .int .i64 0, .int .i64 0, .int .i64 0] 25)).cell? ⟨w.heap.size, 0, none⟩ = some (.slice A n a) := by simp
  have k1 : ((w.alloc (.cells #[.slice A n a, .slice B m b, .int .i64 c.base, .int .i64 c.second, .int .i64 c.third] 25)).alloc (.cells #[.slice none 0 0, .slice none 0 0, .int .i64 0, .int .i64 0, .int .i64 0] 25)).cell? ⟨w.heap.size, 1, none⟩ = some (.slice B m b) := by simp
  have k2 : ((w.alloc (.cells #[.slice A n a, .slice B m b, .int .i64 c.base, .int .i64 c.second, .int .i64 c.third] 25)).alloc (.cells #[.slice none 0 0, .slice none 0 0, .int .i64 0, .int .i64 0, .int .i64 0] 25)).cell? ⟨w.heap.size, 2, none⟩ = some (.int .i64 c.base) := by simp
  have k3 : ((w.alloc (.cells #[.slice A n a, .slice B m b, .int .i64 c.base, .int .i64 c.second, .int .i64 c.third] 25)).alloc (.cells #[.slice none 0 0, .slice none 0 0, .int .i64 0, .int .i64 0, .int .i64 0] 25)).cell? ⟨w.heap.size, 3, none⟩ = some (.int .i64 c.second) := by simp
  have k4 : ((w.alloc (.cells #[.slice A n a, .slice B m b, .int .i64 c.base, .int .i64 c.second, .int .i64 c.third] 25)).alloc (.cells #[.slice none 0 0, .slice none 0 0, .int .i64 0, .int .i64 0, .int .i64 0] 25)).cell? ⟨w.heap.size, 4, none⟩ = some (.int .i64 c.third) := by simp
  have l0 : ((w.alloc (.cells #[.slice A n a, .slice B m b, .int .i64 c.base, .int .i64 c.second, .int .i64 c.third] 25)).alloc (.cells #[.slice none 0 0, .slice none 0 0, .int .i64 0, .int .i64 0, .int .i64 0] 25)).cell? ⟨w.heap.size + 1, 0, none⟩ = some (.slice none 0 0) := by simp
  have l1 : ((w.alloc (.cells #[.slice A n a, .slice B m b, .int .i64 c.base, .int .i64 c.second, .int .i64 c.third] 25)).alloc (.cells #[.slice none 0 0, .slice none 0 0, .int .i64 0, .int .i64 0, .int .i64 0] 25)).cell? ⟨w.heap.size + 1, 1, none⟩ = some (.slice none 0 0) := by simp
  have l2 : ((w.alloc (.cells #[.slice A n a, .slice B m b, .int .i64 c.base, .int .i64 c.second, .int .i64 c.third] 25)).alloc (.cells #[.slice none 0 0, .slice none 0 0, .int .i64 0, .int .i64 0, .int .i64 0] 25)).cell? ⟨w.heap.size + 1, 2, none⟩ = some (.int .i64 0) := by simp
  have l3 : ((w.alloc (.cells #[.slice A n a, .slice B m b, .int .i64 c.base, .int .i64 c.second, .int .i64 c.third] 25)).alloc (.cells #[.slice none 0 0, .slice none 0 0, .int .i64 0, .int .i64 0, .int .i64 0] 25)).cell? ⟨w.heap.size + 1, 3, none⟩ = some (.int .i64 0) := by simp
  have l4 : ((w.alloc (.cells #[.slice A n a, .slice B m b, .int .i64 c.base, .int .i64 c.second, .int .i64 c.third] 25)).alloc (.cells #[.slice none 0 0, .slice none 0 0, .int .i64 0, .int .i64 0, .int .i64 0] 25)).cell? ⟨w.heap.size + 1, 4, none⟩ = some (.int .i64 0) := by simp
  have kf : ∀ j, ((w.alloc (.cells #[.slice A n a, .slice B m b, .int .i64 c.base, .int .i64 c.second, .int .i64 c.third] 25)).alloc (.cells #[.slice none 0 0, .slice none 0 0, .int .i64 0, .int .i64 0, .int .i64 0] 25)).frozen? ⟨w.heap.size, j, none⟩ = false := fun j => by simp
  have lf : ∀ j, ((w.alloc (.cells #[.slice A n a, .slice B m b, .int .i64 c.base, .int .i64 c.second, .int .i64 c.third] 25)).alloc (.cells #[.slice none 0 0, .slice none 0 0, .int .i64 0, .int .i64 0, .int .i64 0] 25)).frozen? ⟨w.heap.size + 1, j, none⟩ = false := fun j => by simp
  have ns0 : ∀ o s, ((w.alloc (.cells #[.slice A n a, .slice B m b, .int .i64 c.base, .int .i64 c.second, .int .i64 c.third] 25)).alloc (.cells #[.slice none 0 0, .slice none 0 0, .int .i64 0, .int .i64 0, .int .i64 0] 25)).cell? ⟨w.heap.size, o, none⟩ ≠ some (.string s) := by
    intro o s; rcases o with _ | _ | _ | _ | _ | o <;> simp
  have ns1 : ∀ o s, ((w.alloc (.cells #[.slice A n a, .slice B m b, .int .i64 c.base, .int .i64 c.second, .int .i64 c.third] 25)).alloc (.cells #[.slice none 0 0, .slice none 0 0, .int .i64 0, .int .i64 0, .int .i64 0] 25)).cell? ⟨w.heap.size + 1, o, none⟩ ≠ some (.string s) := by
    intro o s; rcases o with _ | _ | _ | _ | _ | o <;> simp
  have s0 : ((w.alloc (.cells #[.slice A n a, .slice B m b, .int .i64 c.base, .int .i64 c.second, .int .i64 c.third] 25)).alloc (.cells #[.slice none 0 0, .slice none 0 0, .int .i64 0, .int .i64 0, .int .i64 0] 25)).heap.size = w.heap.size + 2 := by simp
  have W0E : ∃ W0, (w.alloc (.cells #[.slice A n a, .slice B m b, .int .i64 c.base, .int .i64 c.second, .int .i64 c.third] 25)).alloc (.cells #[.slice none 0 0, .slice none 0 0, .int .i64 0, .int .i64 0, .int .i64 0] 25) = W0 := ⟨_, rfl⟩
  have OC := Lib.hid (fun W (hb : Below w.heap.size w W) => refOrder_any A n a B m b c N kn kc names W (h.below hb) hz hm8 (hN.below hb) hkn hk12 hkc)
  have MC := Lib.hid (fun x W (hb : Below w.heap.size w W) => refMove_any A n a B m b c N kn kc names x W (h.below hb) hz hm8 (hN.below hb) hkn hk12 hkc)
  have HF := Lib.hid (ordF (c := c) (names := names))
  have HG := Lib.hid h.grps
  have HE := Lib.hid h.ents
  have HM := Lib.hid h.hm
  have HNN := Lib.hid h.hn
  have HSZ := Lib.hid h.hs
  have HZ := Lib.hid hz
  have AC0 := Lib.hid (appC0 (c := c) (names := names))
  have AC1 := Lib.hid (appC1 (c := c) (names := names))
  have OUT1 := Lib.hid (fun (h : ordErr c names = 0) => show ordOut c names = ordG c.grps names by unfold ordOut; rw [if_pos h])
  unfold colV at *
  clear h hz hN
  go_enter Try.func20, Try.ntmps20
  go_wp2_with fail
  obtain ⟨W0, hW0⟩ := W0E
  rw [hW0] at B0 s0 k0 k1 k2 k3 k4 l0 l1 l2 l3 l4 kf lf ns0 ns1 ⊢
  clear hW0
  have hx0 : w.heap.size < W0.heap.size := by omega
  have hx1 : w.heap.size + 1 < W0.heap.size := by omega
  refine (OC.out W0 B0).mono ?_
  rintro e W1 ⟨A1, c1, rfl, hc1, hG1, hb1⟩
  clear OC
  have hb2 := B0.trans (hb1.mono B0.size)
  have KEEP := Lib.hid (show ∀ W', Below W0.heap.size W0 W' → W'.cell? ⟨w.heap.size, 0, none⟩ = some (.slice A n a) ∧ W'.cell? ⟨w.heap.size, 1, none⟩ = some (.slice B m b) ∧ W'.cell? ⟨w.heap.size, 2, none⟩ = some (.int .i64 c.base) ∧ W'.cell? ⟨w.heap.size, 3, none⟩ = some (.int .i64 c.second) ∧ W'.cell? ⟨w.heap.size, 4, none⟩ = some (.int .i64 c.third) ∧ W'.cell? ⟨w.heap.size + 1, 0, none⟩ = some (.slice none 0 0) ∧ W'.cell? ⟨w.heap.size + 1, 1, none⟩ = some (.slice none 0 0) ∧ W'.cell? ⟨w.heap.size + 1, 2, none⟩ = some (.int .i64 0) ∧ W'.cell? ⟨w.heap.size + 1, 3, none⟩ = some (.int .i64 0) ∧ W'.cell? ⟨w.heap.size + 1, 4, none⟩ = some (.int .i64 0) ∧ (∀ j, W'.frozen? ⟨w.heap.size, j, none⟩ = false) ∧ (∀ j, W'.frozen? ⟨w.heap.size + 1, j, none⟩ = false) from fun W' hb => ⟨(hb.cell (p := ⟨w.heap.size, 0, none⟩) hx0).trans k0, (hb.cell (p := ⟨w.heap.size, 1, none⟩) hx0).trans k1, (hb.cell (p := ⟨w.heap.size, 2, none⟩) hx0).trans k2, (hb.cell (p := ⟨w.heap.size, 3, none⟩) hx0).trans k3, (hb.cell (p := ⟨w.heap.size, 4, none⟩) hx0).trans k4, (hb.cell (p := ⟨w.heap.size + 1, 0, none⟩) hx1).trans l0, (hb.cell (p := ⟨w.heap.size + 1, 1, none⟩) hx1).trans l1, (hb.cell (p := ⟨w.heap.size + 1, 2, none⟩) hx1).trans l2, (hb.cell (p := ⟨w.heap.size + 1, 3, none⟩) hx1).trans l3, (hb.cell (p := ⟨w.heap.size + 1, 4, none⟩) hx1).trans l4, fun j => (hb.frozen (p := ⟨w.heap.size, j, none⟩) hx0).trans (kf j), fun j => (hb.frozen (p := ⟨w.heap.size + 1, j, none⟩) hx1).trans (lf j)⟩)
  have NS := Lib.hid (show ∀ W', Below W0.heap.size W0 W' → ∀ b o s, W'.cell? ⟨b, o, none⟩ = some (.string s) → ¬ (b = w.heap.size ∨ b = w.heap.size + 1) from fun W' hb b o s hc hq => by
    rcases hq with rfl | rfl
    · exact ns0 o s ((hb.cell (p := ⟨w.heap.size, o, none⟩) hx0).symm.trans hc)
    · exact ns1 o s ((hb.cell (p := ⟨w.heap.size + 1, o, none⟩) hx1).symm.trans hc))
  clear k0 k1 k2 k3 k4 l0 l1 l2 l3 l4 kf lf ns0 ns1
  by_cases he : ordErr c names = 0
  · have hf := HF.out he
    have HOUT := Lib.hid (AC1.out he)
    rw [OUT1.out he] at hG1 hc1 ⊢
    have q1 : (ordErr c names != 0) = false := by simpa using he
    have hm := HM.out
    have hn := HNN.out
    have HER := Lib.hid he
    have HMOV := Lib.hid (fun x => show mov c names x = movF c.grps (ordG c.grps names) x by unfold mov; rw [if_pos he])
    clear he HF OUT1 AC0 AC1
    generalize hgs : c.grps = gs at *
    generalize hes : c.ents = es at *
    have HEZ := Lib.hid (show ∀ i, (hi : i < es.length) → es[i].codes.length ≤ 1048576 ∧ es[i].elems.length ≤ 1048576 by rw [← hes]; exact HZ.out.e)
    have hnz : es.length ≤ 1048576 := by rw [← hes]; exact HZ.out.n
    clear hgs hes
    subst hm
    subst hn
    generalize hor : ordErr c names = er at *
    clear hor HM HNN HZ
    have HSO := Lib.hid (hf.sz HSZ.out)
    obtain ⟨f0, f1, f2, f3, f4, _⟩ := KEEP.out W1 hb1
    have hx2 : w.heap.size < W1.heap.size := by have := hb1.size; omega
    clear hf HSZ
    generalize ordG gs names = og at *
    generalize movF gs og = F at *
    have MC := Lib.hid (fun x W hb => MC.out x W hb)
    have HG1 := Lib.hid hG1
    clear hG1
    have Bo : Below W1.heap.size W1 (W1.alloc (.cells #[.slice none 0 0, .slice A1 og.length c1, .int .i64 c.base, .int .i64 c.second, .int .i64 c.third] 25)) := (Below.refl _ _).alloc (Nat.le_refl _) _
    have m0 : (W1.alloc (.cells #[.slice none 0 0, .slice A1 og.length c1, .int .i64 c.base, .int .i64 c.second, .int .i64 c.third] 25)).cell? ⟨W1.heap.size, 0, none⟩ = some (.slice none 0 0) := by simp
    have m1 : (W1.alloc (.cells #[.slice none 0 0, .slice A1 og.length c1, .int .i64 c.base, .int .i64 c.second, .int .i64 c.third] 25)).cell? ⟨W1.heap.size, 1, none⟩ = some (.slice A1 og.length c1) := by simp
    have m2 : (W1.alloc (.cells #[.slice none 0 0, .slice A1 og.length c1, .int .i64 c.base, .int .i64 c.second, .int .i64 c.third] 25)).cell? ⟨W1.heap.size, 2, none⟩ = some (.int .i64 c.base) := by simp
    have m3 : (W1.alloc (.cells #[.slice none 0 0, .slice A1 og.length c1, .int .i64 c.base, .int .i64 c.second, .int .i64 c.third] 25)).cell? ⟨W1.heap.size, 3, none⟩ = some (.int .i64 c.second) := by simp
    have m4 : (W1.alloc (.cells #[.slice none 0 0, .slice A1 og.length c1, .int .i64 c.base, .int .i64 c.second, .int .i64 c.third] 25)).cell? ⟨W1.heap.size, 4, none⟩ = some (.int .i64 c.third) := by simp
    have mf : ∀ j, (W1.alloc (.cells #[.slice none 0 0, .slice A1 og.length c1, .int .i64 c.base, .int .i64 c.second, .int .i64 c.third] 25)).frozen? ⟨W1.heap.size, j, none⟩ = false := fun j => by simp
    have so : (W1.alloc (.cells #[.slice none 0 0, .slice A1 og.length c1, .int .i64 c.base, .int .i64 c.second, .int .i64 c.third] 25)).heap.size = W1.heap.size + 1 := by simp
    go_wp2_with fail
    obtain ⟨W2, hW2⟩ : ∃ W2, W1.alloc (.cells #[.slice none 0 0, .slice A1 og.length c1, .int .i64 c.base, .int .i64 c.second, .int .i64 c.third] 25) = W2 := ⟨_, rfl⟩
    rw [hW2] at Bo m0 m1 m2 m3 m4 mf so ⊢
    clear hW2 f0 f1 f2 f3 f4
    obtain ⟨o8, ho8⟩ : ∃ o8, W1.heap.size = o8 := ⟨_, rfl⟩
    rw [ho8] at Bo m0 m1 m2 m3 m4 mf so hx2 ⊢
    have M0 := Lib.hid (show W2.ownsRow (o8 + 1) 49 2 (.slice none 0 0) 0 (flatK two2 []) from World.ownsRow_nil _ _ _ _)
    have MM := Lib.hid (And.intro m0 (And.intro m1 (And.intro m2 (And.intro m3 (And.intro m4 mf)))))
    clear m0 m1 m2 m3 m4 mf
    go_loopw [9] (fun u wr => ∃ (i : Nat) (vs : List (Value × Value)) (AO : Option Addr) (cO : Nat), i ≤ es.length ∧ u = .int .i64 i ∧ vs.length = i ∧ wr.ownsRow (o8 + 1) 49 2 (.slice AO i cO) i (flatK two2 vs) ∧ wr.cell? ⟨o8, 0, none⟩ = some (.slice AO i cO) ∧ (wr.cell? ⟨o8, 1, none⟩ = some (.slice A1 og.length c1) ∧ wr.cell? ⟨o8, 2, none⟩ = some (.int .i64 c.base) ∧ wr.cell? ⟨o8, 3, none⟩ = some (.int .i64 c.second) ∧ wr.cell? ⟨o8, 4, none⟩ = some (.int .i64 c.third) ∧ ∀ j, wr.frozen? ⟨o8, j, none⟩ = false) ∧ (∀ t, (h1 : t < es.length) → (h2 : t < vs.length) → EntX wr (o8 + 1) (Value.ownBlock (.slice AO i cO)) vs[t] (movEnt F es[t])) ∧ Below o8 W1 wr) (fun u _ => es.length - (intOf u).toNat)
    case atStart => exact ⟨0, [], none, 0, Nat.zero_le _, rfl, rfl, M0.out, MM.out.1, MM.out.2, fun t _ h2 => by simp at h2, Bo⟩
    case round =>
      obtain ⟨i, vs, AO, cO, hi, rfl, hvl, hown, x0, hm, hdone, hbr⟩ := hrel
      have HOWN := Lib.hid hown; have HDONE := Lib.hid hdone; have HMM := Lib.hid hm; have X0 := Lib.hid x0
      have hsr : o8 < wr.heap.size := World.block_lt_of_cell? wr _ x0
      clear hown hdone hm x0 M0 MM
      have HBR := Lib.hid (ho8 ▸ hbr : Below W1.heap.size W1 wr)
      have hbw := hb1.trans (HBR.out.mono hb1.size)
      obtain ⟨g0, g1, g2, g3, g4, _⟩ := KEEP.out wr hbw
      by_cases hlt : i < es.length
      · obtain ⟨b1, o1, rfl, hbl, hcell⟩ := (HE.out.below (B0.trans (hbw.mono B0.size))).at hlt
        obtain ⟨C, cc, E, dd, c1', c2', hC, hE⟩ := hcell i hlt
        obtain ⟨z1, z2⟩ := HEZ.out i hlt
        have HC := Lib.hid hC; have HEL := Lib.hid hE
        have CE := Lib.hid (And.intro c1' c2')
        have NV := Lib.hid (fun wq q (vq : Value × Value) (hd : ∀ t, (h1 : t < es.length) → (h2 : t < vs.length) → EntX wq (o8 + 1) q vs[t] (movEnt F es[t])) (hq : EntX wq (o8 + 1) q vq (movEnt F es[i])) => show ∀ t, (h1 : t < es.length) → (h2 : t < (vs ++ [vq]).length) → EntX wq (o8 + 1) q (vs ++ [vq])[t] (movEnt F es[t]) from fun t h1 h2 => by
          rcases Nat.lt_or_ge t vs.length with g | g
          · rw [List.getElem_append_left g]; exact hd t h1 g
          · have h3 : t = i := by simp at h2; omega
            subst h3
            rw [List.getElem_append_right g]; simpa using hq)
        clear hcell hC hE
        generalize hei : es[i] = ei at *
        obtain ⟨ec, ee⟩ := ei
        dsimp only at *
        clear hei
        have hxw : w.heap.size < wr.heap.size := by omega
        have hn1 : ¬ b1 = wr.heap.size := by omega
        have hn2 : ¬ w.heap.size = wr.heap.size := by omega
        go_wp2_with (at_builtin; refine wpList_app _ _ 46 3 (.int .i64 0) 1 8 rfl rfl Try.underlying46 info_int rfl (by decide) (by decide) rfl (own_new [] 3 1 0 wr.heap.size rfl rfl (Nat.le_refl _) (by omega)) rfl (Sl.alloc HC.out _) (by simp) (oneCell_ints _) (by omega) (by simp) ?_; intro A9 c9 w9 hown9 hc9 hb9 hgr9 hAA9; clear hgr9 hAA9; simp only [Nat.zero_add, List.nil_append] at hown9 hc9)
        have hb9' : Below wr.heap.size wr w9 := ((Below.refl _ _).alloc (Nat.le_refl _) _).trans hb9
        have HOC := Lib.hid hown9
        have Bt : Below w9.heap.size w9 (w9.alloc (.cells #[.slice A9 ec.length c9, .slice none 0 0] 49)) := (Below.refl _ _).alloc (Nat.le_refl _) _
        have y0 : (w9.alloc (.cells #[.slice A9 ec.length c9, .slice none 0 0] 49)).cell? ⟨w9.heap.size, 0, none⟩ = some (.slice A9 ec.length c9) := by simp
        have y1 : (w9.alloc (.cells #[.slice A9 ec.length c9, .slice none 0 0] 49)).cell? ⟨w9.heap.size, 1, none⟩ = some (.slice none 0 0) := by simp
        have yf : ∀ j, (w9.alloc (.cells #[.slice A9 ec.length c9, .slice none 0 0] 49)).frozen? ⟨w9.heap.size, j, none⟩ = false := fun j => by simp
        obtain ⟨Wt, hWt⟩ : ∃ Wt, w9.alloc (.cells #[.slice A9 ec.length c9, .slice none 0 0] 49) = Wt := ⟨_, rfl⟩
        rw [hWt] at Bt y0 y1 yf ⊢
        obtain ⟨tx, htx⟩ : ∃ tx, w9.heap.size = tx := ⟨_, rfl⟩
        rw [htx] at Bt y0 y1 yf ⊢
        have hwx : wr.heap.size ≤ tx := by have := hb9'.size; omega
        have YY := Lib.hid (And.intro y0 (And.intro y1 yf))
        have HB9 := Lib.hid hb9'
        have EN := Lib.hid (show Wt.ownsRow (tx + 1) 51 4 (.slice none 0 0) 0 (flatK Elt.cells []) from World.ownsRow_nil _ _ _ _)
        clear hWt hown9 hb9 hb9' y0 y1 yf c1' c2' g0 g1 g2 g3 g4
        obtain ⟨wr0, rfl⟩ : ∃ wr0 : World, wr0 = wr := ⟨_, rfl⟩
        go_loopw [11] (fun u wr => ∃ (k : Nat) (AE : Option Addr) (cE : Nat), k ≤ ee.length ∧ u = .int .i64 k ∧ wr.ownsRow (tx + 1) 51 4 (.slice AE k cE) k (flatK Elt.cells ((ee.take k).map (movE F))) ∧ wr.cell? ⟨tx, 0, none⟩ = some (.slice A9 ec.length c9) ∧ wr.cell? ⟨tx, 1, none⟩ = some (.slice AE k cE) ∧ (∀ j, wr.frozen? ⟨tx, j, none⟩ = false) ∧ Below tx w9 wr) (fun u _ => ee.length - (intOf u).toNat)
        case atStart => exact ⟨0, none, 0, Nat.zero_le _, rfl, EN.out, YY.out.1, YY.out.2.1, YY.out.2.2, Bt⟩
        case round =>
          obtain ⟨k, AE, cE, hk, rfl, hoq, t0, t1, tf, hbq⟩ := hrel
          have HOQ := Lib.hid hoq; have TF := Lib.hid tf
          have htw : tx < wr.heap.size := World.block_lt_of_cell? wr _ t0
          clear hoq tf EN YY
          have HBQ := Lib.hid (htx ▸ hbq : Below w9.heap.size w9 wr)
          have HBW := Lib.hid (HB9.out.trans (HBQ.out.mono HB9.out.size))
          have hbw2 := hbw.trans (HBW.out.mono hbw.size)
          obtain ⟨g0, g1, g2, g3, g4, _⟩ := KEEP.out wr hbw2
          have c1' := (HBW.out.cell (p := ⟨b1, o1 + i * 2, none⟩) hbl).trans CE.out.1
          have c2' := (HBW.out.cell (p := ⟨b1, o1 + i * 2 + 1, none⟩) hbl).trans CE.out.2
          have hii : (i : Int) < (es.length : Int) := by omega
          have hxq : w.heap.size < wr.heap.size := by have := HBW.out.size; omega
          by_cases hltk : k < ee.length
          · obtain ⟨b2, o2, rfl, hbl2, hc2⟩ := (HEL.out.below HBW.out).at hltk
            obtain ⟨d1, d2, d3, d4⟩ := hc2 k hltk
            have HSN := Lib.hid (flat4_snoc ee k F hltk)
            have M := Lib.hid (fun W (hb : Below w.heap.size w W) => MC.out ee[k].p W hb)
            rw [HMOV.out] at M
            clear hc2
            generalize ee[k] = ek at *
            obtain ⟨ep, es', et, ev⟩ := ek
            dsimp only at *
            have hn5 : ¬ b2 = wr.heap.size := by omega
            have hn6 : ¬ w.heap.size = wr.heap.size := by omega
            have By : Below wr.heap.size wr (wr.alloc (.cells #[.int .i64 ep, .int .i64 es', .int .i64 et, .bool ev] 51)) := (Below.refl _ _).alloc (Nat.le_refl _) _
            have v0 : (wr.alloc (.cells #[.int .i64 ep, .int .i64 es', .int .i64 et, .bool ev] 51)).cell? ⟨wr.heap.size, 0, none⟩ = some (.int .i64 ep) := by simp
            have v1 : (wr.alloc (.cells #[.int .i64 ep, .int .i64 es', .int .i64 et, .bool ev] 51)).cell? ⟨wr.heap.size, 1, none⟩ = some (.int .i64 es') := by simp
            have v2 : (wr.alloc (.cells #[.int .i64 ep, .int .i64 es', .int .i64 et, .bool ev] 51)).cell? ⟨wr.heap.size, 2, none⟩ = some (.int .i64 et) := by simp
            have v3 : (wr.alloc (.cells #[.int .i64 ep, .int .i64 es', .int .i64 et, .bool ev] 51)).cell? ⟨wr.heap.size, 3, none⟩ = some (.bool ev) := by simp
            have vf : (wr.alloc (.cells #[.int .i64 ep, .int .i64 es', .int .i64 et, .bool ev] 51)).frozen? ⟨wr.heap.size, 0, none⟩ = false := by simp
            have sy : (wr.alloc (.cells #[.int .i64 ep, .int .i64 es', .int .i64 et, .bool ev] 51)).heap.size = wr.heap.size + 1 := by simp
            go_wp2_with fail
            obtain ⟨Wy, hWy⟩ : ∃ Wy, wr.alloc (.cells #[.int .i64 ep, .int .i64 es', .int .i64 et, .bool ev] 51) = Wy := ⟨_, rfl⟩
            rw [hWy] at By v0 v1 v2 v3 vf sy ⊢
            clear hWy d1 d2 d3 d4
            have hbw3 := (B0.trans (hbw2.mono B0.size)).trans (By.mono (by have := hbw2.size; have := B0.size; omega))
            with_reducible refine (M.out Wy hbw3).mono ?_
            rintro e Wz ⟨rfl, hbz⟩
            have hyz : wr.heap.size < Wy.heap.size := by omega
            have u0 := (hbz.cell (p := ⟨wr.heap.size, 0, none⟩) hyz).trans v0
            have u1 := (hbz.cell (p := ⟨wr.heap.size, 1, none⟩) hyz).trans v1
            have u2 := (hbz.cell (p := ⟨wr.heap.size, 2, none⟩) hyz).trans v2
            have u3 := (hbz.cell (p := ⟨wr.heap.size, 3, none⟩) hyz).trans v3
            have uf := (hbz.frozen (p := ⟨wr.heap.size, 0, none⟩) hyz).trans vf
            have byz := By.trans (hbz.mono By.size)
            have p0 := (byz.cell (p := ⟨tx, 0, none⟩) htw).trans t0
            have p1 := (byz.cell (p := ⟨tx, 1, none⟩) htw).trans t1
            have hsz : wr.heap.size < Wz.heap.size := by have := hbz.size; omega
            have Bs := byz.setCell (p := ⟨wr.heap.size, 0, none⟩) (Nat.le_refl _) (.int .i64 (F ep))
            have PF := Lib.hid (fun j => (Bs.frozen (p := ⟨tx, j, none⟩) htw).trans (TF.out j))
            have HOB := Lib.hid (own_keep HOQ.out Bs)
            have hn7 : ¬ tx = wr.heap.size := by omega
            have hn8 : ¬ wr.heap.size = tx := by omega
            have szs : (Wz.setCell ⟨wr.heap.size, 0, none⟩ (.int .i64 (F ep))).heap.size = Wz.heap.size := by simp
            have htz : tx < Wz.heap.size := by omega
            have Bp : Below wr.heap.size wr ((Wz.setCell ⟨wr.heap.size, 0, none⟩ (.int .i64 (F ep))).alloc (.cells #[.int .i64 (F ep), .int .i64 es', .int .i64 et, .bool ev] 51)) := Bs.alloc Bs.size _
            have pp1 := (Bp.cell (p := ⟨tx, 1, none⟩) htw).trans t1
            have pp0 := (Bp.cell (p := ⟨tx, 0, none⟩) htw).trans t0
            have HPPF := Lib.hid (fun j => (Bp.frozen (p := ⟨tx, j, none⟩) htw).trans (TF.out j))
            have HOP := Lib.hid (own_keep HOQ.out Bp)
            have szp : tx + 1 ≤ ((Wz.setCell ⟨wr.heap.size, 0, none⟩ (.int .i64 (F ep))).alloc (.cells #[.int .i64 (F ep), .int .i64 es', .int .i64 et, .bool ev] 51)).heap.size := by have := Bp.size; omega
            have HBP := Lib.hid Bp
            clear M v0 v1 v2 v3 vf t0 t1 g0 g1 g2 g3 g4 c1' c2' PF HOB Bp Bs
            go_wp2_with (at_builtin; refine wpList_app _ _ 47 51 (.agg #[.int .i64 0, .int .i64 0, .int .i64 0, .bool false]) 4 32 rfl rfl Try.underlying47 info_elt rfl (by decide) (by decide) rfl HOP.out rfl (Sl_new _ [.int .i64 (F ep), .int .i64 es', .int .i64 et, .bool ev] _ (by simp)) rfl (by intro u hu; simp at hu; rcases hu with rfl | rfl | rfl | rfl <;> rfl) (by omega) szp ?_; intro A8 c8 w8 hown8 hc8 hb8 hgr8 hAA8; clear hgr8 hAA8; have r1 := (hb8.cell (p := ⟨tx, 1, none⟩) (Nat.lt_succ_self _)).trans pp1; have r0 := (hb8.cell (p := ⟨tx, 0, none⟩) (Nat.lt_succ_self _)).trans pp0; have rf := (hb8.frozen (p := ⟨tx, 1, none⟩) (Nat.lt_succ_self _)).trans (HPPF.out 1); clear pp1 pp0; have HO8 := Lib.hid hown8; clear hown8)
            have RF := Lib.hid (fun j => (hb8.frozen (p := ⟨tx, j, none⟩) (Nat.lt_succ_self _)).trans (HPPF.out j))
            have HB8 := Lib.hid hb8
            clear hb8
            go_roundw
            case rel =>
              refine ⟨k + 1, A8, c8, by omega, by go_num, ?_, ?_, ?_, ?_, ?_⟩
              · have := ownsRow_setCell_below HO8.out (a := ⟨tx, 1, none⟩) (Nat.lt_succ_self _) (.slice A8 (k + 1) c8)
                rw [HSN.out] at this
                exact this
              · exact (World.cell?_setCell_other _ _ _ _ (by simp)).trans r0
              · go_simp
              · intro j
                have := RF.out j
                simpa using this
              · have hle : tx ≤ wr.heap.size := by omega
                exact ((hbq.trans (HBP.out.mono hle)).trans (HB8.out.mono (Nat.le_succ _))).setCell (p := ⟨tx, 1, none⟩) (Nat.le_refl _) _
            case measure => simp [intOf]; omega
          · obtain rfl : k = ee.length := by omega
            have tk : ee.take ee.length = ee := List.take_length
            have hoE := HOQ.out
            rw [tk] at hoE
            have HOE := Lib.hid (SlA.of_own hoE)
            have xx0 := (HBW.out.cell (p := ⟨o8, 0, none⟩) hsr).trans X0.out
            have hsq : o8 < wr.heap.size := by have := HBW.out.size; omega
            have Bp : Below wr.heap.size wr (wr.alloc (.cells #[.slice A9 ec.length c9, .slice AE ee.length cE] 49)) := (Below.refl _ _).alloc (Nat.le_refl _) _
            have HBP := Lib.hid Bp
            have HB0 := Lib.hid (HBW.out.trans (Bp.mono HBW.out.size))
            have HOP := Lib.hid (own_keep HOWN.out HB0.out)
            have pp0 := (HB0.out.cell (p := ⟨o8, 0, none⟩) hsr).trans X0.out
            have HPM := Lib.hid (And.intro ((HB0.out.cell (p := ⟨o8, 1, none⟩) hsr).trans HMM.out.1) (And.intro ((HB0.out.cell (p := ⟨o8, 2, none⟩) hsr).trans HMM.out.2.1) (And.intro ((HB0.out.cell (p := ⟨o8, 3, none⟩) hsr).trans HMM.out.2.2.1) (And.intro ((HB0.out.cell (p := ⟨o8, 4, none⟩) hsr).trans HMM.out.2.2.2.1) (fun j => (HB0.out.frozen (p := ⟨o8, j, none⟩) hsr).trans (HMM.out.2.2.2.2 j))))))
            have szp : o8 + 1 ≤ (wr.alloc (.cells #[.slice A9 ec.length c9, .slice AE ee.length cE] 49)).heap.size := by have := Bp.size; omega
            have hn9 : ¬ o8 = wr.heap.size := by omega
            have ND := Lib.hid (fun t h1 h2 => (HDONE.out t h1 h2).below HB0.out)
            have hql : ∀ k, Value.ownBlock (.slice AO i cO) = some k → k < wr0.heap.size := fun k hk => (HOWN.out.lt k hk).2
            have EA := Lib.hid (show EntX (wr.alloc (.cells #[.slice A9 ec.length c9, .slice AE ee.length cE] 49)) (o8 + 1) (Value.ownBlock (.slice AO i cO)) (.slice A9 ec.length c9, .slice AE ee.length cE) (movEnt F ⟨ec, ee⟩) from ⟨A9, c9, AE, cE, by simp [movEnt], SlX.of_A ((SlA.of_own HOC.out).below (HBQ.out.trans (Bp.mono HBQ.out.size))) (by omega) hql, SlX.of_A (HOE.out.below Bp) (by omega) (fun k hk => by have := hql k hk; omega)⟩)
            have hi12 : i < 1048576 := by omega
            clear g1 g2 g3 g4 hoE Bp
            go_wp2_with (at_builtin; refine wpList_app _ _ 22 49 (.agg #[.slice none 0 0, .slice none 0 0]) 2 48 rfl rfl Try.underlying22 info_ent rfl (by decide) (by decide) rfl HOP.out rfl (Sl_new _ [.slice A9 ec.length c9, .slice AE ee.length cE] _ (by simp)) rfl (by intro u hu; simp at hu; rcases hu with rfl | rfl <;> rfl) (by omega) szp ?_; intro A7 c7 w7 hown7 hc7 hb7 hgr7 hAA7; have r0 := (hb7.cell (p := ⟨o8, 0, none⟩) (Nat.lt_succ_self _)).trans pp0; have rf := (hb7.frozen (p := ⟨o8, 0, none⟩) (Nat.lt_succ_self _)).trans (HPM.out.2.2.2.2 0); clear pp0; have HO7 := Lib.hid hown7; have HGR := Lib.hid hgr7; have HAA := Lib.hid hAA7; clear hown7 hgr7 hAA7)
            have RM := Lib.hid (And.intro ((hb7.cell (p := ⟨o8, 1, none⟩) (Nat.lt_succ_self _)).trans HPM.out.1) (And.intro ((hb7.cell (p := ⟨o8, 2, none⟩) (Nat.lt_succ_self _)).trans HPM.out.2.1) (And.intro ((hb7.cell (p := ⟨o8, 3, none⟩) (Nat.lt_succ_self _)).trans HPM.out.2.2.1) (And.intro ((hb7.cell (p := ⟨o8, 4, none⟩) (Nat.lt_succ_self _)).trans HPM.out.2.2.2.1) (fun j => (hb7.frozen (p := ⟨o8, j, none⟩) (Nat.lt_succ_self _)).trans (HPM.out.2.2.2.2 j))))))
            have HB7 := Lib.hid hb7
            clear hb7
            go_roundw
            case rel =>
              have hq : Value.ownBlock (.slice A7 (i + 1) c7) = Value.ownBlock (.slice AO i cO) ∨ ∃ k, Value.ownBlock (.slice A7 (i + 1) c7) = some k ∧ (wr.alloc (.cells #[.slice A9 ec.length c9, .slice AE ee.length cE] 49)).heap.size ≤ k := by
                rcases HAA.out with h | h
                · left; rw [h]; cases AO <;> rfl
                · right; rw [h]; exact ⟨_, rfl, Nat.le_refl _⟩
              have hkk : ∀ p : Addr, o8 + 1 ≤ p.block → (w7.setCell ⟨o8, 0, none⟩ (.slice A7 (i + 1) c7)).cell? p = w7.cell? p := fun p hp => World.cell?_setCell_far _ _ _ _ (show o8 ≠ p.block by omega)
              refine ⟨i + 1, vs ++ [(.slice A9 ec.length c9, .slice AE ee.length cE)], A7, c7, by omega, by go_num, by simp [hvl], ?_, ?_, ⟨?_, ?_, ?_, ?_, ?_⟩, ?_, ?_⟩
              · have := ownsRow_setCell_below HO7.out (a := ⟨o8, 0, none⟩) (Nat.lt_succ_self _) (.slice A7 (i + 1) c7)
                rw [flat2_snoc] at this
                exact this
              · go_simp
              · exact (World.cell?_setCell_other _ _ _ _ (by simp)).trans RM.out.1
              · exact (World.cell?_setCell_other _ _ _ _ (by simp)).trans RM.out.2.1
              · exact (World.cell?_setCell_other _ _ _ _ (by simp)).trans RM.out.2.2.1
              · exact (World.cell?_setCell_other _ _ _ _ (by simp)).trans RM.out.2.2.2.1
              · intro j
                have := RM.out.2.2.2.2 j
                simpa using this
              · exact NV.out _ _ _ (fun t h1 h2 => ((ND.out t h1 h2).grown2 HGR.out hq).keep hkk) ((EA.out.grown2 HGR.out hq).keep hkk)
              · exact ((hbr.trans (HB0.out.mono (by omega))).trans (HB7.out.mono (Nat.le_succ _))).setCell (p := ⟨o8, 0, none⟩) (Nat.le_refl _) _
            case measure => simp [intOf]; omega
      · obtain rfl : i = es.length := by omega
        have hall := HDONE.out
        have x0 := X0.out
        obtain ⟨m1, m2, m3, m4, mf⟩ := HMM.out
        obtain ⟨_, _, _, _, _, l0, l1, l2, l3, l4, kf, lf⟩ := KEEP.out wr hbw
        have hxb : w.heap.size + 1 < wr.heap.size := by have := hb1.size; omega
        have hxc : w.heap.size + 1 < o8 := by have := hb1.size; omega
        have hxd : ¬ w.heap.size + 1 = o8 := by omega
        have hxe : ¬ o8 = w.heap.size + 1 := by omega
        have lf0 := lf 0; have lf1 := lf 1; have lf2 := lf 2; have lf3 := lf 3; have lf4 := lf 4
        clear kf lf mf g0 g1 g2 g3 g4
        go_wp2_with fail
        (try simp only [Exit.inBlock, Exit.then]); refine bodyPost_ret (results_rapp _ _ (b := w.heap.size + 1) (v0 := .slice AO es.length cO) (v1 := .slice A1 og.length c1) (z0 := c.base) (z1 := c.second) (z2 := c.third) rfl (by go_simp) (by go_simp) (by go_simp) (by go_simp) (by go_simp)) rfl ?_
        have BF := Lib.hid (B0.trans (hbw.mono B0.size))
        have hN1 : w.heap.size ≤ w.heap.size + 1 := by omega
        rw [HER.out, HOUT.out]
        have HK : Hid (∀ p : Addr, ¬ (p.block = w.heap.size ∨ p.block = w.heap.size + 1) → (((((wr.setCell ⟨w.heap.size + 1, 0, none⟩ (.slice AO es.length cO)).setCell ⟨w.heap.size + 1, 1, none⟩ (.slice A1 og.length c1)).setCell ⟨w.heap.size + 1, 2, none⟩ (.int .i64 c.base)).setCell ⟨w.heap.size + 1, 3, none⟩ (.int .i64 c.second)).setCell ⟨w.heap.size + 1, 4, none⟩ (.int .i64 c.third)).cell? p = wr.cell? p) := Lib.hid (fun p hp => by
          have h1 : w.heap.size + 1 ≠ p.block := fun e => hp (.inr e.symm)
          refine (World.cell?_setCell_far _ _ _ _ h1).trans ?_
          refine (World.cell?_setCell_far _ _ _ _ h1).trans ?_
          refine (World.cell?_setCell_far _ _ _ _ h1).trans ?_
          refine (World.cell?_setCell_far _ _ _ _ h1).trans ?_
          exact World.cell?_setCell_far _ _ _ _ h1)
        have BS := Lib.hid (((((BF.out.setCell (p := ⟨w.heap.size + 1, 0, none⟩) hN1 (.slice AO es.length cO)).setCell (p := ⟨w.heap.size + 1, 1, none⟩) hN1 (.slice A1 og.length c1)).setCell (p := ⟨w.heap.size + 1, 2, none⟩) hN1 (.int .i64 c.base)).setCell (p := ⟨w.heap.size + 1, 3, none⟩) hN1 (.int .i64 c.second)).setCell (p := ⟨w.heap.size + 1, 4, none⟩) hN1 (.int .i64 c.third))
        have hKs : ∀ p : Addr, o8 + 1 ≤ p.block → ¬ (p.block = w.heap.size ∨ p.block = w.heap.size + 1) := fun p hp => by omega
        obtain ⟨_, _, hv9, hcO⟩ := own_form HOWN.out
        injection hv9 with _ _ hv9
        subst hv9
        refine ⟨AO, es.length, cO, A1, og.length, c1, rfl, ⟨?_, ?_, ?_, rfl, HSO.out⟩, hcO, hc1, ?_⟩
        · refine ⟨vs, by simp [hvl], ((SlA.of_own HOWN.out).keep (fun p hp => HK.out p (hKs p hp))).sl, fun t h1 h2 => ?_⟩
          have ht : t < es.length := by simpa using h1
          have := ((hall t ht h2).keep (fun p hp => HK.out p (hKs p hp))).entV
          simpa using this
        · exact (HG1.out.below HBR.out).off (fun b => b = w.heap.size ∨ b = w.heap.size + 1) (NS.out wr hbw) HK.out
        · simp
        · exact BS.out
  · have q1 : (ordErr c names != 0) = true := by simpa using he
    obtain ⟨g0, g1, g2, g3, g4, l0, l1, l2, l3, l4, kf, lf⟩ := KEEP.out W1 hb1
    have hxb : w.heap.size + 1 < W1.heap.size := by have := hb1.size; omega
    have lf0 := lf 0; have lf1 := lf 1; have lf2 := lf 2; have lf3 := lf 3; have lf4 := lf 4
    have HAC := Lib.hid (AC0.out he)
    clear kf lf he HF OUT1 AC0 AC1 hG1 hc1 MC
    generalize ordErr c names = er at *
    generalize ordOut c names = og at *
    go_wp2_with fail
    (try simp only [Exit.inBlock, Exit.then]); refine bodyPost_ret (results_rapp _ _ (b := w.heap.size + 1) (v0 := .slice none 0 0) (v1 := .slice none 0 0) (z0 := 0) (z1 := 0) (z2 := 0) rfl (by go_simp) (by go_simp) (by go_simp) (by go_simp) (by go_simp)) rfl ?_
    rw [HAC.out]
    refine ⟨none, 0, 0, none, 0, 0, rfl, ⟨⟨[], rfl, Sl.nil _ _, fun i hi => absurd hi (Nat.not_lt_zero _)⟩, Sl.nil _ _, rfl, rfl, fun _ h => by cases h⟩, Nat.le_refl _, Nat.le_refl _, ?_⟩
    have hN1 : w.heap.size ≤ w.heap.size + 1 := by omega
    exact ((((hb2.setCell (p := ⟨w.heap.size + 1, 0, none⟩) hN1 (.slice none 0 0)).setCell (p := ⟨w.heap.size + 1, 1, none⟩) hN1 (.slice none 0 0)).setCell (p := ⟨w.heap.size + 1, 2, none⟩) hN1 (.int .i64 0)).setCell (p := ⟨w.heap.size + 1, 3, none⟩) hN1 (.int .i64 0)).setCell (p := ⟨w.heap.size + 1, 4, none⟩) hN1 (.int .i64 0)

end Go.Proofs.Ytnfnoefjgiojoaa
