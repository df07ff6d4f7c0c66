/- The contracts of casemap.Final, Upper and Lower. Written by gen_casel.py. -/
import Derived.Test.YtpamkbbmbeeheaaCaseX
namespace Go.Proofs.Ytpamkbbmbeeheaa
open Go.RowKit Go.Maps Go.WideMaps

theorem Box.bools {w : World} {b : Nat} {n : Nat} {f : Nat → Bool} (h : Box w b 4 (tabV n f)) : Bools w (some ⟨b, 0, none⟩) ((List.range n).map f) := by
  unfold Bools
  rw [tabV_map]
  intro _
  exact ⟨b, 0, rfl, fun j u hu => by rw [Nat.zero_add]; exact h.cell hu⟩
/-- whether the element with any index is final -/
def finalB (C : Cse) (t : List Int) (i : Int) : Bool := decide (0 ≤ i) && (decide (i < t.length) && finC C t i.toNat)
theorem finalB_lo (C : Cse) (t : List Int) {i : Int} (h : i < 0) : finalB C t i = false := by unfold finalB; rw [decide_eq_false (by omega)]; rfl
theorem finalB_hi (C : Cse) (t : List Int) {i : Int} (h : (t.length : Int) ≤ i) : finalB C t i = false := by unfold finalB; rw [decide_eq_false (p := i < t.length) (by omega)]; simp
theorem finalB_in (C : Cse) (t : List Int) {k : Nat} (h : k < t.length) : finalB C t k = finC C t k := by unfold finalB; rw [decide_eq_true (by omega), decide_eq_true (by omega)]; simp

set_option maxRecDepth 100000 in
set_option maxHeartbeats 6400000 in
theorem Final_any (v0 v1 v2 v3 v4 v5 : Value) (C : Cse) (A : Option Addr) (n a : Nat) (t : List Int) (i : Int) (w : World) (h : CaseAt w v0 v1 v2 v3 v4 v5 C) (hz : CaseSz C) (hA : Ints w A t) (hn : t.length = n) (hb : n ≤ 1048576) :
    Calls Try.prog 17 #[.agg #[v0, v1, v2, v3, v4, v5], .slice A n a, .int .i64 i] w (RetBool (finalB (caseD C) t i) w) := by
  subst hn
  obtain ⟨A0, n0, c0, rfl⟩ := h.lower.sl
  obtain ⟨A1, n1, c1, rfl⟩ := h.upper.sl
  obtain ⟨A2, n2, c2, rfl⟩ := h.title.sl
  obtain ⟨A3, n3, c3, rfl⟩ := h.fold.sl
  obtain ⟨A4, n4, c4, rfl⟩ := h.cased.sl
  obtain ⟨A5, n5, c5, rfl⟩ := h.ign.sl
  have B0 : Below w.heap.size w (w.alloc (.cells #[.slice A0 n0 c0, .slice A1 n1 c1, .slice A2 n2 c2, .slice A3 n3 c3, .slice A4 n4 c4, .slice A5 n5 c5] 27)) := (Below.refl _ _).alloc (Nat.le_refl _) _
  have s0 : (w.alloc (.cells #[.slice A0 n0 c0, .slice A1 n1 c1, .slice A2 n2 c2, .slice A3 n3 c3, .slice A4 n4 c4, .slice A5 n5 c5] 27)).heap.size = w.heap.size + 1 := by simp
  have X0 : Box (w.alloc (.cells #[.slice A0 n0 c0, .slice A1 n1 c1, .slice A2 n2 c2, .slice A3 n3 c3, .slice A4 n4 c4, .slice A5 n5 c5] 27)) w.heap.size 27 [.slice A0 n0 c0, .slice A1 n1 c1, .slice A2 n2 c2, .slice A3 n3 c3, .slice A4 n4 c4, .slice A5 n5 c5] := Box.new w 27 [.slice A0 n0 c0, .slice A1 n1 c1, .slice A2 n2 c2, .slice A3 n3 c3, .slice A4 n4 c4, .slice A5 n5 c5] rfl
  have W0E : ∃ W0, (w.alloc (.cells #[.slice A0 n0 c0, .slice A1 n1 c1, .slice A2 n2 c2, .slice A3 n3 c3, .slice A4 n4 c4, .slice A5 n5 c5] 27)) = W0 := ⟨_, rfl⟩
  have VD := Lib.hid (fun W (hb : Below w.heap.size w W) => valid_any _ _ _ _ _ _ C W (h.below hb) hz)
  have CA := Lib.hid (fun W (hb : Below w.heap.size w W) => h.below hb)
  have CX := Lib.hid (fun W u0 u1 u2 u3 u4 u5 (hb' : Below w.heap.size w W) (hc : CaseAt W u0 u1 u2 u3 u4 u5 (caseD C)) => context_any u0 u1 u2 u3 u4 u5 (caseD C) A t.length a t W hc hz.d (hA.below hb') rfl hb)
  have F0 := Lib.hid (fun h => finalB_lo (caseD C) t (i := i) h)
  have F1 := Lib.hid (fun h => finalB_hi (caseD C) t (i := i) h)
  have F2 := Lib.hid (fun k h => finalB_in (caseD C) t (k := k) h)
  clear h hz hA
  by_cases h0 : i < 0
  · have q0 : decide (i < 0) = true := by simpa using h0
    have E := Lib.hid (F0.out h0)
    generalize finalB (caseD C) t i = R at *
    obtain rfl := E.out
    clear F0 F1 F2 CX E
    go_enter Try.func17, Try.ntmps17
    go_wp2_with fail
    go_ret
    exact ⟨rfl, B0⟩
  · by_cases h1 : (t.length : Int) ≤ i
    · have q0 : decide (i < 0) = false := by simpa using h0
      have E := Lib.hid (F1.out h1)
      generalize finalB (caseD C) t i = R at *
      obtain rfl := E.out
      clear F0 F1 F2 CX E
      go_enter Try.func17, Try.ntmps17
      go_wp2_with fail
      go_ret
      exact ⟨rfl, B0⟩
    · obtain ⟨k, rfl⟩ : ∃ k : Nat, i = k := ⟨i.toNat, by omega⟩
      have hk : k < t.length := by omega
      have E := Lib.hid (F2.out k hk)
      clear F0 F1 F2
      generalize finalB (caseD C) t k = R at *
      go_enter Try.func17, Try.ntmps17
      have kk := X0.cell (i := 0) rfl
      go_wp2_with fail
      obtain ⟨W0, hW0⟩ := W0E
      rw [hW0] at B0 s0 X0 ⊢
      clear hW0
      have hx0 : w.heap.size < W0.heap.size := by omega
      with_reducible refine (VD.out W0 B0).mono ?_
      rintro e W1 ⟨u0, u1, u2, u3, u4, u5, rfl, hT, hb1⟩
      have hb2 := B0.trans (hb1.mono B0.size)
      have hC1 := hT W1 (CA.out W1 hb2)
      obtain ⟨B0, m0, d0, rfl⟩ := hC1.lower.sl
      obtain ⟨B1, m1, d1, rfl⟩ := hC1.upper.sl
      obtain ⟨B2, m2, d2, rfl⟩ := hC1.title.sl
      obtain ⟨B3, m3, d3, rfl⟩ := hC1.fold.sl
      obtain ⟨B4, m4, d4, rfl⟩ := hC1.cased.sl
      obtain ⟨B5, m5, d5, rfl⟩ := hC1.ign.sl
      have HT := Lib.hid hT
      clear hT hC1 VD
      go_wp2_with fail
      with_reducible refine (CX.out W1 _ _ _ _ _ _ hb2 (HT.out W1 (CA.out W1 hb2))).mono ?_
      rintro e W2 ⟨bC, bF, rfl, hBC, hBF, _, _, hb3⟩
      have g0 := hBF.cell (i := k) (tabV_get _ hk)
      have gl := hBF.lt
      have hb4 := hb2.trans (hb3.mono hb2.size)
      rw [← E.out] at g0
      clear E hBC hBF CX HT CA
      go_wp2_with fail
      go_ret
      exact ⟨rfl, hb4⟩

theorem MpsV.tgt {w : World} {v : Value} {ms : List Mp} (h : MpsV w v ms) (hz : MpsSz ms) (hok : mapErr ms = 0) (tag : ByteArray) : Calls Try.prog 42 #[v, .string tag] w (RetTgt (fun x => getM ms x tag) w) := by
  obtain ⟨A, c, rfl, _, hM⟩ := h
  exact targets_any A ms.length c ms tag w hM rfl hz hok
theorem RetIs.from {l : List Int} {w w1 : World} {e : Ending} {w' : World} (h : RetIs l w1 e w') (hb : Below w.heap.size w w1) : RetIs l w e w' := by
  obtain ⟨E, d, h1, h2, h3, h4⟩ := h
  exact ⟨E, d, h1, h2, h3, hb.trans (h4.mono hb.size)⟩
set_option maxRecDepth 100000 in
set_option maxHeartbeats 6400000 in
theorem Upper_any (v0 v1 v2 v3 v4 v5 : Value) (C : Cse) (A : Option Addr) (n a : Nat) (t : List Int) (w : World) (h : CaseAt w v0 v1 v2 v3 v4 v5 C) (hz : CaseSz C) (hA : Ints w A t) (hn : t.length = n) (hb : n ≤ 1048576) (hna : n ≤ a) (haz : a ≤ 9223372036854775807) (hok : ∀ x ∈ t, iok x) :
    Calls Try.prog 22 #[.agg #[v0, v1, v2, v3, v4, v5], .slice A n a] w (RetIs (upL (caseD C) t) w) := by
  subst hn
  obtain ⟨A0, n0, c0, rfl⟩ := h.lower.sl
  obtain ⟨A1, n1, c1, rfl⟩ := h.upper.sl
  obtain ⟨A2, n2, c2, rfl⟩ := h.title.sl
  obtain ⟨A3, n3, c3, rfl⟩ := h.fold.sl
  obtain ⟨A4, n4, c4, rfl⟩ := h.cased.sl
  obtain ⟨A5, n5, c5, rfl⟩ := h.ign.sl
  have B0 : Below w.heap.size w (w.alloc (.cells #[.slice A0 n0 c0, .slice A1 n1 c1, .slice A2 n2 c2, .slice A3 n3 c3, .slice A4 n4 c4, .slice A5 n5 c5] 27)) := (Below.refl _ _).alloc (Nat.le_refl _) _
  have s0 : (w.alloc (.cells #[.slice A0 n0 c0, .slice A1 n1 c1, .slice A2 n2 c2, .slice A3 n3 c3, .slice A4 n4 c4, .slice A5 n5 c5] 27)).heap.size = w.heap.size + 1 := by simp
  have X0 : Box (w.alloc (.cells #[.slice A0 n0 c0, .slice A1 n1 c1, .slice A2 n2 c2, .slice A3 n3 c3, .slice A4 n4 c4, .slice A5 n5 c5] 27)) w.heap.size 27 [.slice A0 n0 c0, .slice A1 n1 c1, .slice A2 n2 c2, .slice A3 n3 c3, .slice A4 n4 c4, .slice A5 n5 c5] := Box.new w 27 [.slice A0 n0 c0, .slice A1 n1 c1, .slice A2 n2 c2, .slice A3 n3 c3, .slice A4 n4 c4, .slice A5 n5 c5] rfl
  have W0E : ∃ W0, (w.alloc (.cells #[.slice A0 n0 c0, .slice A1 n1 c1, .slice A2 n2 c2, .slice A3 n3 c3, .slice A4 n4 c4, .slice A5 n5 c5] 27)) = W0 := ⟨_, rfl⟩
  have VD := Lib.hid (fun W (hb : Below w.heap.size w W) => valid_any _ _ _ _ _ _ C W (h.below hb) hz)
  have CA := Lib.hid (fun W (hb : Below w.heap.size w W) => h.below hb)
  have TG := Lib.hid (fun W u0 u1 u2 u3 u4 u5 (hc : CaseAt W u0 u1 u2 u3 u4 u5 (caseD C)) => show Calls Try.prog 42 #[u1, .string ⟨#[]⟩] W (RetTgt (fun x => getM (caseD C).upper x .empty) W) from hc.upper.tgt hz.d.upper (caseD_isok C).upper .empty)
  have JN := Lib.hid (fun W b u1 u2 u3 u4 M (hb' : Below w.heap.size w W) (hB : Box W b 64 [.slice A t.length a, u1, u2, u3, u4, .map (some M)]) (hM : TgtAt W M (fun x => getM (caseD C).upper x .empty)) =>
    show Calls Try.prog 43 #[.int .i64 0, .int .i64 t.length, .func (.func 46) #[.pointer (some ⟨b, 0, none⟩)] #[]] W (RetOwnI (upL (caseD C) t) W) from
      joined_any 46 b (upAt (caseD C).upper t) 0 t.length W (fun i W' _ hi hw => upper_any b A a t (caseD C).upper u1 u2 u3 u4 M i W' (hB.below hw hB.lt) ((hA.below hb').below hw) hi hna haz (hM.below hw) (hok _ (List.getElem_mem hi))) (fun i _ _ => upAt_len (caseD_isok C).upper t i) hb (Nat.zero_le _) enter_upper)
  generalize upL (caseD C) t = R at *
  clear h hz hA hok
  go_enter Try.func22, Try.ntmps22
  have kk := X0.cell (i := 0) rfl
  go_wp2_with fail
  clear kk
  obtain ⟨W0, hW0⟩ := W0E
  rw [hW0] at B0 s0 X0 ⊢
  clear hW0
  have hx0 : w.heap.size < W0.heap.size := by omega
  with_reducible refine (VD.out W0 B0).mono ?_
  rintro e W1 ⟨u0, u1, u2, u3, u4, u5, rfl, hT, hb1⟩
  have hb2 := B0.trans (hb1.mono B0.size)
  have hC1 := hT W1 (CA.out W1 hb2)
  obtain ⟨B0, m0, d0, rfl⟩ := hC1.lower.sl
  obtain ⟨B1, m1, d1, rfl⟩ := hC1.upper.sl
  obtain ⟨B2, m2, d2, rfl⟩ := hC1.title.sl
  obtain ⟨B3, m3, d3, rfl⟩ := hC1.fold.sl
  obtain ⟨B4, m4, d4, rfl⟩ := hC1.cased.sl
  obtain ⟨B5, m5, d5, rfl⟩ := hC1.ign.sl
  have HT := Lib.hid hT
  clear hT hC1 VD
  have X1 := X0.below hb1 hx0
  have f0 := X1.cell (i := 0) rfl
  have f1 := X1.cell (i := 1) rfl
  have f2 := X1.cell (i := 2) rfl
  have f3 := X1.cell (i := 3) rfl
  have f4 := X1.cell (i := 4) rfl
  have f5 := X1.cell (i := 5) rfl
  have z0 := X1.free 0
  have z1 := X1.free 1
  have z2 := X1.free 2
  have z3 := X1.free 3
  have z4 := X1.free 4
  have z5 := X1.free 5
  have hx1 : w.heap.size < W1.heap.size := X1.lt
  have X2 := Lib.hid (show Box ((((((W1.setCell ⟨w.heap.size, 0, none⟩ (.slice B0 m0 d0)).setCell ⟨w.heap.size, 1, none⟩ (.slice B1 m1 d1)).setCell ⟨w.heap.size, 2, none⟩ (.slice B2 m2 d2)).setCell ⟨w.heap.size, 3, none⟩ (.slice B3 m3 d3)).setCell ⟨w.heap.size, 4, none⟩ (.slice B4 m4 d4)).setCell ⟨w.heap.size, 5, none⟩ (.slice B5 m5 d5)) w.heap.size 27 [.slice B0 m0 d0, .slice B1 m1 d1, .slice B2 m2 d2, .slice B3 m3 d3, .slice B4 m4 d4, .slice B5 m5 d5] from ((((((X1.set 0 _).set 1 _).set 2 _).set 3 _).set 4 _).set 5 _))
  have hb3 : Below w.heap.size w ((((((W1.setCell ⟨w.heap.size, 0, none⟩ (.slice B0 m0 d0)).setCell ⟨w.heap.size, 1, none⟩ (.slice B1 m1 d1)).setCell ⟨w.heap.size, 2, none⟩ (.slice B2 m2 d2)).setCell ⟨w.heap.size, 3, none⟩ (.slice B3 m3 d3)).setCell ⟨w.heap.size, 4, none⟩ (.slice B4 m4 d4)).setCell ⟨w.heap.size, 5, none⟩ (.slice B5 m5 d5)) := ((((((hb2.setCell (p := ⟨w.heap.size, 0, none⟩) (Nat.le_refl _) _).setCell (p := ⟨w.heap.size, 1, none⟩) (Nat.le_refl _) _).setCell (p := ⟨w.heap.size, 2, none⟩) (Nat.le_refl _) _).setCell (p := ⟨w.heap.size, 3, none⟩) (Nat.le_refl _) _).setCell (p := ⟨w.heap.size, 4, none⟩) (Nat.le_refl _) _).setCell (p := ⟨w.heap.size, 5, none⟩) (Nat.le_refl _) _)
  have W2E : ∃ W2, ((((((W1.setCell ⟨w.heap.size, 0, none⟩ (.slice B0 m0 d0)).setCell ⟨w.heap.size, 1, none⟩ (.slice B1 m1 d1)).setCell ⟨w.heap.size, 2, none⟩ (.slice B2 m2 d2)).setCell ⟨w.heap.size, 3, none⟩ (.slice B3 m3 d3)).setCell ⟨w.heap.size, 4, none⟩ (.slice B4 m4 d4)).setCell ⟨w.heap.size, 5, none⟩ (.slice B5 m5 d5)) = W2 := ⟨_, rfl⟩
  clear X0 X1
  go_wp2_with fail
  obtain ⟨W2, hW2⟩ := W2E
  rw [hW2] at X2 hb3 ⊢
  clear hW2 f0 z0 f1 z1 f2 z2 f3 z3 f4 z4 f5 z5
  have D2 := Lib.hid (HT.out W2 (CA.out W2 hb3))
  have k1 := X2.out.cell (i := 1) rfl
  have TG1 := Lib.hid (TG.out W2 _ _ _ _ _ _ D2.out)
  go_wp2_with fail
  with_reducible refine TG1.out.mono ?_
  rintro e W3 ⟨M, rfl, hM, hb4⟩
  have hb5 := hb3.trans (hb4.mono hb3.size)
  have Ba : Below W3.heap.size W3 (W3.alloc (.cells #[.slice A t.length a, .slice none 0 0, .slice none 0 0, .map none, .map none, .map (some M)] 64)) := (Below.refl _ _).alloc (Nat.le_refl _) _
  have hb6 := hb5.trans (Ba.mono hb5.size)
  have J1 := Lib.hid (JN.out _ W3.heap.size _ _ _ _ M hb6 (Box.new W3 64 [.slice A t.length a, .slice none 0 0, .slice none 0 0, .map none, .map none, .map (some M)] rfl) (hM.below Ba))
  clear JN TG TG1 k1 hM D2 X2 HT CA
  go_wp2_with fail
  with_reducible refine J1.out.mono ?_
  intro e W4 hR
  obtain ⟨E, d, rfl, h1, h2, h3⟩ := hR.is.from hb6
  have HH := Lib.hid (And.intro h1 (And.intro h2 h3))
  clear J1 hR h1 h2 h3
  go_wp2_with fail
  go_ret
  exact ⟨E, d, rfl, HH.out.1, HH.out.2.1, HH.out.2.2⟩

/-- the maps that the mapper has for lower case -/
structure LowMaps (W : World) (D : Cse) (Ms Me : Nat) : Prop where
  s : TgtAt W Ms (fun x => getM D.lower x .empty)
  e : TgtAt W Me (fun x => getM D.lower x finalS)
theorem LowMaps.below {W W' : World} {D : Cse} {Ms Me : Nat} (h : LowMaps W D Ms Me) (hb : Below W.heap.size W W') : LowMaps W' D Ms Me := ⟨h.s.below hb, h.e.below hb⟩
theorem low_call (D : Cse) (b : Nat) (A : Option Addr) (a : Nat) (t : List Int) (v1 v5 : Value) (bF Ms Me i : Nat) (W : World) (hB : Box W b 64 [.slice A t.length a, v1, .slice (some ⟨bF, 0, none⟩) t.length t.length, .map (some Ms), .map (some Me), v5])
    (hA : Ints W A t) (hi : i < t.length) (hna : t.length ≤ a) (haz : a ≤ 9223372036854775807) (hF : Box W bF 4 (tabV t.length (finC D t))) (hM : LowMaps W D Ms Me) (hx : iok t[i]) :
    Calls Try.prog 44 #[.pointer (some ⟨b, 0, none⟩), .int .i64 i] W (RetIs (lowAt D t i) W) := by
  have hl : ((List.range t.length).map (finC D t)).length = t.length := by simp
  have := lower_any b A a t D ((List.range t.length).map (finC D t)) (some ⟨bF, 0, none⟩) t.length v1 v5 Ms Me i W (by rw [hl]; exact hB) hA hi hna haz hF.bools (by rw [hl]; exact hi) hM.s hM.e hx
  rw [show lowAt D t i = lowX D t[i] ((List.range t.length).map (finC D t))[i] by unfold lowAt; rw [getD_at hi]; simp]
  exact this
set_option maxRecDepth 100000 in
set_option maxHeartbeats 6400000 in
theorem Lower_any (v0 v1 v2 v3 v4 v5 : Value) (C : Cse) (A : Option Addr) (n a : Nat) (t : List Int) (w : World) (h : CaseAt w v0 v1 v2 v3 v4 v5 C) (hz : CaseSz C) (hA : Ints w A t) (hn : t.length = n) (hb : n ≤ 1048576) (hna : n ≤ a) (haz : a ≤ 9223372036854775807) (hok : ∀ x ∈ t, iok x) :
    Calls Try.prog 20 #[.agg #[v0, v1, v2, v3, v4, v5], .slice A n a] w (RetIs (lowL (caseD C) t) w) := by
  subst hn
  obtain ⟨A0, n0, c0, rfl⟩ := h.lower.sl
  obtain ⟨A1, n1, c1, rfl⟩ := h.upper.sl
  obtain ⟨A2, n2, c2, rfl⟩ := h.title.sl
  obtain ⟨A3, n3, c3, rfl⟩ := h.fold.sl
  obtain ⟨A4, n4, c4, rfl⟩ := h.cased.sl
  obtain ⟨A5, n5, c5, rfl⟩ := h.ign.sl
  have B0 : Below w.heap.size w (w.alloc (.cells #[.slice A0 n0 c0, .slice A1 n1 c1, .slice A2 n2 c2, .slice A3 n3 c3, .slice A4 n4 c4, .slice A5 n5 c5] 27)) := (Below.refl _ _).alloc (Nat.le_refl _) _
  have s0 : (w.alloc (.cells #[.slice A0 n0 c0, .slice A1 n1 c1, .slice A2 n2 c2, .slice A3 n3 c3, .slice A4 n4 c4, .slice A5 n5 c5] 27)).heap.size = w.heap.size + 1 := by simp
  have X0 : Box (w.alloc (.cells #[.slice A0 n0 c0, .slice A1 n1 c1, .slice A2 n2 c2, .slice A3 n3 c3, .slice A4 n4 c4, .slice A5 n5 c5] 27)) w.heap.size 27 [.slice A0 n0 c0, .slice A1 n1 c1, .slice A2 n2 c2, .slice A3 n3 c3, .slice A4 n4 c4, .slice A5 n5 c5] := Box.new w 27 [.slice A0 n0 c0, .slice A1 n1 c1, .slice A2 n2 c2, .slice A3 n3 c3, .slice A4 n4 c4, .slice A5 n5 c5] rfl
  have W0E : ∃ W0, (w.alloc (.cells #[.slice A0 n0 c0, .slice A1 n1 c1, .slice A2 n2 c2, .slice A3 n3 c3, .slice A4 n4 c4, .slice A5 n5 c5] 27)) = W0 := ⟨_, rfl⟩
  have VD := Lib.hid (fun W (hb : Below w.heap.size w W) => valid_any _ _ _ _ _ _ C W (h.below hb) hz)
  have CA := Lib.hid (fun W (hb : Below w.heap.size w W) => h.below hb)
  have TG := Lib.hid (fun W u0 u1 u2 u3 u4 u5 (hc : CaseAt W u0 u1 u2 u3 u4 u5 (caseD C)) => show Calls Try.prog 42 #[u0, .string ⟨#[]⟩] W (RetTgt (fun x => getM (caseD C).lower x .empty) W) from hc.lower.tgt hz.d.lower (caseD_isok C).lower .empty)
  have TE := Lib.hid (fun W u0 u1 u2 u3 u4 u5 (hc : CaseAt W u0 u1 u2 u3 u4 u5 (caseD C)) => show Calls Try.prog 42 #[u0, .string ⟨#[102, 105, 110, 97, 108]⟩] W (RetTgt (fun x => getM (caseD C).lower x finalS) W) from hc.lower.tgt hz.d.lower (caseD_isok C).lower finalS)
  have CX := Lib.hid (fun W u0 u1 u2 u3 u4 u5 (hb' : Below w.heap.size w W) (hc : CaseAt W u0 u1 u2 u3 u4 u5 (caseD C)) => context_any u0 u1 u2 u3 u4 u5 (caseD C) A t.length a t W hc hz.d (hA.below hb') rfl hb)
  have JN := Lib.hid (fun W b u1 u5 bF Ms Me (hb' : Below w.heap.size w W) (hB : Box W b 64 [.slice A t.length a, u1, .slice (some ⟨bF, 0, none⟩) t.length t.length, .map (some Ms), .map (some Me), u5]) (hF : Box W bF 4 (tabV t.length (finC (caseD C) t))) (hM : LowMaps W (caseD C) Ms Me) =>
    show Calls Try.prog 43 #[.int .i64 0, .int .i64 t.length, .func (.func 44) #[.pointer (some ⟨b, 0, none⟩)] #[]] W (RetOwnI (lowL (caseD C) t) W) from
      joined_any 44 b (lowAt (caseD C) t) 0 t.length W (fun i W' _ hi hw => low_call (caseD C) b A a t u1 u5 bF Ms Me i W' (hB.below hw hB.lt) ((hA.below hb').below hw) hi hna haz (hF.below hw hF.lt) (hM.below hw) (hok _ (List.getElem_mem hi))) (fun i _ _ => lowAt_len (caseD_isok C) t i) hb (Nat.zero_le _) enter_lower)
  generalize lowL (caseD C) t = R at *
  clear h hz hA hok
  go_enter Try.func20, Try.ntmps20
  have kk := X0.cell (i := 0) rfl
  go_wp2_with fail
  clear kk
  obtain ⟨W0, hW0⟩ := W0E
  rw [hW0] at B0 s0 X0 ⊢
  clear hW0
  have hx0 : w.heap.size < W0.heap.size := by omega
  with_reducible refine (VD.out W0 B0).mono ?_
  rintro e W1 ⟨u0, u1, u2, u3, u4, u5, rfl, hT, hb1⟩
  have hb2 := B0.trans (hb1.mono B0.size)
  have hC1 := hT W1 (CA.out W1 hb2)
  obtain ⟨B0, m0, d0, rfl⟩ := hC1.lower.sl
  obtain ⟨B1, m1, d1, rfl⟩ := hC1.upper.sl
  obtain ⟨B2, m2, d2, rfl⟩ := hC1.title.sl
  obtain ⟨B3, m3, d3, rfl⟩ := hC1.fold.sl
  obtain ⟨B4, m4, d4, rfl⟩ := hC1.cased.sl
  obtain ⟨B5, m5, d5, rfl⟩ := hC1.ign.sl
  have HT := Lib.hid hT
  clear hT hC1 VD
  have X1 := X0.below hb1 hx0
  have f0 := X1.cell (i := 0) rfl
  have f1 := X1.cell (i := 1) rfl
  have f2 := X1.cell (i := 2) rfl
  have f3 := X1.cell (i := 3) rfl
  have f4 := X1.cell (i := 4) rfl
  have f5 := X1.cell (i := 5) rfl
  have z0 := X1.free 0
  have z1 := X1.free 1
  have z2 := X1.free 2
  have z3 := X1.free 3
  have z4 := X1.free 4
  have z5 := X1.free 5
  have hx1 : w.heap.size < W1.heap.size := X1.lt
  have X2 := Lib.hid (show Box ((((((W1.setCell ⟨w.heap.size, 0, none⟩ (.slice B0 m0 d0)).setCell ⟨w.heap.size, 1, none⟩ (.slice B1 m1 d1)).setCell ⟨w.heap.size, 2, none⟩ (.slice B2 m2 d2)).setCell ⟨w.heap.size, 3, none⟩ (.slice B3 m3 d3)).setCell ⟨w.heap.size, 4, none⟩ (.slice B4 m4 d4)).setCell ⟨w.heap.size, 5, none⟩ (.slice B5 m5 d5)) w.heap.size 27 [.slice B0 m0 d0, .slice B1 m1 d1, .slice B2 m2 d2, .slice B3 m3 d3, .slice B4 m4 d4, .slice B5 m5 d5] from ((((((X1.set 0 _).set 1 _).set 2 _).set 3 _).set 4 _).set 5 _))
  have hb3 : Below w.heap.size w ((((((W1.setCell ⟨w.heap.size, 0, none⟩ (.slice B0 m0 d0)).setCell ⟨w.heap.size, 1, none⟩ (.slice B1 m1 d1)).setCell ⟨w.heap.size, 2, none⟩ (.slice B2 m2 d2)).setCell ⟨w.heap.size, 3, none⟩ (.slice B3 m3 d3)).setCell ⟨w.heap.size, 4, none⟩ (.slice B4 m4 d4)).setCell ⟨w.heap.size, 5, none⟩ (.slice B5 m5 d5)) := ((((((hb2.setCell (p := ⟨w.heap.size, 0, none⟩) (Nat.le_refl _) _).setCell (p := ⟨w.heap.size, 1, none⟩) (Nat.le_refl _) _).setCell (p := ⟨w.heap.size, 2, none⟩) (Nat.le_refl _) _).setCell (p := ⟨w.heap.size, 3, none⟩) (Nat.le_refl _) _).setCell (p := ⟨w.heap.size, 4, none⟩) (Nat.le_refl _) _).setCell (p := ⟨w.heap.size, 5, none⟩) (Nat.le_refl _) _)
  have W2E : ∃ W2, ((((((W1.setCell ⟨w.heap.size, 0, none⟩ (.slice B0 m0 d0)).setCell ⟨w.heap.size, 1, none⟩ (.slice B1 m1 d1)).setCell ⟨w.heap.size, 2, none⟩ (.slice B2 m2 d2)).setCell ⟨w.heap.size, 3, none⟩ (.slice B3 m3 d3)).setCell ⟨w.heap.size, 4, none⟩ (.slice B4 m4 d4)).setCell ⟨w.heap.size, 5, none⟩ (.slice B5 m5 d5)) = W2 := ⟨_, rfl⟩
  clear X0 X1
  go_wp2_with fail
  obtain ⟨W2, hW2⟩ := W2E
  rw [hW2] at X2 hb3 ⊢
  clear hW2 f0 z0 f1 z1 f2 z2 f3 z3 f4 z4 f5 z5
  have D2 := Lib.hid (HT.out W2 (CA.out W2 hb3))
  have SH := Lib.hid (fun W (hb' : Below W2.heap.size W2 W) => show W.cell? ⟨w.heap.size, 0, none⟩ = some (.slice B0 m0 d0) ∧ Below W2.heap.size W2 W from ⟨(X2.out.below hb' X2.out.lt).cell (i := 0) rfl, hb'⟩)
  have TG1 := Lib.hid (fun W (hb' : Below W2.heap.size W2 W) => (TG.out W _ _ _ _ _ _ (D2.out.below hb')).mono (R' := fun e W' => ∃ v, e = .returned v ∧ (W'.cell? ⟨w.heap.size, 0, none⟩ = some (.slice B0 m0 d0) ∧ Below W2.heap.size W2 W') ∧ (∃ M, v = .map (some M) ∧ TgtAt W' M (fun x => getM (caseD C).lower x .empty) ∧ Below W.heap.size W W')) (fun e W' ⟨M, he, h1, h2⟩ => ⟨_, he, SH.out W' (hb'.trans (h2.mono hb'.size)), M, rfl, h1, h2⟩))
  have TE1 := Lib.hid (fun W (hb' : Below W2.heap.size W2 W) => (TE.out W _ _ _ _ _ _ (D2.out.below hb')).mono (R' := fun e W' => ∃ v, e = .returned v ∧ (W'.cell? ⟨w.heap.size, 0, none⟩ = some (.slice B0 m0 d0) ∧ Below W2.heap.size W2 W') ∧ (∃ M, v = .map (some M) ∧ TgtAt W' M (fun x => getM (caseD C).lower x finalS) ∧ Below W.heap.size W W')) (fun e W' ⟨M, he, h1, h2⟩ => ⟨_, he, SH.out W' (hb'.trans (h2.mono hb'.size)), M, rfl, h1, h2⟩))
  go_wp2_with fail
  refine wp_region_held_drew (S := fun W' => W'.cell? ⟨w.heap.size, 0, none⟩ = some (.slice B0 m0 d0) ∧ Below W2.heap.size W2 W') (by kernel_rfl) (SH.out _ (Below.refl _ _).drew) (fun hHeld => ?_)
  refine anyH_take (i := 0) (v := ?_) (some 8) rfl rfl (by kernel_rfl) (by kernel_rfl) (by kernel_rfl) (fun _ _ _ h => h) (by rfl) (by assumption) ?_ ?_
  rotate_left
  · intro w hSw; (try dsimp only at hSw); go_split_ands; go_simp; try (with_reducible rfl)
  try simp only [Act.put, List.setIfInBounds_toArray, List.set_cons_zero, List.set_cons_succ]
  refine anyH_take (i := 1) (v := ?_) (some 9) rfl rfl (by kernel_rfl) (by kernel_rfl) (by kernel_rfl) (fun _ _ _ h => h) (by rfl) (by assumption) ?_ ?_
  rotate_left
  · intro w hSw; (try dsimp only at hSw); go_split_ands; go_simp; try (with_reducible rfl)
  try simp only [Act.put, List.setIfInBounds_toArray, List.set_cons_zero, List.set_cons_succ]
  refine anyH_take (i := 2) (v := ?_) (some 10) rfl rfl (by kernel_rfl) (by kernel_rfl) (by kernel_rfl) (fun _ _ _ h => h) (by rfl) (by assumption) ?_ ?_
  rotate_left
  · intro w hSw; (try dsimp only at hSw); go_split_ands; go_simp; try (with_reducible rfl)
  try simp only [Act.put, List.setIfInBounds_toArray, List.set_cons_zero, List.set_cons_succ]
  refine anyH_take (i := 4) (v := ?_) (some 12) rfl rfl (by kernel_rfl) (by kernel_rfl) (by kernel_rfl) (fun _ _ _ h => h) (by rfl) (by assumption) ?_ ?_
  rotate_left
  · intro w hSw; (try dsimp only at hSw); go_split_ands; go_simp; try (with_reducible rfl)
  try simp only [Act.put, List.setIfInBounds_toArray, List.set_cons_zero, List.set_cons_succ]
  refine anyH_take (i := 5) (v := ?_) (some 13) rfl rfl (by kernel_rfl) (by kernel_rfl) (by kernel_rfl) (fun _ _ _ h => h) (by rfl) (by assumption) ?_ ?_
  rotate_left
  · intro w hSw; (try dsimp only at hSw); go_split_ands; go_simp; try (with_reducible rfl)
  try simp only [Act.put, List.setIfInBounds_toArray, List.set_cons_zero, List.set_cons_succ]
  refine anyH_callE (i := 3) (some 11) rfl rfl (by kernel_rfl) (by rfl) (by go_simp) (TG1.out _ hHeld.2) ?_
  rintro _ W3 hS3 ⟨Ms, rfl, hMs, hb4⟩
  clear hHeld
  have hHeld := hS3
  clear hS3
  try simp only [Act.put, List.setIfInBounds_toArray, List.set_cons_zero, List.set_cons_succ]
  refine anyH_callE (i := 6) (some 14) rfl rfl (by kernel_rfl) (by rfl) (by go_simp) (TE1.out _ hHeld.2) ?_
  rintro _ W4 hS4 ⟨Me, rfl, hMe, hb5⟩
  clear hHeld
  have hHeld := hS4
  clear hS4
  try simp only [Act.put, List.setIfInBounds_toArray, List.set_cons_zero, List.set_cons_succ]
  refine anyH_take (i := 7) (v := ?_) (some 15) rfl rfl (by kernel_rfl) (by kernel_rfl) (by kernel_rfl) (fun _ _ _ h => h) (by rfl) (by assumption) ?_ ?_
  rotate_left
  · intro w hSw; (try dsimp only at hSw); go_split_ands; go_simp; try (with_reducible rfl)
  try simp only [Act.put, List.setIfInBounds_toArray, List.set_cons_zero, List.set_cons_succ]
  have hW4 := hHeld.2
  have Ba : Below W4.heap.size W4 (W4.alloc (.cells #[.slice A t.length a, .slice none 0 0, .slice none 0 0, .map (some Ms), .map (some Me), .map none] 64)) := (Below.refl _ _).alloc (Nat.le_refl _) _
  have XM := Lib.hid (Box.new W4 64 [.slice A t.length a, .slice none 0 0, .slice none 0 0, .map (some Ms), .map (some Me), .map none] rfl)
  have LM := Lib.hid (fun W (hb' : Below W4.heap.size W4 W) => LowMaps.below (D := caseD C) ⟨hMs.below hb5, hMe⟩ hb')
  have hbm : w.heap.size ≤ W4.heap.size := by have := hb3.size; have := hW4.size; omega
  have hb6 := hW4.trans (Ba.mono hW4.size)
  have S5 := SH.out _ hb6
  have W5E : ∃ W5, W4.alloc (.cells #[.slice A t.length a, .slice none 0 0, .slice none 0 0, .map (some Ms), .map (some Me), .map none] 64) = W5 := ⟨_, rfl⟩
  refine anyH_val (w' := W4.alloc (.cells #[.slice A t.length a, .slice none 0 0, .slice none 0 0, .map (some Ms), .map (some Me), .map none] 64)) (v := .pointer (some ⟨W4.heap.size, 0, none⟩)) (i := 8) (some 16) rfl rfl (by kernel_rfl) (by rfl) (by go_simp) S5 ?_
  obtain ⟨W5, hW5⟩ := W5E
  clear hHeld
  have hHeld := S5
  rw [hW5] at XM hb6 S5 hHeld Ba ⊢
  clear hW5 S5
  try simp only [Act.put, List.setIfInBounds_toArray, List.set_cons_zero, List.set_cons_succ]
  refine anyH_take (i := 9) (v := ?_) (some 5) rfl rfl (by kernel_rfl) (by kernel_rfl) (by kernel_rfl) (fun _ _ _ h => h) (by rfl) (by assumption) ?_ ?_
  rotate_left
  · intro w hSw; (try dsimp only at hSw); go_split_ands; go_simp; try (with_reducible rfl)
  try simp only [Act.put, List.setIfInBounds_toArray, List.set_cons_zero, List.set_cons_succ]
  refine wpAnyH_done (by kernel_rfl) ?_ _
  clear hHeld
  generalize W4.heap.size = bm at *
  have X5 := X2.out.below hb6 X2.out.lt
  have hb7 := hb3.trans (hb6.mono hb3.size)
  have C5 := Lib.hid (CX.out W5 _ _ _ _ _ _ hb7 (D2.out.below hb6))
  have f0 := X5.cell (i := 0) rfl
  have f1 := X5.cell (i := 1) rfl
  have f2 := X5.cell (i := 2) rfl
  have f3 := X5.cell (i := 3) rfl
  have f4 := X5.cell (i := 4) rfl
  have f5 := X5.cell (i := 5) rfl
  have hx5 := X5.lt
  clear TG TE TG1 TE1 SH CX D2 X2 X5 hMs hMe hb4 hb5 hW4 HT CA
  go_wp2_with fail
  with_reducible refine C5.out.mono ?_
  rintro e W6 ⟨bC, bF, rfl, hBC, hBF, hnC, hnF, hb8⟩
  have hb9 := hb7.trans (hb8.mono hb7.size)
  have hl5 : bm < W5.heap.size := XM.out.lt
  have XM6 := XM.out.below hb8 XM.out.lt
  have g1 := XM6.cell (i := 1) rfl
  have g2 := XM6.cell (i := 2) rfl
  have y1 := XM6.free 1
  have y2 := XM6.free 2
  have hl6 := XM6.lt
  have XM7 := Lib.hid ((XM6.set 1 (.slice (some ⟨bC, 0, none⟩) t.length t.length)).set 2 (.slice (some ⟨bF, 0, none⟩) t.length t.length))
  have hb10 := (hb9.setCell (p := ⟨bm, 1, none⟩) hbm (.slice (some ⟨bC, 0, none⟩) t.length t.length)).setCell (p := ⟨bm, 2, none⟩) hbm (.slice (some ⟨bF, 0, none⟩) t.length t.length)
  have LM7 := Lib.hid (LM.out _ (((Ba.trans (hb8.mono (by omega))).setCell (p := ⟨bm, 1, none⟩) (Nat.le_refl _) (.slice (some ⟨bC, 0, none⟩) t.length t.length)).setCell (p := ⟨bm, 2, none⟩) (Nat.le_refl _) (.slice (some ⟨bF, 0, none⟩) t.length t.length)))
  have BF7 := Lib.hid ((hBF.grown (grown_set _ ⟨bm, 1, none⟩ (.slice (some ⟨bC, 0, none⟩) t.length t.length)) (fun e => by injection e with e; exact absurd e (show ¬ bF = bm by omega))).grown (grown_set _ ⟨bm, 2, none⟩ (.slice (some ⟨bF, 0, none⟩) t.length t.length)) (fun e => by injection e with e; exact absurd e (show ¬ bF = bm by omega)))
  have J1 := Lib.hid (JN.out _ bm _ _ bF Ms Me hb10 XM7.out BF7.out LM7.out)
  have W7E : ∃ W7, (W6.setCell ⟨bm, 1, none⟩ (.slice (some ⟨bC, 0, none⟩) t.length t.length)).setCell ⟨bm, 2, none⟩ (.slice (some ⟨bF, 0, none⟩) t.length t.length) = W7 := ⟨_, rfl⟩
  clear JN XM XM6 LM hBC hBF XM7 LM7 BF7 C5 Ba
  go_wp2_with fail
  obtain ⟨W7, hW7⟩ := W7E
  rw [hW7] at J1 hb10 ⊢
  clear hW7
  with_reducible refine J1.out.mono ?_
  intro e W8 hR
  obtain ⟨E, d, rfl, h1, h2, h3⟩ := hR.is.from hb10
  have HH := Lib.hid (And.intro h1 (And.intro h2 h3))
  clear J1 hR h1 h2 h3
  go_wp2_with fail
  go_ret
  exact ⟨E, d, rfl, HH.out.1, HH.out.2.1, HH.out.2.2⟩

end Go.Proofs.Ytpamkbbmbeeheaa
