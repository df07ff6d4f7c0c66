/- The contract of casemap.Title. Written by gen_caseti.py. -/
import Derived.Test.YtpamkbbmbeeheaaCaseTi
namespace Go.Proofs.Ytpamkbbmbeeheaa
open Go.RowKit Go.Maps Go.WideMaps

/-- a list is returned in a block that was not there -/
def RetF (l : List Int) (w : World) (e : Ending) (w' : World) : Prop := ∃ E d, e = .returned (.slice E l.length d) ∧ l.length ≤ d ∧ d ≤ 9223372036854775807 ∧ Ints w' E l ∧ (∀ b o, E = some ⟨b, o, none⟩ → w.heap.size ≤ b) ∧ Below w.heap.size w w'
theorem own_fresh {w : World} {base : Nat} {e : TypeId} {size n c : Nat} {A : Option Addr} {xs : List Value} (h : w.ownsRow base e size (.slice A n c) n xs) : ∀ b o, A = some ⟨b, o, none⟩ → base ≤ b := by
  rintro b o rfl
  rcases h.2 with ⟨hv, _⟩ | ⟨g, cap, cur, hv, hb, _⟩
  · cases hv
  · injection hv with hv
    injection hv with hv
    injection hv with hv
    omega
theorem own_capF {w : World} {base : Nat} {e : TypeId} {size n c : Nat} {A : Option Addr} {xs : List Value} (h : w.ownsRow base e size (.slice A n c) n xs) : c ≤ 9223372036854775807 := by
  rcases h.2 with ⟨hv, _⟩ | ⟨g, cap, cur, hv, _, _, _, hc, _⟩
  · injection hv with _ _ hv; omega
  · injection hv with _ _ hv; unfold maxLen at hc; omega
/-- the mapper of Title -/
structure TiMap (W : World) (D : Cse) (bm : Nat) (A : Option Addr) (a : Nat) (t : List Int) (bC bF Ms Me Mt : Nat) : Prop where
  bx : Box W bm 64 [.slice A t.length a, .slice (some ⟨bC, 0, none⟩) t.length t.length, .slice (some ⟨bF, 0, none⟩) t.length t.length, .map (some Ms), .map (some Me), .map (some Mt)]
  hA : Ints W A t
  hC : Box W bC 4 (tabV t.length (fun j => hasR D.cased (t.getD j 0)))
  hF : Box W bF 4 (tabV t.length (finC D t))
  low : LowMaps W D Ms Me
  up : TgtAt W Mt (fun x => getM D.title x .empty)
theorem TiMap.below {W W' : World} {D : Cse} {bm : Nat} {A : Option Addr} {a : Nat} {t : List Int} {bC bF Ms Me Mt : Nat} (h : TiMap W D bm A a t bC bF Ms Me Mt) (hb : Below W.heap.size W W') : TiMap W' D bm A a t bC bF Ms Me Mt :=
  ⟨h.bx.below hb h.bx.lt, h.hA.below hb, h.hC.below hb h.hC.lt, h.hF.below hb h.hF.lt, h.low.below hb, h.up.below hb⟩
section
variable {W : World} {D : Cse} {bm : Nat} {A : Option Addr} {a : Nat} {t : List Int} {bC bF Ms Me Mt : Nat} {br ba : Nat} {w : World} {out : List Int} {lo hi : Nat}
theorem TiMap.toSame (h : TiMap W D bm A a t bC bF Ms Me Mt) (hna : t.length ≤ a) (haz : a ≤ 9223372036854775807) (hb : Below W.heap.size W w) (hT : TiSt W.heap.size br ba w out lo) (hlo : lo ≤ hi) (hhi : hi ≤ t.length) (hz : t.length ≤ 1048576) (ho : out.length ≤ 67108864) :
    Calls Try.prog 54 #[.int .i64 hi, .func (.func 55) #[.pointer (some ⟨bm, 0, none⟩)] #[], .pointer (some ⟨br, 0, none⟩), .pointer (some ⟨ba, 0, none⟩)] w (RetTo W.heap.size br ba (out ++ joinI (sameAt t) lo hi) hi w) :=
  to_any W.heap.size br ba 55 bm (sameAt t) lo hi out w hT (fun i W' _ h2 h3 => same_any bm A a t _ _ _ _ _ i W' ((h.below (hb.trans h3)).bx) ((h.below (hb.trans h3)).hA) (by omega) hna haz) (fun i _ _ => sameAt_len t i) (by omega) (by omega) enter_same ho
theorem TiMap.toUp (h : TiMap W D bm A a t bC bF Ms Me Mt) (hok : mapErr D.title = 0) (hx : ∀ x ∈ t, iok x) (hna : t.length ≤ a) (haz : a ≤ 9223372036854775807) (hb : Below W.heap.size W w) (hT : TiSt W.heap.size br ba w out lo) (hlo : lo ≤ hi) (hhi : hi ≤ t.length) (hz : t.length ≤ 1048576) (ho : out.length ≤ 67108864) :
    Calls Try.prog 54 #[.int .i64 hi, .func (.func 46) #[.pointer (some ⟨bm, 0, none⟩)] #[], .pointer (some ⟨br, 0, none⟩), .pointer (some ⟨ba, 0, none⟩)] w (RetTo W.heap.size br ba (out ++ joinI (upAt D.title t) lo hi) hi w) :=
  to_any W.heap.size br ba 46 bm (upAt D.title t) lo hi out w hT (fun i W' _ h2 h3 => upper_any bm A a t D.title _ _ _ _ Mt i W' ((h.below (hb.trans h3)).bx) ((h.below (hb.trans h3)).hA) (by omega) hna haz ((h.below (hb.trans h3)).up) (hx _ (List.getElem_mem _))) (fun i _ _ => upAt_len hok t i) (by omega) (by omega) enter_upper ho
theorem TiMap.toLow (h : TiMap W D bm A a t bC bF Ms Me Mt) (hok : CaseOk D) (hx : ∀ x ∈ t, iok x) (hna : t.length ≤ a) (haz : a ≤ 9223372036854775807) (hb : Below W.heap.size W w) (hT : TiSt W.heap.size br ba w out lo) (hlo : lo ≤ hi) (hhi : hi ≤ t.length) (hz : t.length ≤ 1048576) (ho : out.length ≤ 67108864) :
    Calls Try.prog 54 #[.int .i64 hi, .func (.func 44) #[.pointer (some ⟨bm, 0, none⟩)] #[], .pointer (some ⟨br, 0, none⟩), .pointer (some ⟨ba, 0, none⟩)] w (RetTo W.heap.size br ba (out ++ joinI (lowAt D t) lo hi) hi w) :=
  to_any W.heap.size br ba 44 bm (lowAt D t) lo hi out w hT (fun i W' _ h2 h3 => low_call D bm A a t _ _ bF Ms Me i W' ((h.below (hb.trans h3)).bx) ((h.below (hb.trans h3)).hA) (by omega) hna haz ((h.below (hb.trans h3)).hF) ((h.below (hb.trans h3)).low) (hx _ (List.getElem_mem _))) (fun i _ _ => lowAt_len hok t i) (by omega) (by omega) enter_lower ho
end

set_option maxRecDepth 100000 in
set_option maxHeartbeats 12800000 in
theorem Title_fresh (v0 v1 v2 v3 v4 v5 : Value) (C : Cse) (A : Option Addr) (n a : Nat) (t : List Int) (P : Option Addr) (np cp : Nat) (ps : List Rg) (w : World) (h : CaseAt w v0 v1 v2 v3 v4 v5 C) (hz : CaseSz C) (hA : Ints w A t) (hn : t.length = n) (hb : n ≤ 1048576) (hna : n ≤ a) (haz : a ≤ 9223372036854775807) (hok : ∀ x ∈ t, iok x)
    (hP : Rgs w P ps) (hp : ps.length = np) (hpz : np ≤ 1048576) :
    Calls Try.prog 26 #[.agg #[v0, v1, v2, v3, v4, v5], .slice A n a, .slice P np cp] w (RetF (titleL (caseD C) t ps) w) := by
  subst hn
  subst hp
  obtain ⟨A0, n0, c0, rfl⟩ := h.lower.sl
  obtain ⟨A1, n1, c1, rfl⟩ := h.upper.sl
  obtain ⟨A2, n2, c2, rfl⟩ := h.title.sl
  obtain ⟨A3, n3, c3, rfl⟩ := h.fold.sl
  obtain ⟨A4, n4, c4, rfl⟩ := h.cased.sl
  obtain ⟨A5, n5, c5, rfl⟩ := h.ign.sl
  have B0 : Below w.heap.size w (w.alloc (.cells #[.slice A0 n0 c0, .slice A1 n1 c1, .slice A2 n2 c2, .slice A3 n3 c3, .slice A4 n4 c4, .slice A5 n5 c5] 27)) := (Below.refl _ _).alloc (Nat.le_refl _) _
  have s0 : (w.alloc (.cells #[.slice A0 n0 c0, .slice A1 n1 c1, .slice A2 n2 c2, .slice A3 n3 c3, .slice A4 n4 c4, .slice A5 n5 c5] 27)).heap.size = w.heap.size + 1 := by simp
  have X0 : Box (w.alloc (.cells #[.slice A0 n0 c0, .slice A1 n1 c1, .slice A2 n2 c2, .slice A3 n3 c3, .slice A4 n4 c4, .slice A5 n5 c5] 27)) w.heap.size 27 [.slice A0 n0 c0, .slice A1 n1 c1, .slice A2 n2 c2, .slice A3 n3 c3, .slice A4 n4 c4, .slice A5 n5 c5] := Box.new w 27 [.slice A0 n0 c0, .slice A1 n1 c1, .slice A2 n2 c2, .slice A3 n3 c3, .slice A4 n4 c4, .slice A5 n5 c5] rfl
  have W0E : ∃ W0, (w.alloc (.cells #[.slice A0 n0 c0, .slice A1 n1 c1, .slice A2 n2 c2, .slice A3 n3 c3, .slice A4 n4 c4, .slice A5 n5 c5] 27)) = W0 := ⟨_, rfl⟩
  have VD := Lib.hid (fun W (hb : Below w.heap.size w W) => valid_any _ _ _ _ _ _ C W (h.below hb) hz)
  have CA := Lib.hid (fun W (hb : Below w.heap.size w W) => h.below hb)
  have TG := Lib.hid (fun W u0 u1 u2 u3 u4 u5 (hc : CaseAt W u0 u1 u2 u3 u4 u5 (caseD C)) => show Calls Try.prog 42 #[u0, .string ⟨#[]⟩] W (RetTgt (fun x => getM (caseD C).lower x .empty) W) from hc.lower.tgt hz.d.lower (caseD_isok C).lower .empty)
  have TE := Lib.hid (fun W u0 u1 u2 u3 u4 u5 (hc : CaseAt W u0 u1 u2 u3 u4 u5 (caseD C)) => show Calls Try.prog 42 #[u0, .string ⟨#[102, 105, 110, 97, 108]⟩] W (RetTgt (fun x => getM (caseD C).lower x finalS) W) from hc.lower.tgt hz.d.lower (caseD_isok C).lower finalS)
  have TT := Lib.hid (fun W u0 u1 u2 u3 u4 u5 (hc : CaseAt W u0 u1 u2 u3 u4 u5 (caseD C)) => show Calls Try.prog 42 #[u2, .string ⟨#[]⟩] W (RetTgt (fun x => getM (caseD C).title x .empty) W) from hc.title.tgt hz.d.title (caseD_isok C).title .empty)
  have CX := Lib.hid (fun W u0 u1 u2 u3 u4 u5 (hb' : Below w.heap.size w W) (hc : CaseAt W u0 u1 u2 u3 u4 u5 (caseD C)) => context_any u0 u1 u2 u3 u4 u5 (caseD C) A t.length a t W hc hz.d (hA.below hb') rfl hb)
  have DV := Lib.hid (fun W (hb' : Below w.heap.size w W) => divides_any P ps.length cp ps t.length W (hP.below hb') rfl hpz)
  have CL := Lib.hid (fun W (hb' : Below w.heap.size w W) => cloneI_any A t.length a t W (hA.below hb') rfl hb)
  have HA := Lib.hid (fun W (hb' : Below w.heap.size w W) => hA.below hb')
  have HP := Lib.hid (fun W (hb' : Below w.heap.size w W) => hP.below hb')
  have HOK := Lib.hid hok
  have OKD := Lib.hid (caseD_isok C)
  have TB := Lib.hid (fun h => titleL_bad (C := caseD C) (t := t) (ps := ps) h)
  have TK := Lib.hid (fun h => titleL_ok (C := caseD C) (t := t) (ps := ps) h)
  generalize titleL (caseD C) t ps = R at *
  clear h hz hA hok hP
  have kk := X0.cell (i := 0) rfl
  go_enter Try.func26, Try.ntmps26
  go_wp2_with fail
  clear kk
  obtain ⟨W0, hW0⟩ := W0E
  rw [hW0] at B0 s0 X0 ⊢
  clear hW0
  with_reducible refine (DV.out W0 B0).mono ?_
  rintro e Wv ⟨rfl, hbv⟩
  have X0 := X0.below hbv X0.lt
  have B0 := B0.trans (hbv.mono B0.size)
  have s0 := s0
  clear DV
  cases hw : withinL t.length 0 ps with
  | false =>
    have E := Lib.hid (TB.out hw)
    clear TB TK hw TG TE TT CX
    obtain rfl := E.out
    clear E
    go_wp2_with fail
    with_reducible refine (CL.out Wv B0).mono ?_
    intro e W4 hR
    obtain ⟨E, d, rfl, hO, h3⟩ := hR
    have HH := Lib.hid (And.intro hO (B0.trans (h3.mono B0.size)))
    have hsb : w.heap.size ≤ Wv.heap.size := B0.size
    clear hO h3 CL
    go_wp2_with fail
    go_ret
    obtain ⟨_, _, hv, hc⟩ := own_form HH.out.1
    injection hv with _ _ hv
    subst hv
    exact ⟨E, d, rfl, hc, own_capF HH.out.1, Sl.of_own HH.out.1, fun b o hE => Nat.le_trans hsb (own_fresh HH.out.1 b o hE), HH.out.2⟩
  | true =>
    have E := Lib.hid (TK.out hw)
    have HW := Lib.hid hw
    clear TB TK hw CL
    obtain rfl := E.out
    clear E
    have e0 := X0.cell (i := 0) rfl
    have e1 := X0.cell (i := 1) rfl
    have e2 := X0.cell (i := 2) rfl
    have e3 := X0.cell (i := 3) rfl
    have e4 := X0.cell (i := 4) rfl
    have e5 := X0.cell (i := 5) rfl
    have hx0 : w.heap.size < Wv.heap.size := X0.lt
    go_wp2_with fail
    clear e0 e1 e2 e3 e4 e5
    with_reducible refine (VD.out Wv B0).mono ?_
    rintro e W1 ⟨u0, u1, u2, u3, u4, u5, rfl, hT, hb1⟩
    have hb2 := B0.trans (hb1.mono B0.size)
    have hC1 := hT W1 (CA.out W1 hb2)
    obtain ⟨B0, m0, d0, rfl⟩ := hC1.lower.sl
    obtain ⟨B1, m1, d1, rfl⟩ := hC1.upper.sl
    obtain ⟨B2, m2, d2, rfl⟩ := hC1.title.sl
    obtain ⟨B3, m3, d3, rfl⟩ := hC1.fold.sl
    obtain ⟨B4, m4, d4, rfl⟩ := hC1.cased.sl
    obtain ⟨B5, m5, d5, rfl⟩ := hC1.ign.sl
    have HT := Lib.hid hT
    clear hT hC1 VD
    have X1 := X0.below hb1 hx0
    have f0 := X1.cell (i := 0) rfl
    have f1 := X1.cell (i := 1) rfl
    have f2 := X1.cell (i := 2) rfl
    have f3 := X1.cell (i := 3) rfl
    have f4 := X1.cell (i := 4) rfl
    have f5 := X1.cell (i := 5) rfl
    have z0 := X1.free 0
    have z1 := X1.free 1
    have z2 := X1.free 2
    have z3 := X1.free 3
    have z4 := X1.free 4
    have z5 := X1.free 5
    have hx1 : w.heap.size < W1.heap.size := X1.lt
    have X2 := Lib.hid (show Box ((((((W1.setCell ⟨w.heap.size, 0, none⟩ (.slice B0 m0 d0)).setCell ⟨w.heap.size, 1, none⟩ (.slice B1 m1 d1)).setCell ⟨w.heap.size, 2, none⟩ (.slice B2 m2 d2)).setCell ⟨w.heap.size, 3, none⟩ (.slice B3 m3 d3)).setCell ⟨w.heap.size, 4, none⟩ (.slice B4 m4 d4)).setCell ⟨w.heap.size, 5, none⟩ (.slice B5 m5 d5)) w.heap.size 27 [.slice B0 m0 d0, .slice B1 m1 d1, .slice B2 m2 d2, .slice B3 m3 d3, .slice B4 m4 d4, .slice B5 m5 d5] from ((((((X1.set 0 _).set 1 _).set 2 _).set 3 _).set 4 _).set 5 _))
    have hb3 : Below w.heap.size w ((((((W1.setCell ⟨w.heap.size, 0, none⟩ (.slice B0 m0 d0)).setCell ⟨w.heap.size, 1, none⟩ (.slice B1 m1 d1)).setCell ⟨w.heap.size, 2, none⟩ (.slice B2 m2 d2)).setCell ⟨w.heap.size, 3, none⟩ (.slice B3 m3 d3)).setCell ⟨w.heap.size, 4, none⟩ (.slice B4 m4 d4)).setCell ⟨w.heap.size, 5, none⟩ (.slice B5 m5 d5)) := ((((((hb2.setCell (p := ⟨w.heap.size, 0, none⟩) (Nat.le_refl _) _).setCell (p := ⟨w.heap.size, 1, none⟩) (Nat.le_refl _) _).setCell (p := ⟨w.heap.size, 2, none⟩) (Nat.le_refl _) _).setCell (p := ⟨w.heap.size, 3, none⟩) (Nat.le_refl _) _).setCell (p := ⟨w.heap.size, 4, none⟩) (Nat.le_refl _) _).setCell (p := ⟨w.heap.size, 5, none⟩) (Nat.le_refl _) _)
    have W2E : ∃ W2, ((((((W1.setCell ⟨w.heap.size, 0, none⟩ (.slice B0 m0 d0)).setCell ⟨w.heap.size, 1, none⟩ (.slice B1 m1 d1)).setCell ⟨w.heap.size, 2, none⟩ (.slice B2 m2 d2)).setCell ⟨w.heap.size, 3, none⟩ (.slice B3 m3 d3)).setCell ⟨w.heap.size, 4, none⟩ (.slice B4 m4 d4)).setCell ⟨w.heap.size, 5, none⟩ (.slice B5 m5 d5)) = W2 := ⟨_, rfl⟩
    clear X0 X1
    go_wp2_with fail
    obtain ⟨W2, hW2⟩ := W2E
    rw [hW2] at X2 hb3 ⊢
    clear hW2 f0 z0 f1 z1 f2 z2 f3 z3 f4 z4 f5 z5
    have D2 := Lib.hid (HT.out W2 (CA.out W2 hb3))

    have SH := Lib.hid (fun W' (hb' : Below W2.heap.size W2 W') => show (W'.cell? ⟨w.heap.size, 0, none⟩ = some (.slice B0 m0 d0) ∧ W'.cell? ⟨w.heap.size, 2, none⟩ = some (.slice B2 m2 d2) ∧ Below W2.heap.size W2 W') from ⟨(X2.out.below hb' X2.out.lt).cell (i := 0) rfl, (X2.out.below hb' X2.out.lt).cell (i := 2) rfl, hb'⟩)
    have TG1 := Lib.hid (fun W (hb' : Below W2.heap.size W2 W) => (TG.out W _ _ _ _ _ _ (D2.out.below hb')).mono (R' := fun e W' => ∃ v, e = .returned v ∧ (W'.cell? ⟨w.heap.size, 0, none⟩ = some (.slice B0 m0 d0) ∧ W'.cell? ⟨w.heap.size, 2, none⟩ = some (.slice B2 m2 d2) ∧ Below W2.heap.size W2 W') ∧ (∃ M, v = .map (some M) ∧ TgtAt W' M (fun x => getM (caseD C).lower x .empty) ∧ Below W.heap.size W W')) (fun e W' ⟨M, he, h1, h2⟩ => ⟨_, he, SH.out W' (hb'.trans (h2.mono hb'.size)), M, rfl, h1, h2⟩))
    have TE1 := Lib.hid (fun W (hb' : Below W2.heap.size W2 W) => (TE.out W _ _ _ _ _ _ (D2.out.below hb')).mono (R' := fun e W' => ∃ v, e = .returned v ∧ (W'.cell? ⟨w.heap.size, 0, none⟩ = some (.slice B0 m0 d0) ∧ W'.cell? ⟨w.heap.size, 2, none⟩ = some (.slice B2 m2 d2) ∧ Below W2.heap.size W2 W') ∧ (∃ M, v = .map (some M) ∧ TgtAt W' M (fun x => getM (caseD C).lower x finalS) ∧ Below W.heap.size W W')) (fun e W' ⟨M, he, h1, h2⟩ => ⟨_, he, SH.out W' (hb'.trans (h2.mono hb'.size)), M, rfl, h1, h2⟩))
    have TT1 := Lib.hid (fun W (hb' : Below W2.heap.size W2 W) => (TT.out W _ _ _ _ _ _ (D2.out.below hb')).mono (R' := fun e W' => ∃ v, e = .returned v ∧ (W'.cell? ⟨w.heap.size, 0, none⟩ = some (.slice B0 m0 d0) ∧ W'.cell? ⟨w.heap.size, 2, none⟩ = some (.slice B2 m2 d2) ∧ Below W2.heap.size W2 W') ∧ (∃ M, v = .map (some M) ∧ TgtAt W' M (fun x => getM (caseD C).title x .empty) ∧ Below W.heap.size W W')) (fun e W' ⟨M, he, h1, h2⟩ => ⟨_, he, SH.out W' (hb'.trans (h2.mono hb'.size)), M, rfl, h1, h2⟩))
    go_wp2_with fail
    refine wp_region_held_drew (S := fun W' => (W'.cell? ⟨w.heap.size, 0, none⟩ = some (.slice B0 m0 d0) ∧ W'.cell? ⟨w.heap.size, 2, none⟩ = some (.slice B2 m2 d2) ∧ Below W2.heap.size W2 W')) (by kernel_rfl) (SH.out _ (Below.refl _ _).drew) (fun hHeld => ?_)
    refine anyH_take (i := 0) (v := ?_) (some 23) rfl rfl (by kernel_rfl) (by kernel_rfl) (by kernel_rfl) (fun _ _ _ h => h) (by rfl) (by assumption) ?_ ?_
    rotate_left
    · intro w hSw; (try dsimp only at hSw); go_split_ands; go_simp; try (with_reducible rfl)
    try simp only [Act.put, List.setIfInBounds_toArray, List.set_cons_zero, List.set_cons_succ]
    refine anyH_take (i := 1) (v := ?_) (some 24) rfl rfl (by kernel_rfl) (by kernel_rfl) (by kernel_rfl) (fun _ _ _ h => h) (by rfl) (by assumption) ?_ ?_
    rotate_left
    · intro w hSw; (try dsimp only at hSw); go_split_ands; go_simp; try (with_reducible rfl)
    try simp only [Act.put, List.setIfInBounds_toArray, List.set_cons_zero, List.set_cons_succ]
    refine anyH_take (i := 2) (v := ?_) (some 25) rfl rfl (by kernel_rfl) (by kernel_rfl) (by kernel_rfl) (fun _ _ _ h => h) (by rfl) (by assumption) ?_ ?_
    rotate_left
    · intro w hSw; (try dsimp only at hSw); go_split_ands; go_simp; try (with_reducible rfl)
    try simp only [Act.put, List.setIfInBounds_toArray, List.set_cons_zero, List.set_cons_succ]
    refine anyH_take (i := 4) (v := ?_) (some 27) rfl rfl (by kernel_rfl) (by kernel_rfl) (by kernel_rfl) (fun _ _ _ h => h) (by rfl) (by assumption) ?_ ?_
    rotate_left
    · intro w hSw; (try dsimp only at hSw); go_split_ands; go_simp; try (with_reducible rfl)
    try simp only [Act.put, List.setIfInBounds_toArray, List.set_cons_zero, List.set_cons_succ]
    refine anyH_take (i := 5) (v := ?_) (some 28) rfl rfl (by kernel_rfl) (by kernel_rfl) (by kernel_rfl) (fun _ _ _ h => h) (by rfl) (by assumption) ?_ ?_
    rotate_left
    · intro w hSw; (try dsimp only at hSw); go_split_ands; go_simp; try (with_reducible rfl)
    try simp only [Act.put, List.setIfInBounds_toArray, List.set_cons_zero, List.set_cons_succ]
    refine anyH_take (i := 7) (v := ?_) (some 30) rfl rfl (by kernel_rfl) (by kernel_rfl) (by kernel_rfl) (fun _ _ _ h => h) (by rfl) (by assumption) ?_ ?_
    rotate_left
    · intro w hSw; (try dsimp only at hSw); go_split_ands; go_simp; try (with_reducible rfl)
    try simp only [Act.put, List.setIfInBounds_toArray, List.set_cons_zero, List.set_cons_succ]
    refine anyH_take (i := 8) (v := ?_) (some 31) rfl rfl (by kernel_rfl) (by kernel_rfl) (by kernel_rfl) (fun _ _ _ h => h) (by rfl) (by assumption) ?_ ?_
    rotate_left
    · intro w hSw; (try dsimp only at hSw); go_split_ands; go_simp; try (with_reducible rfl)
    try simp only [Act.put, List.setIfInBounds_toArray, List.set_cons_zero, List.set_cons_succ]
    refine anyH_callE (i := 3) (some 26) rfl rfl (by kernel_rfl) (by rfl) (by go_simp) (TG1.out _ hHeld.2.2) ?_
    rintro _ W3 hS3 ⟨Ms, rfl, hMs, hb4⟩
    clear hHeld
    have hHeld := hS3
    clear hS3
    try simp only [Act.put, List.setIfInBounds_toArray, List.set_cons_zero, List.set_cons_succ]
    refine anyH_callE (i := 6) (some 29) rfl rfl (by kernel_rfl) (by rfl) (by go_simp) (TE1.out _ hHeld.2.2) ?_
    rintro _ W4 hS3 ⟨Me, rfl, hMe, hb5⟩
    clear hHeld
    have hHeld := hS3
    clear hS3
    try simp only [Act.put, List.setIfInBounds_toArray, List.set_cons_zero, List.set_cons_succ]
    refine anyH_callE (i := 9) (some 32) rfl rfl (by kernel_rfl) (by rfl) (by go_simp) (TT1.out _ hHeld.2.2) ?_
    rintro _ W5 hS3 ⟨Mt, rfl, hMt, hb6⟩
    clear hHeld
    have hHeld := hS3
    clear hS3
    try simp only [Act.put, List.setIfInBounds_toArray, List.set_cons_zero, List.set_cons_succ]
    refine anyH_take (i := 10) (v := ?_) (some 33) rfl rfl (by kernel_rfl) (by kernel_rfl) (by kernel_rfl) (fun _ _ _ h => h) (by rfl) (by assumption) ?_ ?_
    rotate_left
    · intro w hSw; (try dsimp only at hSw); go_split_ands; go_simp; try (with_reducible rfl)
    try simp only [Act.put, List.setIfInBounds_toArray, List.set_cons_zero, List.set_cons_succ]
    have hW4 := hHeld.2.2
    have Ba : Below W5.heap.size W5 (W5.alloc (.cells #[.slice A t.length a, .slice none 0 0, .slice none 0 0, .map (some Ms), .map (some Me), .map (some Mt)] 64)) := (Below.refl _ _).alloc (Nat.le_refl _) _
    have XM := Lib.hid (Box.new W5 64 [.slice A t.length a, .slice none 0 0, .slice none 0 0, .map (some Ms), .map (some Me), .map (some Mt)] rfl)
    have LM := Lib.hid (fun W (hb' : Below W5.heap.size W5 W) => LowMaps.below (D := caseD C) ⟨(hMs.below hb5).below hb6, hMe.below hb6⟩ hb')
    have UM := Lib.hid (fun W (hb' : Below W5.heap.size W5 W) => hMt.below hb')
    have hbm : w.heap.size ≤ W5.heap.size := by have := hb3.size; have := hW4.size; omega
    have hb7 := hW4.trans (Ba.mono hW4.size)
    have S6 := SH.out _ hb7
    have W6E : ∃ W6, W5.alloc (.cells #[.slice A t.length a, .slice none 0 0, .slice none 0 0, .map (some Ms), .map (some Me), .map (some Mt)] 64) = W6 := ⟨_, rfl⟩
    refine anyH_val (w' := W5.alloc (.cells #[.slice A t.length a, .slice none 0 0, .slice none 0 0, .map (some Ms), .map (some Me), .map (some Mt)] 64)) (v := .pointer (some ⟨W5.heap.size, 0, none⟩)) (i := 11) (some 34) rfl rfl (by kernel_rfl) (by rfl) (by go_simp) S6 ?_
    obtain ⟨W6, hW6⟩ := W6E
    clear hHeld
    have hHeld := S6
    rw [hW6] at XM hb7 S6 hHeld Ba ⊢
    clear hW6 S6
    try simp only [Act.put, List.setIfInBounds_toArray, List.set_cons_zero, List.set_cons_succ]
    refine anyH_take (i := 12) (v := ?_) (some 7) rfl rfl (by kernel_rfl) (by kernel_rfl) (by kernel_rfl) (fun _ _ _ h => h) (by rfl) (by assumption) ?_ ?_
    rotate_left
    · intro w hSw; (try dsimp only at hSw); go_split_ands; go_simp; try (with_reducible rfl)
    try simp only [Act.put, List.setIfInBounds_toArray, List.set_cons_zero, List.set_cons_succ]
    refine wpAnyH_done (by kernel_rfl) ?_ _
    clear hHeld
    generalize W5.heap.size = bm at *
    have X6 := X2.out.below hb7 X2.out.lt
    have hb8 := hb3.trans (hb7.mono hb3.size)
    have C6 := Lib.hid (CX.out W6 _ _ _ _ _ _ hb8 (D2.out.below hb7))
    have f0 := X6.cell (i := 0) rfl
    have f1 := X6.cell (i := 1) rfl
    have f2 := X6.cell (i := 2) rfl
    have f3 := X6.cell (i := 3) rfl
    have f4 := X6.cell (i := 4) rfl
    have f5 := X6.cell (i := 5) rfl
    have hx6 := X6.lt
    clear TG TE TT TG1 TE1 TT1 SH CX D2 X2 X6 hMs hMe hMt hb4 hb5 hb6 hW4 HT CA
    go_wp2_with fail
    with_reducible refine C6.out.mono ?_
    rintro e W7 ⟨bC, bF, rfl, hBC, hBF, hnC, hnF, hb9⟩
    have hb10 := hb8.trans (hb9.mono hb8.size)
    have hl6 : bm < W6.heap.size := XM.out.lt
    have XM7 := XM.out.below hb9 XM.out.lt
    have g1 := XM7.cell (i := 1) rfl
    have g2 := XM7.cell (i := 2) rfl
    have y1 := XM7.free 1
    have y2 := XM7.free 2
    have hl7 := XM7.lt
    have nC : some bC ≠ some bm := fun e => by injection e with e; omega
    have nF : some bF ≠ some bm := fun e => by injection e with e; omega
    have XM8 := Lib.hid ((XM7.set 1 (.slice (some ⟨bC, 0, none⟩) t.length t.length)).set 2 (.slice (some ⟨bF, 0, none⟩) t.length t.length))
    have hb11 := (hb10.setCell (p := ⟨bm, 1, none⟩) hbm (.slice (some ⟨bC, 0, none⟩) t.length t.length)).setCell (p := ⟨bm, 2, none⟩) hbm (.slice (some ⟨bF, 0, none⟩) t.length t.length)
    have hb12 := ((Ba.trans (hb9.mono (by omega))).setCell (p := ⟨bm, 1, none⟩) (Nat.le_refl _) (.slice (some ⟨bC, 0, none⟩) t.length t.length)).setCell (p := ⟨bm, 2, none⟩) (Nat.le_refl _) (.slice (some ⟨bF, 0, none⟩) t.length t.length)
    have BF8 := Lib.hid ((hBF.grown (grown_set _ ⟨bm, 1, none⟩ (.slice (some ⟨bC, 0, none⟩) t.length t.length)) nF).grown (grown_set _ ⟨bm, 2, none⟩ (.slice (some ⟨bF, 0, none⟩) t.length t.length)) nF)
    have BC8 := Lib.hid ((hBC.grown (grown_set _ ⟨bm, 1, none⟩ (.slice (some ⟨bC, 0, none⟩) t.length t.length)) nC).grown (grown_set _ ⟨bm, 2, none⟩ (.slice (some ⟨bF, 0, none⟩) t.length t.length)) nC)
    have TM8 := Lib.hid (TiMap.mk XM8.out (HA.out _ hb11) BC8.out BF8.out (LM.out _ hb12) (UM.out _ hb12))
    have W8E : ∃ W8, (W7.setCell ⟨bm, 1, none⟩ (.slice (some ⟨bC, 0, none⟩) t.length t.length)).setCell ⟨bm, 2, none⟩ (.slice (some ⟨bF, 0, none⟩) t.length t.length) = W8 := ⟨_, rfl⟩
    have s8 : ((W7.setCell ⟨bm, 1, none⟩ (.slice (some ⟨bC, 0, none⟩) t.length t.length)).setCell ⟨bm, 2, none⟩ (.slice (some ⟨bF, 0, none⟩) t.length t.length)).heap.size = W7.heap.size := by simp
    clear XM XM7 LM UM hBC hBF XM8 BF8 BC8 C6 Ba hb12 nC nF
    go_wp2_with fail
    obtain ⟨W8, hW8⟩ := W8E
    rw [hW8] at TM8 hb11 s8 ⊢
    rw [← s8]
    clear hW8 s8 g1 g2 y1 y2 f0 f1 f2 f3 f4 f5 hx6 hx0 hx1
    have hb13 : Below W8.heap.size W8 ((W8.alloc (.cells #[.slice none 0 0] 32)).alloc (.cells #[.int .i64 0] 3)) := ((Below.refl _ _).alloc (Nat.le_refl _) _).alloc (by simp) _
    have TS := Lib.hid (show TiSt W8.heap.size W8.heap.size (W8.heap.size + 1) ((W8.alloc (.cells #[.slice none 0 0] 32)).alloc (.cells #[.int .i64 0] 3)) [] 0 from ⟨⟨none, 0, (Box.new W8 32 [.slice none 0 0] rfl).alloc _, World.ownsRow_nil _ _ _ _, by simp [Value.ownBlock], by simp [Value.ownBlock]⟩, Box.new _ 3 [.int .i64 0] (by simp), Nat.le_refl _, by omega, by omega⟩)
    generalize (W8.alloc (.cells #[.slice none 0 0] 32)).alloc (.cells #[.int .i64 0] 3) = W9 at *
    have LB := Lib.hid (titleP_len OKD.out t (Nat.zero_le _) HW.out)
    have TA := Lib.hid (fun at_ k hk => titleP_at (C := caseD C) (t := t) (a := at_) (ps := ps) (k := k) hk)
    have TN := Lib.hid (fun at_ k hk => titleP_end (C := caseD C) (t := t) (a := at_) (ps := ps) (k := k) hk)
    have WA := Lib.hid (fun at_ k hk h => withinL_at (n := t.length) (a := at_) (ps := ps) (k := k) hk h)
    have HTP := Lib.hid (show titleP (caseD C) t 0 (ps.drop 0) = titleP (caseD C) t 0 ps from rfl)
    generalize titleP (caseD C) t 0 ps = TP at *
    go_loopw [12, 13, 50] (fun _ _ u wr => ∃ (k at_ : Nat) (out : List Int), k ≤ ps.length ∧ u = .int .i64 k ∧ TiSt W8.heap.size W8.heap.size (W8.heap.size + 1) wr out at_ ∧ at_ ≤ t.length ∧ withinL t.length at_ (ps.drop k) = true ∧ out ++ titleP (caseD C) t at_ (ps.drop k) = TP ∧ Below W8.heap.size W8 wr) (fun _ _ u _ => ps.length - (intOf u).toNat)
    case atStart => exact ⟨0, 0, [], Nat.zero_le _, rfl, TS.out, Nat.zero_le _, HW.out, HTP.out, hb13⟩
    case round =>
      obtain ⟨k, at_, out, hk, rfl, hTS, hat, hWL, hEQ, hbr⟩ := hrel
      have HTS := Lib.hid hTS
      have HEQ := Lib.hid hEQ
      have HWL := Lib.hid hWL
      have hol : out.length ≤ 67108864 := by
        have h1 := congrArg List.length hEQ
        have h2 := LB.out
        rw [List.length_append] at h1
        have h3 : 64 * (t.length - 0) ≤ 64 * 1048576 := Nat.mul_le_mul_left _ (by omega)
        omega
      clear TS hTS hEQ hWL
      by_cases hlt : k < ps.length
      · obtain ⟨b1, o1, rfl, hbl, hcell⟩ := (HP.out wr (hb11.trans (hbr.mono hb11.size))).at hlt
        obtain ⟨c1, c2⟩ := hcell k hlt
        obtain ⟨p1, p2, p3, p4⟩ := WA.out at_ k hlt HWL.out
        have TAk := Lib.hid (TA.out at_ k hlt)
        have P4 := Lib.hid p4
        clear hcell p4 HWL
        generalize ps[k] = p at *
        obtain ⟨plo, phi⟩ := p
        dsimp only at *
        obtain ⟨L, rfl⟩ : ∃ L : Nat, plo = L := ⟨plo.toNat, by omega⟩
        obtain ⟨H, rfl⟩ : ∃ H : Nat, phi = H := ⟨phi.toNat, by omega⟩
        simp only [Int.toNat_natCast] at TAk
        have n1 : at_ ≤ L := by omega
        have n2 : L ≤ H := by omega
        have n3 : H ≤ t.length := by omega
        have Bw : Below wr.heap.size wr (wr.alloc (.cells #[.int .i64 L, .int .i64 H] 48)) := (Below.refl _ _).alloc (Nat.le_refl _) _
        have XP := Lib.hid (Box.new wr 48 [.int .i64 L, .int .i64 H] rfl)
        have HT2 := Lib.hid (HTS.out.below Bw)
        have hb14 := hbr.trans (Bw.mono hbr.size)
        have hbw2 : W8.heap.size + 1 < wr.heap.size := HTS.out.bx.lt
        have WpE : ∃ Wp, wr.alloc (.cells #[.int .i64 L, .int .i64 H] 48) = Wp := ⟨_, rfl⟩
        clear HTS
        go_wp2_with fail
        obtain ⟨Wp, hWp⟩ := WpE
        rw [hWp] at XP HT2 hb14 Bw ⊢
        clear hWp c1 c2 p1 p2 p3
        have hbp : ¬ wr.heap.size = W8.heap.size := by have := HT2.out.bx.lt; have := HT2.out.hbr; have := hbw2; omega
        generalize wr.heap.size = bp at *
        have x0 := XP.out.cell (i := 0) rfl
        have x1 := XP.out.cell (i := 1) rfl
        have TM9 := Lib.hid (TM8.out.below hb14)
        have m1 := TM9.out.bx.cell (i := 1) rfl
        have hlm := TM9.out.bx.lt
        have hlc := TM9.out.hC.lt
        go_loop [13] (fun u => ∃ f : Nat, L ≤ f ∧ f ≤ H ∧ u = .int .i64 f ∧ (∀ j, L ≤ j → j < f → hasR (caseD C).cased (t.getD j 0) = false)) (fun u => H - (intOf u).toNat)
        case atStart => exact ⟨L, Nat.le_refl _, n2, rfl, fun j h1 h2 => by omega⟩
        case round =>
          obtain ⟨f, hf1, hf2, rfl, hno⟩ := hrel
          have HNO := Lib.hid hno
          clear hno
          by_cases hfl : f < H
          · have y0 := TM9.out.hC.cell (i := f) (tabV_get _ (by omega))
            have ci0 : (0 : Int) ≤ f := by omega
            have ci1 : (f : Int) < t.length := by omega
            generalize hcs : hasR (caseD C).cased (t.getD f 0) = cs at *
            cases cs with
            | false =>
              have HQ := Lib.hid (show ∀ j, L ≤ j → j < f + 1 → hasR (caseD C).cased (t.getD j 0) = false from fun j h1 h2 => by
                by_cases e : j = f
                · subst e; exact hcs
                · exact HNO.out j h1 (by omega))
              clear hcs HNO
              go_wp2_with fail
              go_round
              case rel => exact ⟨f + 1, by omega, by omega, by go_num, HQ.out⟩
              case measure => simp [intOf]; omega
            | true =>
              have PT := Lib.hid (partT_at hf1 hfl HNO.out hcs)
              clear hcs HNO
              have S1 := Lib.hid (TM8.out.toSame hna haz hb14 HT2.out (Nat.le_trans n1 hf1) (Nat.le_trans hf2 n3) hb hol)
              clear HT2 x0
              go_wp2_with fail
              with_reducible refine S1.out.mono ?_
              rintro e Wq ⟨rfl, hT3, hK3, hb15⟩
              have hb16 := hb14.trans hb15
              have XP2 := hK3 _ _ _ XP.out (by decide) hbp
              have x1 := XP2.cell (i := 1) rfl
              have o2 : (out ++ joinI (sameAt t) at_ f).length ≤ 67108864 := by
                have h1 := congrArg List.length HEQ.out
                have h2 := LB.out
                rw [TAk.out, PT.out] at h1
                simp only [List.length_append] at h1
                rw [joinI_add (sameAt t) n1 hf1]
                simp only [List.length_append]
                have h3 : 64 * (t.length - 0) ≤ 64 * 1048576 := Nat.mul_le_mul_left _ (by omega)
                omega
              have S2 := Lib.hid (TM8.out.toUp OKD.out.title HOK.out hna haz hb16 hT3 (Nat.le_succ f) (by omega) hb o2)
              have qf : IntKind.i64.wrap ((f : Int) + 1) = (f : Int) + 1 := IntWalk.i64_in _ (by omega)
              rw [show (((f + 1 : Nat) : Int)) = (f : Int) + 1 from by push_cast; rfl] at S2
              clear S1 hT3 hK3 hb15
              go_wp2_with fail
              with_reducible refine S2.out.mono ?_
              rintro e Wr ⟨rfl, hT4, hK4, hb17⟩
              have hb18 := hb16.trans hb17
              have XP3 := hK4 _ _ _ XP2 (by decide) hbp
              have x1 := XP3.cell (i := 1) rfl
              have o3 : (out ++ joinI (sameAt t) at_ f ++ joinI (upAt (caseD C).title t) f (f + 1)).length ≤ 67108864 := by
                have h1 := congrArg List.length HEQ.out
                have h2 := LB.out
                rw [TAk.out, PT.out] at h1
                simp only [List.length_append] at h1
                rw [joinI_add (sameAt t) n1 hf1, joinI_one]
                simp only [List.length_append]
                have h3 : 64 * (t.length - 0) ≤ 64 * 1048576 := Nat.mul_le_mul_left _ (by omega)
                omega
              have S3 := Lib.hid (TM8.out.toLow OKD.out HOK.out hna haz hb18 hT4 (Nat.succ_le_of_lt hfl) n3 hb o3)
              clear S2 hT4 hK4 hb17
              go_wp2_with fail
              with_reducible refine S3.out.mono ?_
              rintro e Ws ⟨rfl, hT5, _, hb19⟩
              have hb20 := hb18.trans hb19
              have HT6 := Lib.hid hT5
              have HE6 := Lib.hid (show out ++ joinI (sameAt t) at_ f ++ joinI (upAt (caseD C).title t) f (f + 1) ++ joinI (lowAt (caseD C) t) (f + 1) H ++ titleP (caseD C) t H (ps.drop (k + 1)) = TP by
                rw [← HEQ.out, TAk.out, PT.out, joinI_add (sameAt t) n1 hf1, joinI_one]
                simp only [List.append_assoc])
              clear S3 hT5 hb19
              go_wp2_with fail
              go_roundw
              case rel => exact ⟨k + 1, H, _, by omega, by go_num, HT6.out, n3, P4.out, HE6.out, hb20⟩
              case measure => simp [intOf]; omega
          · obtain rfl : f = H := by omega
            have PT := Lib.hid (partT_end (C := caseD C) (t := t) n2 HNO.out)
            clear HNO
            have S1 := Lib.hid (TM8.out.toSame hna haz hb14 HT2.out (Nat.le_trans n1 n2) n3 hb hol)
            clear HT2 x0
            go_wp2_with fail
            with_reducible refine S1.out.mono ?_
            rintro e Wq ⟨rfl, hT3, hK3, hb15⟩
            have hb16 := hb14.trans hb15
            have XP2 := hK3 _ _ _ XP.out (by decide) hbp
            have x1 := XP2.cell (i := 1) rfl
            have HT6 := Lib.hid hT3
            have HE6 := Lib.hid (show out ++ joinI (sameAt t) at_ f ++ titleP (caseD C) t f (ps.drop (k + 1)) = TP by
              rw [← HEQ.out, TAk.out, PT.out, joinI_add (sameAt t) n1 n2]
              simp only [List.append_assoc])
            clear S1 hT3 hK3 hb15
            go_wp2_with fail
            go_roundw
            case rel => exact ⟨k + 1, f, _, by omega, by go_num, HT6.out, n3, P4.out, HE6.out, hb16⟩
            case measure => simp [intOf]; omega
      · have HE := Lib.hid (HEQ.out.symm.trans (by rw [TN.out at_ k (by omega)]))
        have S1 := Lib.hid (TM8.out.toSame hna haz hbr HTS.out hat (Nat.le_refl _) hb hol)
        clear HTS HWL HEQ
        go_wp2_with fail
        with_reducible refine S1.out.mono ?_
        rintro e Wq ⟨rfl, hT3, hK3, hb15⟩
        have hb16 := hb11.trans ((hbr.trans hb15).mono hb11.size)
        obtain ⟨⟨R, c, r1, r2, _, _⟩, _, _, _, _⟩ := hT3
        have x0 := r1.cell (i := 0) rfl
        have HO := Lib.hid r2
        clear S1 hK3 hb15 r1 r2
        generalize out ++ joinI (sameAt t) at_ t.length = OO at *
        obtain rfl := HE.out
        go_wp2_with fail
        go_ret
        obtain ⟨_, _, hv, hc⟩ := own_form HO.out
        injection hv with _ _ hv
        subst hv
        exact ⟨R, c, rfl, hc, own_capF HO.out, Sl.of_own HO.out, fun b o hE => Nat.le_trans hb11.size (own_fresh HO.out b o hE), hb16⟩

theorem Title_any (v0 v1 v2 v3 v4 v5 : Value) (C : Cse) (A : Option Addr) (n a : Nat) (t : List Int) (P : Option Addr) (np cp : Nat) (ps : List Rg) (w : World) (h : CaseAt w v0 v1 v2 v3 v4 v5 C) (hz : CaseSz C) (hA : Ints w A t) (hn : t.length = n) (hb : n ≤ 1048576) (hna : n ≤ a) (haz : a ≤ 9223372036854775807) (hok : ∀ x ∈ t, iok x)
    (hP : Rgs w P ps) (hp : ps.length = np) (hpz : np ≤ 1048576) :
    Calls Try.prog 26 #[.agg #[v0, v1, v2, v3, v4, v5], .slice A n a, .slice P np cp] w (RetIs (titleL (caseD C) t ps) w) :=
  (Title_fresh v0 v1 v2 v3 v4 v5 C A n a t P np cp ps w h hz hA hn hb hna haz hok hP hp hpz).mono fun _ _ ⟨E, d, h1, h2, _, h3, _, h4⟩ => ⟨E, d, h1, h2, h3, h4⟩

end Go.Proofs.Ytpamkbbmbeeheaa
