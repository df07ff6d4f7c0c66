/- Texts that are merged into one file: SlNew, RkA, RefMtA, RefMt, RkB, RefElems, RkKey, SlRef, CpEqual. -/
import Derived.Test.YtpfbnikbebccjaaGreatDoorG02
import Derived.Test.YtpfbnikbebccjaaGreatDoorG07
import Derived.Test.YtpfbnikbebccjaaGreatDoorG08
import Derived.Test.YtpfbnikbebccjaaGreatDoorG09
import Derived.Test.YtpfbnikbebccjaaGreatDoorG10
import Derived.Test.YtpfbnikbebccjaaGreatDoorG11
import Derived.Test.YtpfbnikbebccjaaGreatDoorG15
import Derived.Test.YtpfbnikbebccjaaGreatDoorG16
import Derived.Test.YtpfbnikbebccjaaGreatDoorG17
import Derived.Test.YtpfbnikbebccjaaGreatDoorG19
import Derived.Test.YtpfbnikbebccjaaGreatDoorG20
import Derived.Test.YtpfbnikbebccjaaGreatDoorG21
import Derived.Test.YtpfbnikbebccjaaGreatDoorG24
import Derived.Test.YtpfbnikbebccjaaGreatDoorG25
import Derived.Deep.DeepCutAuto
import Derived.Deep.Cut
/- The contract of sortlist.New. Written by gen_slnew.py. -/
namespace Go.Proofs.YtpfbnikbebccjaaGreatDoor
open Go.RowKit Go.Maps Go.WideMaps Srl

section
variable {P : Program} {ops : Array Oper} {Q : Exit → Act → World → Prop} {md : Region.Mode} {S : World → Prop}
/-- one operation of a held region, whatever follows -/
def StepH (P : Program) (md : Region.Mode) (ops : Array Oper) (Q : Exit → Act → World → Prop) (S : World → Prop) (fuel : Nat) (listed : Array Bool) (i : Nat) (oi : Oper) (a : Act) (w : World) : Prop :=
  ∀ K : Act → World → Prop, Shut (∀ a w, S w → (S w → wpAnyH P md ops Q S fuel (listed.setIfInBounds i true) a w) → K a w) → Oper.wp P oi a w K Q
theorem stepH_callE {R : Value → World → Prop} {i : Nat} {oi : Oper} {fuel : Nat} {listed : Array Bool} {a : Act} {w : World} (d : Option Tmp) {f : FuncId} {args : Array Value} (hd : oi.dst = d) (he : (execOp a.eval oi).run P w = .ok (.enter f args) w)
    (hc : Calls P f args w (fun e w' => ∃ v, e = .returned v ∧ S w' ∧ R v w'))
    (h : ∀ v w', S w' → R v w' → wpAnyH P md ops Q S fuel (listed.setIfInBounds i true) (a.put d v) w') : StepH P md ops Q S fuel listed i oi a w := by
  subst hd
  intro K hK
  unfold Oper.wp
  rw [he]
  simp only [Oper.upon]
  refine hc.mono ?_
  rintro e w' ⟨v, rfl, hS', hR'⟩
  exact hK.out _ _ hS' (fun hh => h v w' hh hR')
theorem stepH_val {i : Nat} {oi : Oper} {fuel : Nat} {listed : Array Bool} {a : Act} {w w' : World} {v : Value} (d : Option Tmp) (hd : oi.dst = d) (he : (execOp a.eval oi).run P w = .ok (.value v) w') (hS : S w')
    (h : wpAnyH P md ops Q S fuel (listed.setIfInBounds i true) (a.put d v) w') : StepH P md ops Q S fuel listed i oi a w := by
  subst hd
  intro K hK
  unfold Oper.wp
  rw [he]
  simp only [Oper.upon]
  exact hK.out _ _ hS (fun _ => h)
/-- two operations may come up -/
theorem anyH_of2 {i j : Nat} {oi oj : Oper} {fuel : Nat} {listed : Array Bool} {a : Act} {w : World} (hi : ops[i]? = some oi) (hj : ops[j]? = some oj) (hr : Region.ready md ops listed = [i, j])
    (hwi : Region.wanted oi (yielded ops a.tmps) = true) (hwj : Region.wanted oj (yielded ops a.tmps) = true) (Hi : StepH P md ops Q S fuel listed i oi a w) (Hj : StepH P md ops Q S fuel listed j oj a w) : wpAnyH P md ops Q S (fuel + 1) listed a w := by
  refine wpAnyH_ready hr (by simp) (AllReadyH.cons hi (fun K hK => ?_) (AllReadyH.cons hj (fun K hK => ?_) AllReadyH.nil))
  · rw [if_pos hwi]; exact Hi K hK
  · rw [if_pos hwj]; exact Hj K hK
end

/-- the first error of a setting -/
def newErr (x : Nrm) (c : Col) (o : Opt) : Int := if nErr x ≠ 0 then nErr x else if colErr c ≠ 0 then colErr c else optErr o
def RetNew (x : Nrm) (c : Col) (o : Opt) (w : World) (e : Ending) (w' : World) : Prop :=
  Below w.heap.size w w' ∧ ((newErr x c o ≠ 0 ∧ e = .returned (.tuple #[.pointer none, .int .i64 (newErr x c o)])) ∨ (newErr x c o = 0 ∧ ∃ l V mb, e = .returned (.tuple #[.pointer (some ⟨l, 0, none⟩), .int .i64 0]) ∧ Lst w' l w.heap.size V mb none 0 0 x c o (fun _ => none) []))
theorem new_lst {w0 : World} {bs mb : Nat} {V : LsV} {x : Nrm} {c : Col} {o : Opt} (hbs : bs ≤ w0.heap.size) (hbm : bs ≤ mb) (hN : NrmAt w0 V.A0 x.cls.length V.A1 x.dec.length V.A2 x.exc.length x) (hC : ColAt w0 V.C c.ents.length V.B c.grps.length c) (hL : Laid w0)
    (hm : MapC Tryz.prog 3 ikey iok w0 mb 0 (fun _ => none) 0) (hz : NrmSz x) (hcz : ColSz c) :
    Lst (w0.alloc (.cells (lsC V x c o mb none 0 0).toArray 80)) w0.heap.size bs V mb none 0 0 x c o (fun _ => none) [] where
  box := Box.new w0 80 _ rfl
  map := hm.below ((Below.refl _ _).alloc (Nat.le_refl _) _)
  row := World.ownsRow_nil _ _ _ _
  set := ⟨w0, hbs, Nat.le_refl _, fun o => hm.is.nocell o, hN, hC, hL, Chg.of_below ((Below.refl _ _).alloc (Nat.le_refl _) _), fun q hq => by cases hq⟩
  lol := hbs
  lom := hbm
  nlm := fun e => by have := hm.lt; omega
  nlo := fun e => by cases e
  nmo := fun e => by cases e
  item := fun p hp => by cases hp
  gone := fun _ _ _ => rfl
  srt := srt_nil
  ok := fun p hp => by cases hp
  nz := hz
  cz := hcz
  len := Nat.zero_le _

set_option maxRecDepth 100000 in
set_option maxHeartbeats 25600000 in
theorem new_any (A0 : Option Addr) (k0 : Nat) (A1 : Option Addr) (k1 : Nat) (A2 : Option Addr) (k2 : Nat) (x : Nrm) (C : Option Addr) (a : Nat) (B : Option Addr) (b : Nat) (c : Col) (o : Opt) (w : World) (hN : NrmAt w A0 x.cls.length A1 x.dec.length A2 x.exc.length x) (hz : NrmSz x) (hC : ColAt w C c.ents.length B c.grps.length c) (hcz : ColSz c) (hL : Laid w) :
    Calls Tryz.prog 11 #[.agg #[.slice A0 x.cls.length k0, .slice A1 x.dec.length k1, .slice A2 x.exc.length k2], .agg #[.slice C c.ents.length a, .slice B c.grps.length b, .int .i64 c.base, .int .i64 c.second, .int .i64 c.third], .agg #[.int .i64 o.st, .int .i64 o.va, .bool o.bk, .bool o.idn]] w (RetNew x c o w) := by
  have B00 : Below w.heap.size w (((w.alloc (.cells #[.slice A0 x.cls.length k0, .slice A1 x.dec.length k1, .slice A2 x.exc.length k2] 28)).alloc (.cells #[.slice C c.ents.length a, .slice B c.grps.length b, .int .i64 c.base, .int .i64 c.second, .int .i64 c.third] 32)).alloc (.cells #[.int .i64 o.st, .int .i64 o.va, .bool o.bk, .bool o.idn] 34)) := (((Below.refl _ _).alloc (Nat.le_refl _) _).alloc (by simp) _).alloc (by simp <;> omega) _
  have X0 : Box (((w.alloc (.cells #[.slice A0 x.cls.length k0, .slice A1 x.dec.length k1, .slice A2 x.exc.length k2] 28)).alloc (.cells #[.slice C c.ents.length a, .slice B c.grps.length b, .int .i64 c.base, .int .i64 c.second, .int .i64 c.third] 32)).alloc (.cells #[.int .i64 o.st, .int .i64 o.va, .bool o.bk, .bool o.idn] 34)) w.heap.size 28 [.slice A0 x.cls.length k0, .slice A1 x.dec.length k1, .slice A2 x.exc.length k2] := bx_alloc (bx_alloc (Box.new w 28 [.slice A0 x.cls.length k0, .slice A1 x.dec.length k1, .slice A2 x.exc.length k2] rfl) _) _
  have X1 : Box (((w.alloc (.cells #[.slice A0 x.cls.length k0, .slice A1 x.dec.length k1, .slice A2 x.exc.length k2] 28)).alloc (.cells #[.slice C c.ents.length a, .slice B c.grps.length b, .int .i64 c.base, .int .i64 c.second, .int .i64 c.third] 32)).alloc (.cells #[.int .i64 o.st, .int .i64 o.va, .bool o.bk, .bool o.idn] 34)) (w.heap.size + 1) 32 [.slice C c.ents.length a, .slice B c.grps.length b, .int .i64 c.base, .int .i64 c.second, .int .i64 c.third] := bx_alloc (Box.new _ 32 [.slice C c.ents.length a, .slice B c.grps.length b, .int .i64 c.base, .int .i64 c.second, .int .i64 c.third] (by simp)) _
  have X2 : Box (((w.alloc (.cells #[.slice A0 x.cls.length k0, .slice A1 x.dec.length k1, .slice A2 x.exc.length k2] 28)).alloc (.cells #[.slice C c.ents.length a, .slice B c.grps.length b, .int .i64 c.base, .int .i64 c.second, .int .i64 c.third] 32)).alloc (.cells #[.int .i64 o.st, .int .i64 o.va, .bool o.bk, .bool o.idn] 34)) (w.heap.size + 1 + 1) 34 [.int .i64 o.st, .int .i64 o.va, .bool o.bk, .bool o.idn] := Box.new _ _ _ (by simp)
  have W0E : ∃ W0, (((w.alloc (.cells #[.slice A0 x.cls.length k0, .slice A1 x.dec.length k1, .slice A2 x.exc.length k2] 28)).alloc (.cells #[.slice C c.ents.length a, .slice B c.grps.length b, .int .i64 c.base, .int .i64 c.second, .int .i64 c.third] 32)).alloc (.cells #[.int .i64 o.st, .int .i64 o.va, .bool o.bk, .bool o.idn] 34)) = W0 := ⟨_, rfl⟩
  have C1 := Lib.hid (fun W (hb : Below w.heap.size w W) => dCheck_any A0 _ k0 A1 _ k1 A2 _ k2 x W (hN.below hb) hz (hL.below hb))
  have C2 := Lib.hid (fun W (hb : Below w.heap.size w W) => ckColl_any C _ a B _ b c W (hC.below hb) hcz)
  have C3 := Lib.hid (fun W => skCheck_any o W)
  have CN := Lib.hid (fun W (hb : Below w.heap.size w W) => copiedNorm_any A0 _ k0 A1 _ k1 A2 _ k2 x W (hN.below hb) hz)
  have CC := Lib.hid (fun W (hb : Below w.heap.size w W) => copiedCol_any C _ a B _ b c W (hC.below hb) hcz)
  have HL := Lib.hid (fun W (hb : Below w.heap.size w W) => hL.below hb)
  have HEND0 := Lib.hid (fun (W : World) (mb : Nat) (B0 : Option Addr) (l0 : Nat) (B1 : Option Addr) (l1 : Nat) (B2 : Option Addr) (l2 : Nat) (D : Option Addr) (d1 : Nat) (E : Option Addr) (d2 : Nat) (hbs : w.heap.size ≤ W.heap.size) (hbm : w.heap.size ≤ mb) (hb : Below w.heap.size w W) hN' hC' hm => new_lst (w0 := W) (bs := w.heap.size) (mb := mb) (V := ⟨B0, l0, B1, l1, B2, l2, D, d1, E, d2⟩) (x := x) (c := c) (o := o) hbs hbm hN' hC' (hL.below hb) hm hz hcz)
  have NE0 := Lib.hid (fun (h : nErr x ≠ 0) => show newErr x c o = nErr x by unfold newErr; rw [if_pos h])
  have NE1 := Lib.hid (fun (h1 : nErr x = 0) (h : colErr c ≠ 0) => show newErr x c o = colErr c by unfold newErr; rw [if_neg (fun q => q h1), if_pos h])
  have NE2 := Lib.hid (fun (h1 : nErr x = 0) (h : colErr c = 0) => show newErr x c o = optErr o by unfold newErr; rw [if_neg (fun q => q h1), if_neg (fun q => q h)])
  unfold RetNrm at CN
  unfold RetCol at CC
  unfold colV at C2 CC
  unfold lsC at HEND0
  unfold RetNew
  generalize nErr x = e1 at *
  generalize colErr c = e2 at *
  generalize optErr o = e3 at *
  generalize newErr x c o = e0 at *
  clear hN hz hC hcz hL
  go_enter Tryz.func11, Tryz.ntmps11
  go_upto_region 1 with (fail)
  obtain ⟨W0, hW0⟩ := W0E
  try rw [hW0] at B00 X0 X1 X2 ⊢
  clear hW0
  have l0 := X0.lt
  have l1 := X1.lt
  have l2 := X2.lt
  have a0 := X0.cell (i := 0) rfl
  have a1 := X0.cell (i := 1) rfl
  have a2 := X0.cell (i := 2) rfl
  go_wp2_with fail
  with_reducible refine (C1.out W0 B00).mono ?_
  rintro e W1 ⟨rfl, hb1⟩
  have B01 := B00.trans (hb1.mono B00.size)
  clear a0 a1 a2 C1
  by_cases h1 : e1 = 0
  rotate_left
  · have q1 : (e1 != 0) = true := by simpa using h1
    obtain rfl := NE0.out h1
    have HE := Lib.hid h1
    clear NE0 NE1 NE2 h1
    go_wp2_with fail
    go_ret2
    exact ⟨B01, .inl ⟨HE.out, rfl⟩⟩
  have q1 : (e1 != 0) = false := by simpa using h1
  have HE1 := Lib.hid h1
  clear h1 NE0
  have b0 := (X1.below hb1 l1).cell (i := 0) rfl
  have b1 := (X1.below hb1 l1).cell (i := 1) rfl
  have b2 := (X1.below hb1 l1).cell (i := 2) rfl
  have b3 := (X1.below hb1 l1).cell (i := 3) rfl
  have b4 := (X1.below hb1 l1).cell (i := 4) rfl
  go_wp2_with fail
  with_reducible refine (C2.out W1 B01).mono ?_
  rintro e W2 ⟨rfl, hb2⟩
  have B02 := B01.trans (hb2.mono B01.size)
  have hb12 := hb1.trans (hb2.mono hb1.size)
  clear b0 b1 b2 b3 b4 C2 q1
  by_cases h2 : e2 = 0
  rotate_left
  · have q2 : (e2 != 0) = true := by simpa using h2
    obtain rfl := NE1.out HE1.out h2
    have HE := Lib.hid h2
    clear NE1 NE2 h2
    go_wp2_with fail
    go_ret2
    exact ⟨B02, .inl ⟨HE.out, rfl⟩⟩
  have q2 : (e2 != 0) = false := by simpa using h2
  have HE2 := Lib.hid h2
  clear h2 NE1
  have c0 := (X2.below hb12 l2).cell (i := 0) rfl
  have c1 := (X2.below hb12 l2).cell (i := 1) rfl
  have c2 := (X2.below hb12 l2).cell (i := 2) rfl
  have c3 := (X2.below hb12 l2).cell (i := 3) rfl
  go_wp2_with fail
  with_reducible refine (C3.out W2).mono ?_
  rintro e W3 ⟨rfl, hb3⟩
  have B03 := B02.trans (hb3.mono B02.size)
  have hb13 := hb12.trans (hb3.mono hb12.size)
  clear c0 c1 c2 c3 C3 q2
  have NE3 := Lib.hid (NE2.out HE1.out HE2.out)
  clear NE2
  by_cases h3 : e3 = 0
  rotate_left
  · have q3 : (e3 != 0) = true := by simpa using h3
    obtain rfl := NE3.out
    have HE := Lib.hid h3
    clear h3 NE3
    go_wp2_with fail
    go_ret2
    exact ⟨B03, .inl ⟨HE.out, rfl⟩⟩
  have q3 : (e3 != 0) = false := by simpa using h3
  have NE := Lib.hid (show e0 = 0 by rw [NE3.out]; exact h3)
  clear NE3
  have HEND := Lib.hid (fun (W : World) (mb : Nat) (B0 : Option Addr) (l0 : Nat) (B1 : Option Addr) (l1 : Nat) (B2 : Option Addr) (l2 : Nat) (D : Option Addr) (d1 : Nat) (E : Option Addr) (d2 : Nat) (hb : Below W3.heap.size W3 W) (hbm : W3.heap.size ≤ mb) hN' hC' hm => HEND0.out W mb B0 l0 B1 l1 B2 l2 D d1 E d2 (Nat.le_trans B03.size hb.size) (Nat.le_trans B03.size hbm) (B03.trans (hb.mono B03.size)) hN' hC' hm)
  clear HEND0
  have Y0 := X0.below hb13 l0
  have Y1 := X1.below hb13 l1
  have Y2 := X2.below hb13 l2
  have m0 := Y0.lt
  have m1 := Y1.lt
  have m2 := Y2.lt
  have SH := Lib.hid (fun W' (hb' : Below W3.heap.size W3 W') => show W'.cell? ⟨w.heap.size, 0, none⟩ = some (.slice A0 x.cls.length k0) ∧ W'.cell? ⟨w.heap.size, 1, none⟩ = some (.slice A1 x.dec.length k1) ∧ W'.cell? ⟨w.heap.size, 2, none⟩ = some (.slice A2 x.exc.length k2) ∧ W'.cell? ⟨w.heap.size + 1, 0, none⟩ = some (.slice C c.ents.length a) ∧ W'.cell? ⟨w.heap.size + 1, 1, none⟩ = some (.slice B c.grps.length b) ∧ W'.cell? ⟨w.heap.size + 1, 2, none⟩ = some (.int .i64 c.base) ∧ W'.cell? ⟨w.heap.size + 1, 3, none⟩ = some (.int .i64 c.second) ∧ W'.cell? ⟨w.heap.size + 1, 4, none⟩ = some (.int .i64 c.third) ∧ W'.cell? ⟨w.heap.size + 1 + 1, 0, none⟩ = some (.int .i64 o.st) ∧ W'.cell? ⟨w.heap.size + 1 + 1, 1, none⟩ = some (.int .i64 o.va) ∧ W'.cell? ⟨w.heap.size + 1 + 1, 2, none⟩ = some (.bool o.bk) ∧ W'.cell? ⟨w.heap.size + 1 + 1, 3, none⟩ = some (.bool o.idn) ∧ Below W3.heap.size W3 W' from ⟨(Y0.below hb' m0).cell (i := 0) rfl, (Y0.below hb' m0).cell (i := 1) rfl, (Y0.below hb' m0).cell (i := 2) rfl, (Y1.below hb' m1).cell (i := 0) rfl, (Y1.below hb' m1).cell (i := 1) rfl, (Y1.below hb' m1).cell (i := 2) rfl, (Y1.below hb' m1).cell (i := 3) rfl, (Y1.below hb' m1).cell (i := 4) rfl, (Y2.below hb' m2).cell (i := 0) rfl, (Y2.below hb' m2).cell (i := 1) rfl, (Y2.below hb' m2).cell (i := 2) rfl, (Y2.below hb' m2).cell (i := 3) rfl, hb'⟩)
  have TN := Lib.hid (fun W (hb' : Below W3.heap.size W3 W) => (CN.out W (B03.trans (hb'.mono B03.size))).mono (R' := fun e W' => ∃ v, e = .returned v ∧ (W'.cell? ⟨w.heap.size, 0, none⟩ = some (.slice A0 x.cls.length k0) ∧ W'.cell? ⟨w.heap.size, 1, none⟩ = some (.slice A1 x.dec.length k1) ∧ W'.cell? ⟨w.heap.size, 2, none⟩ = some (.slice A2 x.exc.length k2) ∧ W'.cell? ⟨w.heap.size + 1, 0, none⟩ = some (.slice C c.ents.length a) ∧ W'.cell? ⟨w.heap.size + 1, 1, none⟩ = some (.slice B c.grps.length b) ∧ W'.cell? ⟨w.heap.size + 1, 2, none⟩ = some (.int .i64 c.base) ∧ W'.cell? ⟨w.heap.size + 1, 3, none⟩ = some (.int .i64 c.second) ∧ W'.cell? ⟨w.heap.size + 1, 4, none⟩ = some (.int .i64 c.third) ∧ W'.cell? ⟨w.heap.size + 1 + 1, 0, none⟩ = some (.int .i64 o.st) ∧ W'.cell? ⟨w.heap.size + 1 + 1, 1, none⟩ = some (.int .i64 o.va) ∧ W'.cell? ⟨w.heap.size + 1 + 1, 2, none⟩ = some (.bool o.bk) ∧ W'.cell? ⟨w.heap.size + 1 + 1, 3, none⟩ = some (.bool o.idn) ∧ Below W3.heap.size W3 W') ∧ (∃ B0 l0 B1 l1 B2 l2, v = .agg #[.slice B0 x.cls.length l0, .slice B1 x.dec.length l1, .slice B2 x.exc.length l2] ∧ NrmAt W' B0 x.cls.length B1 x.dec.length B2 x.exc.length x ∧ Below W.heap.size W W')) (fun e W' ⟨B0, l0, B1, l1, B2, l2, he, g1, g2⟩ => ⟨_, he, SH.out W' (hb'.trans (g2.mono hb'.size)), B0, l0, B1, l1, B2, l2, rfl, g1, g2⟩))
  have TC := Lib.hid (fun W (hb' : Below W3.heap.size W3 W) => (CC.out W (B03.trans (hb'.mono B03.size))).mono (R' := fun e W' => ∃ v, e = .returned v ∧ (W'.cell? ⟨w.heap.size, 0, none⟩ = some (.slice A0 x.cls.length k0) ∧ W'.cell? ⟨w.heap.size, 1, none⟩ = some (.slice A1 x.dec.length k1) ∧ W'.cell? ⟨w.heap.size, 2, none⟩ = some (.slice A2 x.exc.length k2) ∧ W'.cell? ⟨w.heap.size + 1, 0, none⟩ = some (.slice C c.ents.length a) ∧ W'.cell? ⟨w.heap.size + 1, 1, none⟩ = some (.slice B c.grps.length b) ∧ W'.cell? ⟨w.heap.size + 1, 2, none⟩ = some (.int .i64 c.base) ∧ W'.cell? ⟨w.heap.size + 1, 3, none⟩ = some (.int .i64 c.second) ∧ W'.cell? ⟨w.heap.size + 1, 4, none⟩ = some (.int .i64 c.third) ∧ W'.cell? ⟨w.heap.size + 1 + 1, 0, none⟩ = some (.int .i64 o.st) ∧ W'.cell? ⟨w.heap.size + 1 + 1, 1, none⟩ = some (.int .i64 o.va) ∧ W'.cell? ⟨w.heap.size + 1 + 1, 2, none⟩ = some (.bool o.bk) ∧ W'.cell? ⟨w.heap.size + 1 + 1, 3, none⟩ = some (.bool o.idn) ∧ Below W3.heap.size W3 W') ∧ (∃ D d1 E d2, v = .agg #[.slice D c.ents.length d1, .slice E c.grps.length d2, .int .i64 c.base, .int .i64 c.second, .int .i64 c.third] ∧ ColAt W' D c.ents.length E c.grps.length c ∧ Below W.heap.size W W')) (fun e W' ⟨D, d1, E, d2, he, g1, g2⟩ => ⟨_, he, SH.out W' (hb'.trans (g2.mono hb'.size)), D, d1, E, d2, rfl, g1, g2⟩))
  have B00' := B03
  clear CN CC
  have hmm := @run_makeMap Tryz.prog
  go_upto_region 10 with (fail)
  refine wp_region_held_drew (S := fun W' => W'.cell? ⟨w.heap.size, 0, none⟩ = some (.slice A0 x.cls.length k0) ∧ W'.cell? ⟨w.heap.size, 1, none⟩ = some (.slice A1 x.dec.length k1) ∧ W'.cell? ⟨w.heap.size, 2, none⟩ = some (.slice A2 x.exc.length k2) ∧ W'.cell? ⟨w.heap.size + 1, 0, none⟩ = some (.slice C c.ents.length a) ∧ W'.cell? ⟨w.heap.size + 1, 1, none⟩ = some (.slice B c.grps.length b) ∧ W'.cell? ⟨w.heap.size + 1, 2, none⟩ = some (.int .i64 c.base) ∧ W'.cell? ⟨w.heap.size + 1, 3, none⟩ = some (.int .i64 c.second) ∧ W'.cell? ⟨w.heap.size + 1, 4, none⟩ = some (.int .i64 c.third) ∧ W'.cell? ⟨w.heap.size + 1 + 1, 0, none⟩ = some (.int .i64 o.st) ∧ W'.cell? ⟨w.heap.size + 1 + 1, 1, none⟩ = some (.int .i64 o.va) ∧ W'.cell? ⟨w.heap.size + 1 + 1, 2, none⟩ = some (.bool o.bk) ∧ W'.cell? ⟨w.heap.size + 1 + 1, 3, none⟩ = some (.bool o.idn) ∧ Below W3.heap.size W3 W') (by kernel_rfl) (SH.out _ ((Below.refl _ _).drew)) (fun hHeld => ?_)
  obtain ⟨WD, hWD⟩ : ∃ WD, W3.drew = WD := ⟨_, rfl⟩
  rw [hWD] at hHeld ⊢
  have HWD := hHeld.2.2.2.2.2.2.2.2.2.2.2.2
  refine anyH_take (i := 0) (v := ?_) (some 26) rfl rfl (by kernel_rfl) (by kernel_rfl) (by kernel_rfl) (fun _ _ _ h => h) (by rfl) (by assumption) ?_ ?_
  rotate_left
  · intro w hSw; (try dsimp only at hSw); go_split_ands; go_simp; try (with_reducible rfl)
  try simp only [Act.put, List.setIfInBounds_toArray, List.set_cons_zero, List.set_cons_succ]
  refine anyH_take (i := 2) (v := ?_) (some 28) rfl rfl (by kernel_rfl) (by kernel_rfl) (by kernel_rfl) (fun _ _ _ h => h) (by rfl) (by assumption) ?_ ?_
  rotate_left
  · intro w hSw; (try dsimp only at hSw); go_split_ands; go_simp; try (with_reducible rfl)
  try simp only [Act.put, List.setIfInBounds_toArray, List.set_cons_zero, List.set_cons_succ]
  refine anyH_take (i := 4) (v := ?_) (some 30) rfl rfl (by kernel_rfl) (by kernel_rfl) (by kernel_rfl) (fun _ _ _ h => h) (by rfl) (by assumption) ?_ ?_
  rotate_left
  · intro w hSw; (try dsimp only at hSw); go_split_ands; go_simp; try (with_reducible rfl)
  try simp only [Act.put, List.setIfInBounds_toArray, List.set_cons_zero, List.set_cons_succ]
  refine anyH_of2 (i := 1) (j := 5) rfl rfl (by kernel_rfl) (by rfl) (by rfl) (stepH_callE (some 27) rfl (by go_simp) (TN.out _ hHeld.2.2.2.2.2.2.2.2.2.2.2.2) ?_) (stepH_val (w' := WD.alloc (.map #[] 0)) (v := .map (some WD.heap.size)) (some 31) rfl (by go_simp) (SH.out _ (HWD.alloc HWD.size (.map #[] 0))) ?_)
  · rintro _ W4 hS6 ⟨B0, l0, B1, l1, B2, l2, rfl, hN4, hb4⟩
    clear hHeld
    have hHeld := hS6
    clear hS6
    try simp only [Act.put, List.setIfInBounds_toArray, List.set_cons_zero, List.set_cons_succ]
    refine anyH_of2 (i := 3) (j := 5) rfl rfl (by kernel_rfl) (by rfl) (by rfl) (stepH_callE (some 29) rfl (by go_simp) (TC.out _ hHeld.2.2.2.2.2.2.2.2.2.2.2.2) ?_) (stepH_val (w' := W4.alloc (.map #[] 0)) (v := .map (some W4.heap.size)) (some 31) rfl (by go_simp) (SH.out _ (hHeld.2.2.2.2.2.2.2.2.2.2.2.2.alloc hHeld.2.2.2.2.2.2.2.2.2.2.2.2.size _)) ?_)
    · rintro _ W5 hS6 ⟨D, d1, E, d2, rfl, hC5, hb5⟩
      clear hHeld
      have hHeld := hS6
      clear hS6
      try simp only [Act.put, List.setIfInBounds_toArray, List.set_cons_zero, List.set_cons_succ]
      have hz5 := hHeld.2.2.2.2.2.2.2.2.2.2.2.2.size
      have hS7 := hHeld.2.2.2.2.2.2.2.2.2.2.2.2.alloc hHeld.2.2.2.2.2.2.2.2.2.2.2.2.size (.map #[] 0)
      refine anyH_val (w' := W5.alloc (.map #[] 0)) (v := .map (some W5.heap.size)) (i := 5) (some 31) rfl rfl (by kernel_rfl) (by rfl) (by go_simp) (SH.out _ hS7) ?_
      clear hHeld
      have hHeld := SH.out _ hS7
      try simp only [Act.put, List.setIfInBounds_toArray, List.set_cons_zero, List.set_cons_succ]
      refine anyH_take (i := 6) (v := .agg #[.slice B0 x.cls.length l0, .slice B1 x.dec.length l1, .slice B2 x.exc.length l2, .slice D c.ents.length d1, .slice E c.grps.length d2, .int .i64 c.base, .int .i64 c.second, .int .i64 c.third, .int .i64 o.st, .int .i64 o.va, .bool o.bk, .bool o.idn, .map (some W5.heap.size), .slice none 0 0]) (some 32) rfl rfl (by kernel_rfl) (by kernel_rfl) (by kernel_rfl) (fun _ _ _ h => h) (by rfl) (by assumption) (by intro w hSw; go_simp) ?_
      try simp only [Act.put, List.setIfInBounds_toArray, List.set_cons_zero, List.set_cons_succ]
      have Sn := SH.out ((W5.alloc (.map #[] 0)).alloc (.cells #[.slice B0 x.cls.length l0, .slice B1 x.dec.length l1, .slice B2 x.exc.length l2, .slice D c.ents.length d1, .slice E c.grps.length d2, .int .i64 c.base, .int .i64 c.second, .int .i64 c.third, .int .i64 o.st, .int .i64 o.va, .bool o.bk, .bool o.idn, .map (some W5.heap.size), .slice none 0 0] 80)) (hS7.alloc hS7.size _)
      refine anyH_val (w' := (W5.alloc (.map #[] 0)).alloc (.cells #[.slice B0 x.cls.length l0, .slice B1 x.dec.length l1, .slice B2 x.exc.length l2, .slice D c.ents.length d1, .slice E c.grps.length d2, .int .i64 c.base, .int .i64 c.second, .int .i64 c.third, .int .i64 o.st, .int .i64 o.va, .bool o.bk, .bool o.idn, .map (some W5.heap.size), .slice none 0 0] 80)) (v := .pointer (some ⟨(W5.alloc (.map #[] 0)).heap.size, 0, none⟩)) (i := 7) (some 33) rfl rfl (by kernel_rfl) (by rfl) (by go_simp) Sn ?_
      try simp only [Act.put, List.setIfInBounds_toArray, List.set_cons_zero, List.set_cons_succ]
      clear hHeld
      have hHeld := Sn
      clear Sn
      refine anyH_take (i := 8) (v := ?_) (some 6) rfl rfl (by kernel_rfl) (by kernel_rfl) (by kernel_rfl) (fun _ _ _ h => h) (by rfl) (by assumption) ?_ ?_
      rotate_left
      · intro w hSw; (try dsimp only at hSw); go_split_ands; go_simp; try (with_reducible rfl)
      try simp only [Act.put, List.setIfInBounds_toArray, List.set_cons_zero, List.set_cons_succ]
      refine anyH_take (i := 9) (v := ?_) (some 7) rfl rfl (by kernel_rfl) (by kernel_rfl) (by kernel_rfl) (fun _ _ _ h => h) (by rfl) (by assumption) ?_ ?_
      rotate_left
      · intro w hSw; (try dsimp only at hSw); go_split_ands; go_simp; try (with_reducible rfl)
      try simp only [Act.put, List.setIfInBounds_toArray, List.set_cons_zero, List.set_cons_succ]
      refine wpAnyH_done (by kernel_rfl) ?_ _
      have hend := HEND.out (W5.alloc (.map #[] 0)) W5.heap.size B0 l0 B1 l1 B2 l2 D d1 E d2 hS7 hz5 ((hN4.below hb5).below ((Below.refl _ _).alloc (Nat.le_refl _) _)) (hC5.below ((Below.refl _ _).alloc (Nat.le_refl _) _)) (MapC.made _ _ _ _ _)
      clear hHeld
      go_wp2_with fail
      go_ret2
      exact ⟨B03.trans ((hS7.alloc hS7.size _).mono B03.size), .inr ⟨NE.out, (W5.alloc (.map #[] 0)).heap.size, ⟨B0, l0, B1, l1, B2, l2, D, d1, E, d2⟩, W5.heap.size, by first | rfl | simp, hend⟩⟩
    · try simp only [Act.put, List.setIfInBounds_toArray, List.set_cons_zero, List.set_cons_succ]
      have hz5 := hHeld.2.2.2.2.2.2.2.2.2.2.2.2.size
      have hS7 := hHeld.2.2.2.2.2.2.2.2.2.2.2.2.alloc hHeld.2.2.2.2.2.2.2.2.2.2.2.2.size (.map #[] 0)
      have hS6 := SH.out _ hS7
      clear hHeld
      have hHeld := hS6
      clear hS6
      refine anyH_callE (i := 3) (some 29) rfl rfl (by kernel_rfl) (by rfl) (by go_simp) (TC.out _ hS7) ?_
      rintro _ W5 hS6 ⟨D, d1, E, d2, rfl, hC5, hb5⟩
      clear hHeld
      have hHeld := hS6
      clear hS6
      try simp only [Act.put, List.setIfInBounds_toArray, List.set_cons_zero, List.set_cons_succ]
      have hS8 := hHeld.2.2.2.2.2.2.2.2.2.2.2.2
      refine anyH_take (i := 6) (v := .agg #[.slice B0 x.cls.length l0, .slice B1 x.dec.length l1, .slice B2 x.exc.length l2, .slice D c.ents.length d1, .slice E c.grps.length d2, .int .i64 c.base, .int .i64 c.second, .int .i64 c.third, .int .i64 o.st, .int .i64 o.va, .bool o.bk, .bool o.idn, .map (some W4.heap.size), .slice none 0 0]) (some 32) rfl rfl (by kernel_rfl) (by kernel_rfl) (by kernel_rfl) (fun _ _ _ h => h) (by rfl) (by assumption) (by intro w hSw; go_simp) ?_
      try simp only [Act.put, List.setIfInBounds_toArray, List.set_cons_zero, List.set_cons_succ]
      have Sn := SH.out (W5.alloc (.cells #[.slice B0 x.cls.length l0, .slice B1 x.dec.length l1, .slice B2 x.exc.length l2, .slice D c.ents.length d1, .slice E c.grps.length d2, .int .i64 c.base, .int .i64 c.second, .int .i64 c.third, .int .i64 o.st, .int .i64 o.va, .bool o.bk, .bool o.idn, .map (some W4.heap.size), .slice none 0 0] 80)) (hS8.alloc hS8.size _)
      refine anyH_val (w' := W5.alloc (.cells #[.slice B0 x.cls.length l0, .slice B1 x.dec.length l1, .slice B2 x.exc.length l2, .slice D c.ents.length d1, .slice E c.grps.length d2, .int .i64 c.base, .int .i64 c.second, .int .i64 c.third, .int .i64 o.st, .int .i64 o.va, .bool o.bk, .bool o.idn, .map (some W4.heap.size), .slice none 0 0] 80)) (v := .pointer (some ⟨W5.heap.size, 0, none⟩)) (i := 7) (some 33) rfl rfl (by kernel_rfl) (by rfl) (by go_simp) Sn ?_
      try simp only [Act.put, List.setIfInBounds_toArray, List.set_cons_zero, List.set_cons_succ]
      clear hHeld
      have hHeld := Sn
      clear Sn
      refine anyH_take (i := 8) (v := ?_) (some 6) rfl rfl (by kernel_rfl) (by kernel_rfl) (by kernel_rfl) (fun _ _ _ h => h) (by rfl) (by assumption) ?_ ?_
      rotate_left
      · intro w hSw; (try dsimp only at hSw); go_split_ands; go_simp; try (with_reducible rfl)
      try simp only [Act.put, List.setIfInBounds_toArray, List.set_cons_zero, List.set_cons_succ]
      refine anyH_take (i := 9) (v := ?_) (some 7) rfl rfl (by kernel_rfl) (by kernel_rfl) (by kernel_rfl) (fun _ _ _ h => h) (by rfl) (by assumption) ?_ ?_
      rotate_left
      · intro w hSw; (try dsimp only at hSw); go_split_ands; go_simp; try (with_reducible rfl)
      try simp only [Act.put, List.setIfInBounds_toArray, List.set_cons_zero, List.set_cons_succ]
      refine wpAnyH_done (by kernel_rfl) ?_ _
      have hend := HEND.out W5 W4.heap.size B0 l0 B1 l1 B2 l2 D d1 E d2 hS8 hz5 ((hN4.below ((Below.refl _ _).alloc (Nat.le_refl _) _)).below hb5) hC5 ((MapC.made _ _ _ _ _).below hb5)
      clear hHeld
      go_wp2_with fail
      go_ret2
      exact ⟨B03.trans ((hS8.alloc hS8.size _).mono B03.size), .inr ⟨NE.out, W5.heap.size, ⟨B0, l0, B1, l1, B2, l2, D, d1, E, d2⟩, W4.heap.size, by first | rfl | simp, hend⟩⟩
  · try simp only [Act.put, List.setIfInBounds_toArray, List.set_cons_zero, List.set_cons_succ]
    have hS7 := (HWD.alloc HWD.size (.map #[] 0))
    have hS6 := SH.out _ hS7
    clear hHeld
    have hHeld := hS6
    clear hS6
    refine anyH_callE (i := 1) (some 27) rfl rfl (by kernel_rfl) (by rfl) (by go_simp) (TN.out _ hS7) ?_
    rintro _ W4 hS6 ⟨B0, l0, B1, l1, B2, l2, rfl, hN4, hb4⟩
    clear hHeld
    have hHeld := hS6
    clear hS6
    try simp only [Act.put, List.setIfInBounds_toArray, List.set_cons_zero, List.set_cons_succ]
    refine anyH_callE (i := 3) (some 29) rfl rfl (by kernel_rfl) (by rfl) (by go_simp) (TC.out _ hHeld.2.2.2.2.2.2.2.2.2.2.2.2) ?_
    rintro _ W5 hS6 ⟨D, d1, E, d2, rfl, hC5, hb5⟩
    clear hHeld
    have hHeld := hS6
    clear hS6
    try simp only [Act.put, List.setIfInBounds_toArray, List.set_cons_zero, List.set_cons_succ]
    have hS8 := hHeld.2.2.2.2.2.2.2.2.2.2.2.2
    refine anyH_take (i := 6) (v := .agg #[.slice B0 x.cls.length l0, .slice B1 x.dec.length l1, .slice B2 x.exc.length l2, .slice D c.ents.length d1, .slice E c.grps.length d2, .int .i64 c.base, .int .i64 c.second, .int .i64 c.third, .int .i64 o.st, .int .i64 o.va, .bool o.bk, .bool o.idn, .map (some WD.heap.size), .slice none 0 0]) (some 32) rfl rfl (by kernel_rfl) (by kernel_rfl) (by kernel_rfl) (fun _ _ _ h => h) (by rfl) (by assumption) (by intro w hSw; go_simp) ?_
    try simp only [Act.put, List.setIfInBounds_toArray, List.set_cons_zero, List.set_cons_succ]
    have Sn := SH.out (W5.alloc (.cells #[.slice B0 x.cls.length l0, .slice B1 x.dec.length l1, .slice B2 x.exc.length l2, .slice D c.ents.length d1, .slice E c.grps.length d2, .int .i64 c.base, .int .i64 c.second, .int .i64 c.third, .int .i64 o.st, .int .i64 o.va, .bool o.bk, .bool o.idn, .map (some WD.heap.size), .slice none 0 0] 80)) (hS8.alloc hS8.size _)
    refine anyH_val (w' := W5.alloc (.cells #[.slice B0 x.cls.length l0, .slice B1 x.dec.length l1, .slice B2 x.exc.length l2, .slice D c.ents.length d1, .slice E c.grps.length d2, .int .i64 c.base, .int .i64 c.second, .int .i64 c.third, .int .i64 o.st, .int .i64 o.va, .bool o.bk, .bool o.idn, .map (some WD.heap.size), .slice none 0 0] 80)) (v := .pointer (some ⟨W5.heap.size, 0, none⟩)) (i := 7) (some 33) rfl rfl (by kernel_rfl) (by rfl) (by go_simp) Sn ?_
    try simp only [Act.put, List.setIfInBounds_toArray, List.set_cons_zero, List.set_cons_succ]
    clear hHeld
    have hHeld := Sn
    clear Sn
    refine anyH_take (i := 8) (v := ?_) (some 6) rfl rfl (by kernel_rfl) (by kernel_rfl) (by kernel_rfl) (fun _ _ _ h => h) (by rfl) (by assumption) ?_ ?_
    rotate_left
    · intro w hSw; (try dsimp only at hSw); go_split_ands; go_simp; try (with_reducible rfl)
    try simp only [Act.put, List.setIfInBounds_toArray, List.set_cons_zero, List.set_cons_succ]
    refine anyH_take (i := 9) (v := ?_) (some 7) rfl rfl (by kernel_rfl) (by kernel_rfl) (by kernel_rfl) (fun _ _ _ h => h) (by rfl) (by assumption) ?_ ?_
    rotate_left
    · intro w hSw; (try dsimp only at hSw); go_split_ands; go_simp; try (with_reducible rfl)
    try simp only [Act.put, List.setIfInBounds_toArray, List.set_cons_zero, List.set_cons_succ]
    refine wpAnyH_done (by kernel_rfl) ?_ _
    have hend := HEND.out W5 WD.heap.size B0 l0 B1 l1 B2 l2 D d1 E d2 hS8 HWD.size (hN4.below hb5) hC5 (((MapC.made _ _ _ _ _).below hb4).below hb5)
    clear hHeld
    go_wp2_with fail
    go_ret2
    exact ⟨B03.trans ((hS8.alloc hS8.size _).mono B03.size), .inr ⟨NE.out, W5.heap.size, ⟨B0, l0, B1, l1, B2, l2, D, d1, E, d2⟩, WD.heap.size, by first | rfl | simp, hend⟩⟩
end Go.Proofs.YtpfbnikbebccjaaGreatDoor

/- Contracts of the reference's Check and Counted of options, treated. Written by gen_rka.py. -/
namespace Go.Proofs.YtpfbnikbebccjaaGreatDoor
open Go.RowKit Go.Maps Go.WideMaps

set_option linter.unusedSimpArgs false
end Go.Proofs.YtpfbnikbebccjaaGreatDoor
/- Contracts of the reference's Data at any collation, join, Implicit. Written by gen_refmt.py. -/
namespace Go.Proofs.YtpfbnikbebccjaaGreatDoor
open Go.RowKit Go.Maps Go.WideMaps

theorem ColSz.d {c : Col} (h : ColSz c) : ColSz (colD c) := by
  by_cases he : colErr c = 0
  · rw [colD_good he]; exact h
  · rw [colD_bad he]; exact ⟨fun i hi => by simp [colB] at hi, by simp [colB], by simp [colB]⟩
end Go.Proofs.YtpfbnikbebccjaaGreatDoor
/- The contract of the reference's Matched. Written by gen_refmt.py. -/
namespace Go.Proofs.YtpfbnikbebccjaaGreatDoor
open Go.RowKit Go.Maps Go.WideMaps

theorem R4.fresh {w w' : World} {base : Nat} {A : Nat → Option Addr} {C : Nat → Nat} {R : Nat → List Int} (h : R4 w base A C R) (hbs : base ≤ w.heap.size) {j : Nat} {B : Option Addr} {k : Nat} {zs : List Int} (hb : Below w.heap.size w w') (ho : w'.ownsRow w.heap.size 3 1 (.slice B zs.length k) zs.length (zs.map (Value.int .i64))) :
    R4 w' base (upd A j B) (upd C j k) (upd R j zs) := by
  have hlt : ∀ q, blk B = some q → w.heap.size ≤ q := fun q hq => (ho.lt q (by rw [ownBlock_blk]; exact hq)).1
  refine ⟨fun i hi => ?_, fun i l hi hl hne => ?_⟩
  · by_cases e : i = j
    · subst e
      rw [upd_at, upd_at, upd_at]
      exact own_mono ho hbs
    · rw [upd_ne e, upd_ne e, upd_ne e]
      exact own_keep (h.own i hi) hb
  · by_cases e : i = j
    · subst e
      rw [upd_at, upd_ne (fun g => hne g.symm)]
      cases hB : blk B with
      | none => exact .inl rfl
      | some g =>
        right
        intro e2
        have := hlt g hB
        have := (h.lt hl e2.symm).2
        omega
    · rw [upd_ne e]
      by_cases e2 : l = j
      · subst e2
        rw [upd_at]
        cases hA : blk (A i) with
        | none => exact .inl rfl
        | some g =>
          right
          intro e2
          have := hlt g e2.symm
          have := (h.lt hi hA).2
          omega
      · rw [upd_ne e2]
        exact h.ne i l hi hl hne
/-- two rows: the part, what is left -/
def R2 (p l : List Int) : Nat → List Int := fun k => if k = 0 then p else if k = 1 then l else []
theorem R4.len {w : World} {base : Nat} {A : Nat → Option Addr} {C : Nat → Nat} {R : Nat → List Int} (h : R4 w base A C R) {k : Nat} (hk : k < 4) : (R k).length ≤ C k := by
  obtain ⟨_, _, hv, hc⟩ := own_form (h.own k hk)
  injection hv with _ _ hv
  subst hv
  exact hc
theorem R4.low {w w' : World} {base : Nat} {A : Nat → Option Addr} {C : Nat → Nat} {R : Nat → List Int} (h : R4 w base A C R) (hbs : base ≤ w.heap.size) {k : Nat} (hk : k < 4) {n c : Nat} (hg : w.grownBy w' (Value.ownBlock (.slice (A k) n c))) : Below base w w' := by
  rw [ownBlock_blk] at hg
  exact ⟨hg.os, hg.tape, hg.output, hg.size, fun q hq => hg.block q (by omega) (fun e => by have := (h.lt hk e.symm).1; omega)⟩

end Go.Proofs.YtpfbnikbebccjaaGreatDoor
/- Contracts of the reference's Weights and Join. Written by gen_rkb.py. -/
namespace Go.Proofs.YtpfbnikbebccjaaGreatDoor
open Go.RowKit Go.Maps Go.WideMaps

end Go.Proofs.YtpfbnikbebccjaaGreatDoor
/- Contracts of the reference's walk, Elements, Known. Written by gen_refelems.py. -/
namespace Go.Proofs.YtpfbnikbebccjaaGreatDoor
open Go.RowKit Go.Maps Go.WideMaps

/-- what holds in the loop of walk -/
structure WL (cl : Int → Int) (ent : List Int → Option (List Elt)) (imp : Int → List Elt) (els : List Elt) (kn : Bool) (tot : Nat) (w1 : World) (t : List Int) (A : Option Addr) (cap : Nat) (E : Option Addr) (k : Nat) (es : List Elt) (q : Bool) (W : World) : Prop where
  eq : es ++ Mtc.elems cl ent imp t = els
  kq : (q && Mtc.known cl ent t) = kn
  own : W.ownsRow w1.heap.size 106 4 (.slice E es.length k) es.length (flatK Elt.cells es)
  low : Below w1.heap.size w1 W
  bd : es.length + 16 * t.length ≤ 16 * tot
  cp : t.length ≤ cap
  row : Ints W A t
  ap : t ≠ [] → ∀ q, blk A = some q → blk E ≠ some q
section
variable {cl : Int → Int} {ent : List Int → Option (List Elt)} {imp : Int → List Elt} {els : List Elt} {kn : Bool} {tot : Nat} {w1 : World} {t : List Int} {A : Option Addr} {cap : Nat} {E : Option Addr} {k : Nat} {es : List Elt} {q : Bool} {W : World}
theorem WL.next (h : WL cl ent imp els kn tot w1 t A cap E k es q W) (ht : t ≠ []) {L : Option Addr} {l : Nat} {W' W2 : World} (hb : Below W.heap.size W W') (hp : (Mtc.ofPart ent imp (Mtc.matched cl ent t).1 (Mtc.matched cl ent t).2.2).length ≤ 16) (hL : Ints W' L (Mtc.matched cl ent t).2.1) (hl : (Mtc.matched cl ent t).2.1.length ≤ l) (hf : ∀ q, blk L = some q → blk A = some q ∨ W.heap.size ≤ q)
    {E' : Option Addr} {k' : Nat} (ho : W2.ownsRow w1.heap.size 106 4 (.slice E' (es.length + (Mtc.ofPart ent imp (Mtc.matched cl ent t).1 (Mtc.matched cl ent t).2.2).length) k') (es.length + (Mtc.ofPart ent imp (Mtc.matched cl ent t).1 (Mtc.matched cl ent t).2.2).length) (flatK Elt.cells es ++ flatK Elt.cells (Mtc.ofPart ent imp (Mtc.matched cl ent t).1 (Mtc.matched cl ent t).2.2))) (hb2 : Below w1.heap.size W' W2) (hg : W'.grownBy W2 (Value.ownBlock (.slice E es.length k))) (hE : E' = E ∨ E' = some ⟨W'.heap.size, 0, none⟩) :
    WL cl ent imp els kn tot w1 (Mtc.matched cl ent t).2.1 L l E' k' (es ++ Mtc.ofPart ent imp (Mtc.matched cl ent t).1 (Mtc.matched cl ent t).2.2) (q && (Mtc.matched cl ent t).2.2) W2 := by
  obtain ⟨hl1, hl2⟩ := Mtc.matched_len (cl := cl) (ent := ent) ht
  have hbd := h.bd
  have heq := h.eq
  rw [Mtc.elems_step ht, ← List.append_assoc] at heq
  have hkq := h.kq
  rw [Mtc.known_step ht, ← Bool.and_assoc] at hkq
  have hap := h.ap ht
  have hlt : ∀ g, blk E = some g → w1.heap.size ≤ g ∧ g < W.heap.size := fun g hg => h.own.lt g (by rw [ownBlock_blk]; exact hg)
  have hs := hb.size
  rw [ownBlock_blk] at hg
  have hne : ∀ g, blk L = some g → blk E ≠ some g := fun g hg e => by
    rcases hf g hg with h1 | h1
    · exact hap g h1 e
    · have := (hlt g e).2; omega
  refine ⟨heq, hkq, by rw [List.length_append, flatK_append]; exact ho, (h.low.trans (hb.mono h.low.size)).trans hb2, by rw [List.length_append]; omega, hl, ?_, fun hn2 g hgl e => ?_⟩
  · intro hnn
    obtain ⟨b, o, hA, hc⟩ := hL hnn
    refine ⟨b, o, hA, fun j u hu => ?_⟩
    have h1 := hc j u hu
    have hbl := World.block_lt_of_cell? W' _ h1
    rw [World.cell?_of_block (hg.block b hbl (fun e => hne b (by rw [hA]; rfl) e.symm))]
    exact h1
  · rcases hE with rfl | rfl
    · exact hne g hgl e
    · have e2 : g = W'.heap.size := by injection e with e; exact e.symm
      obtain ⟨b, o, hA, hc⟩ := Ints.at hL (k := 0) (List.length_pos_iff.2 hn2)
      have hbl := World.block_lt_of_cell? W' _ (hc 0 (List.length_pos_iff.2 hn2))
      rw [hA] at hgl
      have e3 : b = g := by injection hgl
      dsimp only at hbl
      omega
end

end Go.Proofs.YtpfbnikbebccjaaGreatDoor
/- The contract of the reference's Key. Written by gen_rkkey.py. -/
namespace Go.Proofs.YtpfbnikbebccjaaGreatDoor
open Go.RowKit Go.Maps Go.WideMaps

end Go.Proofs.YtpfbnikbebccjaaGreatDoor
/- Contracts of the references: Compare of layer 45, New of layer 55; and of the statements' valid. Written by gen_slref.py. -/
namespace Go.Proofs.YtpfbnikbebccjaaGreatDoor
open Go.RowKit Go.Maps Go.WideMaps Srl

end Go.Proofs.YtpfbnikbebccjaaGreatDoor

/- The contract of codepoint.Equal. -/
namespace Go.Proofs.YtpfbnikbebccjaaGreatDoor
open Go.RowKit

theorem cpEqual_any (A B : Option Addr) (n m c d : Nat) (xs ys : List Int) (w : World) (hA : Ints w A xs) (hB : Ints w B ys) (hn : xs.length = n) (hm : ys.length = m)
    (hn' : n ≤ 9223372036854775807) (hm' : m ≤ 9223372036854775807) :
    Calls Tryz.prog 51 #[.slice A n c, .slice B m d] w fun e w' => e = .returned (.bool (decide (xs = ys))) ∧ Qt w w' := by
  have hd : decide (xs = ys) = (cmpL xs ys == 0) := by
    rw [Bool.eq_iff_iff]; simp [cmpL_eq_zero]
  rw [hd]; clear hd
  have HC := Lib.hid (cpCompare_any A B n m c d xs ys w hA hB hn hm hn' hm')
  clear hA hB hn hm
  go_enter Tryz.func51, Tryz.ntmps51
  go_wp2_with fail
  refine HC.out.mono ?_
  rintro e w' ⟨rfl, q, rfl⟩
  go_wp2_with fail
  go_ret
  exact ⟨rfl, by repeat (first | exact Qt.refl _ | refine Qt.drewN ?_ _)⟩

end Go.Proofs.YtpfbnikbebccjaaGreatDoor
