/- Texts that are merged into one file: DTextA, DTextB, MadeAny, DtxIok, RefFind, CmpPlain, TabPlain, MtcParts, TElems. -/
import Derived.Test.YtijgbonhjcblcaaGreatDoorK01
import Derived.Test.YtijgbonhjcblcaaGreatDoorK08
import Derived.Test.YtijgbonhjcblcaaGreatDoorK14
import Derived.Test.YtijgbonhjcblcaaGreatDoorK15
import Derived.Test.YtijgbonhjcblcaaGreatDoorK16
import Derived.Test.YtijgbonhjcblcaaGreatDoorK17
import Derived.Deep.Cut
set_option maxRecDepth 100000
set_option maxHeartbeats 51200000
namespace Go.Proofs.YtijgbonhjcblcaaGreatDoor
open Go.RowKit Go.Maps Go.WideMaps
theorem dUsable_eq (A0:Option Addr) (n0 k0:Nat) (A1:Option Addr) (n1 k1:Nat) (A2:Option Addr) (n2 k2:Nat) (x:Nrm) (w:World) (hN:NrmAt w A0 n0 A1 n1 A2 n2 x) (hz:NrmSz x) (hL:Laid w) :
  Calls Tryz.prog 71 #[.agg #[.slice A0 n0 k0,.slice A1 n1 k1,.slice A2 n2 k2]] w (fun e w'=>e=.returned (usV x A0 k0 A1 k1 A2 k2)∧Below w.heap.size w w'):=by
 obtain ⟨hS,hM,hR,rfl,rfl,rfl⟩:=hN
 have B0:Below w.heap.size w ((w.alloc (.cells #[.slice A0 x.cls.length k0,.slice A1 x.dec.length k1,.slice A2 x.exc.length k2] 28)).alloc (.cells #[.slice none 0 0,.slice none 0 0,.slice none 0 0] 28)):=((Below.refl _ _).alloc (Nat.le_refl _) _).alloc (by simp) _
 have X0:Box ((w.alloc (.cells #[.slice A0 x.cls.length k0,.slice A1 x.dec.length k1,.slice A2 x.exc.length k2] 28)).alloc (.cells #[.slice none 0 0,.slice none 0 0,.slice none 0 0] 28)) w.heap.size 28 [.slice A0 x.cls.length k0,.slice A1 x.dec.length k1,.slice A2 x.exc.length k2]:=
  (Box.new w _ [.slice A0 x.cls.length k0,.slice A1 x.dec.length k1,.slice A2 x.exc.length k2] rfl).below (B:=w.heap.size+1) ((Below.refl _ _).alloc (by simp) _) (by omega)
 have X1:Box ((w.alloc (.cells #[.slice A0 x.cls.length k0,.slice A1 x.dec.length k1,.slice A2 x.exc.length k2] 28)).alloc (.cells #[.slice none 0 0,.slice none 0 0,.slice none 0 0] 28)) (w.heap.size+1) 28 [.slice none 0 0,.slice none 0 0,.slice none 0 0]:=Box.new _ _ _ (by simp)
 have W0E:∃W0,((w.alloc (.cells #[.slice A0 x.cls.length k0,.slice A1 x.dec.length k1,.slice A2 x.exc.length k2] 28)).alloc (.cells #[.slice none 0 0,.slice none 0 0,.slice none 0 0] 28))=W0:=⟨_,rfl⟩
 have hN:∀W,Below w.heap.size w W→NrmAt W A0 x.cls.length A1 x.dec.length A2 x.exc.length x:=fun W hb=>⟨hS.below hb,hM.below hb,hR.below hb,rfl,rfl,rfl⟩
 have CC:=Lib.hid (fun W (hb:Below w.heap.size w W)=>dCheck_any A0 x.cls.length k0 A1 x.dec.length k1 A2 x.exc.length k2 x W (hN W hb) hz (hL.below hb))
 have UB:=Lib.hid (usV_bad (x:=x) A0 k0 A1 k1 A2 k2)
 have UG:=Lib.hid (usV_good (x:=x) A0 k0 A1 k1 A2 k2)
 clear hN hS hM hR hz
 generalize hu:usV x A0 k0 A1 k1 A2 k2=y at *
 generalize hc:nErr x=c at *
 clear hu hc
 go_enter Tryz.func71,Tryz.ntmps71
 go_wp2_with fail
 obtain ⟨W0,hW0⟩:=W0E
 rw [hW0] at B0 X0 X1 ⊢
 clear hW0
 have s0:=X0.lt
 have s1:=X1.lt
 have c0:=X0.cell (i:=0) rfl
 have c1:=X0.cell (i:=1) rfl
 have c2:=X0.cell (i:=2) rfl
 go_wp2_with fail
 with_reducible refine (CC.out _ B0).mono ?_
 rintro e W1 ⟨rfl,hb1⟩
 have Y0:=X0.below hb1 s0
 have Y1:=X1.below hb1 s1
 have B1:=B0.trans (hb1.mono B0.size)
 clear c0 c1 c2 X0 X1 B0 hb1
 have c0:=Y0.cell (i:=0) rfl
 have c1:=Y0.cell (i:=1) rfl
 have c2:=Y0.cell (i:=2) rfl
 have d0:=Y1.cell (i:=0) rfl
 have d1:=Y1.cell (i:=1) rfl
 have d2:=Y1.cell (i:=2) rfl
 have f0:=Y1.free 0
 have f1:=Y1.free 1
 have f2:=Y1.free 2
 have HB:=Lib.hid (fun (u0 u1 u2:Value)=>show Below w.heap.size w (((W1.setCell ⟨w.heap.size+1,0,none⟩ u0).setCell ⟨w.heap.size+1,1,none⟩ u1).setCell ⟨w.heap.size+1,2,none⟩ u2) from ((B1.setCell (by simp) _).setCell (by simp) _).setCell (by simp) _)
 by_cases h0:c=0
 ·have HY:=Lib.hid (UG.out h0)
  subst h0
  go_wp2_with fail
  (try simp only [Exit.inBlock,Exit.then]);refine bodyPost_ret (results_nrm rfl _ _ (b:=w.heap.size+1) (v0:=.slice A0 x.cls.length k0) (v1:=.slice A1 x.dec.length k1) (v2:=.slice A2 x.exc.length k2) rfl (by go_simp) (by go_simp) (by go_simp)) rfl ?_
  exact ⟨by rw [HY.out],HB.out _ _ _⟩
 ·have HY:=Lib.hid (UB.out h0)
  have h1:(c != 0)=true:=by simpa using h0
  go_wp2_with fail
  (try simp only [Exit.inBlock,Exit.then]);refine bodyPost_ret (results_nrm rfl _ _ (b:=w.heap.size+1) (v0:=.slice none 0 0) (v1:=.slice none 0 0) (v2:=.slice none 0 0) rfl (by go_simp) (by go_simp) (by go_simp)) rfl ?_
  exact ⟨by rw [HY.out],HB.out _ _ _⟩
theorem XM_new (A0:Option Addr) (n0 k0:Nat) (A1:Option Addr) (n1 k1:Nat) (A2:Option Addr) (n2 k2:Nat) (ms:List Mp) (compat:Bool) (w w5:World)
  (h:(((((w.alloc (.cells #[.slice A0 n0 k0,.slice A1 n1 k1,.slice A2 n2 k2] 28)).alloc (.cells #[.bool compat] 4)).alloc (.map #[] 0)).alloc (.cells #[.map (some (w.heap.size+1+1))] 163)).alloc (.cells #[.func (.func 117) #[] #[.pointer (some ⟨w.heap.size+1+1+1,0,none⟩),.pointer (some ⟨w.heap.size,0,none⟩),.pointer (some ⟨w.heap.size+1,0,none⟩),.pointer (some ⟨w.heap.size+1+1+1+1,0,none⟩)]] 120))=w5) :
  XM A0 n0 k0 A1 n1 k1 A2 n2 k2 ms compat w.heap.size w5 0 (fun _=>none)∧Below w.heap.size w w5:=by
 subst h
 have al:∀(W:World) (o:Obj),Below W.heap.size W (W.alloc o):=fun W o=>(Below.refl _ _).alloc (Nat.le_refl _) _
 obtain ⟨w1,h1⟩:∃w1,w.alloc (.cells #[.slice A0 n0 k0,.slice A1 n1 k1,.slice A2 n2 k2] 28)=w1:=⟨_,rfl⟩
 have x1:Box w1 w.heap.size 28 [.slice A0 n0 k0,.slice A1 n1 k1,.slice A2 n2 k2]:=by rw [←h1];exact Box.new _ _ _ rfl
 have b1:Below w.heap.size w w1:=by rw [←h1];exact al _ _
 have s1:w1.heap.size=w.heap.size+1:=by rw [←h1];simp
 rw [h1]
 obtain ⟨w2,h2⟩:∃w2,w1.alloc (.cells #[.bool compat] 4)=w2:=⟨_,rfl⟩
 have x2:Box w2 (w.heap.size+1) 4 [.bool compat]:=by rw [←h2];exact Box.new _ _ _ s1.symm
 have b2:Below w1.heap.size w1 w2:=by rw [←h2];exact al _ _
 have s2:w2.heap.size=w.heap.size+2:=by rw [←h2];simp [s1]
 rw [h2]
 obtain ⟨w3,h3⟩:∃w3,w2.alloc (.map #[] 0)=w3:=⟨_,rfl⟩
 have x3:MapI w3 (w.heap.size+2) 0 (fun _=>none):=by rw [←h3,←s2];exact MapIs.made _ _ _ _ _
 have b3:Below w2.heap.size w2 w3:=by rw [←h3];exact al _ _
 have s3:w3.heap.size=w.heap.size+3:=by rw [←h3];simp [s2]
 rw [h3]
 obtain ⟨w4,h4⟩:∃w4,w3.alloc (.cells #[.map (some (w.heap.size+1+1))] 163)=w4:=⟨_,rfl⟩
 have x4:Box w4 (w.heap.size+3) 163 [.map (some (w.heap.size+2))]:=by rw [←h4];exact Box.new _ _ _ s3.symm
 have b4:Below w3.heap.size w3 w4:=by rw [←h4];exact al _ _
 have s4:w4.heap.size=w.heap.size+4:=by rw [←h4];simp [s3]
 rw [h4]
 obtain ⟨w5,h5⟩:∃w5,w4.alloc (.cells #[.func (.func 117) #[] #[.pointer (some ⟨w.heap.size+1+1+1,0,none⟩),.pointer (some ⟨w.heap.size,0,none⟩),.pointer (some ⟨w.heap.size+1,0,none⟩),.pointer (some ⟨w.heap.size+1+1+1+1,0,none⟩)]] 120)=w5:=⟨_,rfl⟩
 have x5:Box w5 (w.heap.size+4) 120 [.func (.func 117) #[] #[.pointer (some ⟨w.heap.size+3,0,none⟩),.pointer (some ⟨w.heap.size,0,none⟩),.pointer (some ⟨w.heap.size+1,0,none⟩),.pointer (some ⟨w.heap.size+4,0,none⟩)]]:=by rw [←h5];exact Box.new _ _ _ s4.symm
 have b5:Below w4.heap.size w4 w5:=by rw [←h5];exact al _ _
 rw [h5]
 have b45:=b5
 have b35:=b4.trans (b5.mono b4.size)
 have b25:=b3.trans (b35.mono b3.size)
 have b15:=b2.trans (b25.mono b2.size)
 exact ⟨⟨x1.below b15 x1.lt,x2.below b25 x2.lt,x3.below b35,x4.below b45 x4.lt,x5,fun c v e=>(by cases e)⟩,b1.trans (b15.mono b1.size)⟩
def RetExp (A0:Option Addr) (n0 k0:Nat) (A1:Option Addr) (n1 k1:Nat) (A2:Option Addr) (n2 k2:Nat) (ms:List Mp) (compat:Bool) (w:World) (e:Ending) (w':World):Prop:=
 e=.returned (.func (.func 117) #[] #[.pointer (some ⟨w.heap.size+3,0,none⟩),.pointer (some ⟨w.heap.size,0,none⟩),.pointer (some ⟨w.heap.size+1,0,none⟩),.pointer (some ⟨w.heap.size+4,0,none⟩)])∧XM A0 n0 k0 A1 n1 k1 A2 n2 k2 ms compat w.heap.size w' 0 (fun _=>none)∧Below w.heap.size w w'
theorem expander_any (A0:Option Addr) (n0 k0:Nat) (A1:Option Addr) (n1 k1:Nat) (A2:Option Addr) (n2 k2:Nat) (ms:List Mp) (compat:Bool) (w:World) :
  Calls Tryz.prog 72 #[.agg #[.slice A0 n0 k0,.slice A1 n1 k1,.slice A2 n2 k2],.bool compat] w (RetExp A0 n0 k0 A1 n1 k1 A2 n2 k2 ms compat w):=by
 have hmm:=@run_makeMap Tryz.prog
 have hsf:=fun (W:World) (a:Addr) (m:Mode) (fn:Fn) (x y:Array Value)=>run_store Tryz.prog W a (.func fn x y) m rfl
 go_enter Tryz.func72,Tryz.ntmps72
 go_wp2_with fail
 obtain ⟨W0,hW0⟩:∃W0,(((((w.alloc (.cells #[.slice A0 n0 k0,.slice A1 n1 k1,.slice A2 n2 k2] 28)).alloc (.cells #[.bool compat] 4)).alloc (.map #[] 0)).alloc (.cells #[.map (some (w.heap.size+1+1))] 163)).alloc (.cells #[.func (.func 117) #[] #[.pointer (some ⟨w.heap.size+1+1+1,0,none⟩),.pointer (some ⟨w.heap.size,0,none⟩),.pointer (some ⟨w.heap.size+1,0,none⟩),.pointer (some ⟨w.heap.size+1+1+1+1,0,none⟩)]] 120))=W0:=⟨_,rfl⟩
 obtain ⟨hM0,hB0⟩:=XM_new A0 n0 k0 A1 n1 k1 A2 n2 k2 ms compat w W0 hW0
 go_ret
 exact ⟨rfl,by rw [hW0];exact hM0,by rw [hW0];exact hB0⟩
end Go.Proofs.YtijgbonhjcblcaaGreatDoor
namespace Go.Proofs.YtijgbonhjcblcaaGreatDoor
open Go.RowKit Go.Maps Go.WideMaps
def dtx (x:Nrm) (compat:Bool) (t:List Int):List Int:=Can.srt (clz (usN x).cls) (flM (usN x) compat t)
theorem flM_take (x:Nrm) (compat:Bool) {t:List Int} {i:Nat} (hi:i < t.length):flM x compat (t.take (i+1))=flM x compat (t.take i)++dcM x.dec compat t[i]:=by
 unfold flM
 rw [List.take_succ_eq_append_getElem hi,List.flatMap_append,List.flatMap_singleton]
theorem flM_le {x:Nrm} (h:NOk x) (compat:Bool) (t:List Int) (i:Nat):(flM x compat (t.take i)).length≤64*t.length:=by
 have:=flM_len h compat (t.take i)
 rw [List.length_take] at this
 omega
theorem dText_own (A0:Option Addr) (n0 k0:Nat) (A1:Option Addr) (n1 k1:Nat) (A2:Option Addr) (n2 k2:Nat) (x:Nrm) (A:Option Addr) (n k:Nat) (t:List Int) (compat:Bool) (w:World) (hN:NrmAt w A0 n0 A1 n1 A2 n2 x) (hz:NrmSz x) (hL:Laid w) (hA:Ints w A t) (hn:t.length=n) (hbig:n≤16384) (hio:∀c ∈ t,iok c) :
  Calls Tryz.prog 30 #[.agg #[.slice A0 n0 k0,.slice A1 n1 k1,.slice A2 n2 k2],.slice A n k,.bool compat] w (RetOwnI (dtx x compat t) w):=by
 subst hn
 obtain ⟨B0,c0,B1,c1,B2,c2,hv,hNW⟩:=usV_at hN k0 k1 k2
 have US:=Lib.hid (fun W (hb:Below w.heap.size w W)=>dUsable_eq A0 n0 k0 A1 n1 k1 A2 n2 k2 x W (hN.below hb) hz (hL.below hb))
 rw [hv] at US
 have HNW:=Lib.hid hNW
 have hny:=usN_ok x
 have hzu:=hz.us
 have DF:=Lib.hid (dcM_full hny.st hny.hg hny.en compat)
 have DL:=Lib.hid (dcM_len hny.st hny.hg hny.en hny.lo compat)
 have EX:=Lib.hid (fun (W:World) (hb:Below w.heap.size w W)=>fun c l=>expand_ok B0 (usN x).cls.length c0 B1 c1 B2 (usN x).exc.length c2 W.heap.size (usN x).dec compat W rfl (HNW.out W hb).s1 hny.st hny.co (by have:=hzu.z1.1;omega) (c:=c) (l:=l))
 have SO:=Lib.hid (fun (D:Option Addr) (m d:Nat) (l:List Int) (W:World) (hb:Below w.heap.size w W) (hD:Ints W D l) (hm:l.length=m) (hm2:m≤1048576)=>Sort_own B0 (usN x).cls.length c0 (usN x).cls D m d l W (HNW.out W hb).s0 hD hm rfl hm2 (by have:=hzu.z0;omega) (hL.below hb))
 have FT:=Lib.hid (fun i (hi:i < t.length)=>flM_take (usN x) compat hi)
 have FL:=Lib.hid (fun i=>flM_le hny compat t i)
 have HA:=Lib.hid hA
 have HIO:=Lib.hid hio
 have hul:unmarked (uM (usN x).dec) (mkF (fun _=>none))≤2000000:=by
  have h1:=unmarked_len (uM (usN x).dec) (mkF (fun _=>none))
  rw [uM_len] at h1
  have:=hzu.z1.1
  omega
 unfold dtx
 clear hN hz hL hA hv hNW hny hzu hio
 generalize usN x=y at *
 have X0:Box (w.alloc (.cells #[.slice A0 n0 k0,.slice A1 n1 k1,.slice A2 n2 k2] 28)) w.heap.size 28 [.slice A0 n0 k0,.slice A1 n1 k1,.slice A2 n2 k2]:=Box.new w _ [.slice A0 n0 k0,.slice A1 n1 k1,.slice A2 n2 k2] rfl
 have H0:Below w.heap.size w (w.alloc (.cells #[.slice A0 n0 k0,.slice A1 n1 k1,.slice A2 n2 k2] 28)):=(Below.refl _ _).alloc (Nat.le_refl _) _
 have W0E:∃W0,(w.alloc (.cells #[.slice A0 n0 k0,.slice A1 n1 k1,.slice A2 n2 k2] 28))=W0:=⟨_,rfl⟩
 go_enter Tryz.func30,Tryz.ntmps30
 go_wp2_with fail
 obtain ⟨W0,hW0⟩:=W0E
 try rw [hW0] at X0 H0 ⊢
 clear hW0
 have s0:=X0.lt
 have g0:=X0.cell (i:=0) rfl
 have g1:=X0.cell (i:=1) rfl
 have g2:=X0.cell (i:=2) rfl
 go_wp2_with fail
 with_reducible refine (US.out _ H0).mono ?_
 rintro e W1 ⟨rfl,hb1⟩
 have X1:=X0.below hb1 s0
 have H1:=H0.trans (hb1.mono H0.size)
 have f0:=X1.free 0
 have f1:=X1.free 1
 have f2:=X1.free 2
 have e0:=X1.cell (i:=0) rfl
 have e1:=X1.cell (i:=1) rfl
 have e2:=X1.cell (i:=2) rfl
 have X2:Box (((W1.setCell ⟨w.heap.size,0,none⟩ (.slice B0 y.cls.length c0)).setCell ⟨w.heap.size,1,none⟩ (.slice B1 y.dec.length c1)).setCell ⟨w.heap.size,2,none⟩ (.slice B2 y.exc.length c2)) w.heap.size 28 [.slice B0 y.cls.length c0,.slice B1 y.dec.length c1,.slice B2 y.exc.length c2]:=((X1.set 0 _).set 1 _).set 2 _
 have H2:Below w.heap.size w (((W1.setCell ⟨w.heap.size,0,none⟩ (.slice B0 y.cls.length c0)).setCell ⟨w.heap.size,1,none⟩ (.slice B1 y.dec.length c1)).setCell ⟨w.heap.size,2,none⟩ (.slice B2 y.exc.length c2)):=((H1.setCell (by simp) _).setCell (by simp) _).setCell (by simp) _
 have W2E:∃W2,(((W1.setCell ⟨w.heap.size,0,none⟩ (.slice B0 y.cls.length c0)).setCell ⟨w.heap.size,1,none⟩ (.slice B1 y.dec.length c1)).setCell ⟨w.heap.size,2,none⟩ (.slice B2 y.exc.length c2))=W2:=⟨_,rfl⟩
 clear US X0 H0 g0 g1 g2 s0 hb1
 go_wp2_with fail
 obtain ⟨W2,hW2⟩:=W2E
 try rw [hW2] at X2 H2 ⊢
 clear hW2 X1 H1 f0 f1 f2 e0 e1 e2
 have s2:=X2.lt
 have g0:=X2.cell (i:=0) rfl
 have g1:=X2.cell (i:=1) rfl
 have g2:=X2.cell (i:=2) rfl
 have EC:=Lib.hid (expander_any B0 y.cls.length c0 B1 y.dec.length c1 B2 y.exc.length c2 y.dec compat W2)
 go_wp2_with fail
 with_reducible refine EC.out.mono ?_
 rintro e W5 ⟨rfl,hM5,hb5⟩
 have H5:=H2.trans (hb5.mono H2.size)
 have X5:=X2.below hb5 s2
 have EO:=Lib.hid (EX.out W2 H2)
 have HM5:=Lib.hid hM5
 have hs5:W2.heap.size+4 < W5.heap.size:=hM5.bX.lt
 have HB5:=Lib.hid hb5
 clear EC EX hM5 hb5 X2 g0 g1 g2
 generalize W2.heap.size=s at *
 go_wp2_with fail
 go_loopw [8,18] (fun u q wr=>∃(i n':Nat) (f':Int→Option Value) (B:Option Addr) (k:Nat),i≤t.length∧u=.slice B ((flM y compat (t.take i))).length k∧q=.int .i64 i∧XLoop B0 y.cls.length c0 B1 y.dec.length c1 B2 y.exc.length c2 y.dec compat s (fun _=>True) (flM y compat (t.take i)) W5 W5 0 (fun _=>none) B k wr n' f')
  (fun _ q _=>t.length - (intOf q).toNat)
 case atStart=>
  exact ⟨0,0,_,none,0,Nat.zero_le _,rfl,rfl,⟨World.ownsRow_nil _ _ _ _,HM5.out,grownR_refl _ _,Nat.le_refl _,fun x E' m d e=>.inl e,fun x e=>.inl e,Apart.nil _⟩⟩
 case round=>
  obtain ⟨i,n',f',B,k',hile,rfl,rfl,HL0⟩:=hrel
  have HL:=Lib.hid HL0
  have hbr:Below s W2 wr:=HB5.out.trans (below_of_grown HL0.gr (by omega) (by omega))
  have hwr:=H2.trans (hbr.mono (by omega:w.heap.size≤s))
  clear HL0
  have hfl:=FL.out i
  by_cases hi:i < t.length
  ·obtain ⟨b,o,rfl,hcell⟩:=(HA.out.below hwr).at hi
   have hc0:=hcell i hi
   clear hcell
   have hmem:t[i] ∈ t:=List.getElem_mem hi
   have CL:=Lib.hid (EO.out t[i] _ (DF.out t[i]) (HIO.out _ hmem) (by have:=DL.out t[i];omega) wr n' f' HL.out.st hbr (by have:=HL.out.pot;omega))
   have NX:=Lib.hid (fun (E2:Option Addr) W n9 f9 (p:XRet B0 y.cls.length c0 B1 y.dec.length c1 B2 y.exc.length c2 y.dec compat s t[i] (dcM y.dec compat t[i]) wr n' f' E2 W n9 f9)=>HL.out.call (Nat.le_refl _) hs5 (fun _ _=>trivial) p)
   have FSq:=Lib.hid (FT.out i hi)
   have hdl:=DL.out t[i]
   clear hmem
   generalize dcM y.dec compat t[i]=ve at *
   generalize t[i]=te at *
   generalize flM y compat (t.take i)=fl at *
   go_wp2_with fail
   with_reducible refine CL.out.mono ?_
   rintro e W ⟨E2,d2,n9,f9,rfl,hd2,hp⟩
   have HL2:=Lib.hid (NX.out E2 W n9 f9 hp)
   have HE2:=Lib.hid hp.ints
   clear hp CL NX HL hwr hbr
   go_wp2_with (at_builtin;refine wpList_app _ _ 37 3 (.int .i64 0) 1 8 rfl rfl Tryz.underlying37 info_int rfl (by decide) (by decide) rfl HL2.out.own rfl HE2.out (by simp) (oneCell_ints _) (by omega) HL2.out.lt ?_;intro B3 k3 w3 hown3 hc3 hb3 hg3 hB3)
   have HL3:=Lib.hid (HL2.out.app hs5 hown3 hb3 hg3 hB3)
   clear hown3 hb3 hg3 hB3 HL2 HE2
   go_wp2_with fail
   go_roundw
   case rel=>exact ⟨i+1,n9,f9,B3,k3,by omega,by rw [FSq.out,List.length_append],by go_num,by rw [FSq.out];exact HL3.out⟩
   case measure=>simp [intOf];omega
  ·have hi':i=t.length:=by omega
   subst hi'
   rw [List.take_length] at HL hfl ⊢
   have q0:wr.cell? ⟨w.heap.size,0,none⟩=some (.slice B0 y.cls.length c0):=(HL.out.gr.cell (X5.cell (i:=0) rfl) (by simp;omega))
   have CS:=Lib.hid (SO.out B _ k' _ wr hwr (Sl.of_own HL.out.own) rfl (by omega))
   generalize Can.srt (clz y.cls) (flM y compat t)=sr at *
   go_wp2_with fail
   with_reducible refine CS.out.mono ?_
   rintro e W ⟨E,d,rfl,ho,hb⟩
   have HO:=Lib.hid ho
   clear CS ho
   go_wp2_with fail
   go_ret
   exact ⟨E,d,rfl,own_mono HO.out hwr.size,hwr.trans (hb.mono hwr.size)⟩
end Go.Proofs.YtijgbonhjcblcaaGreatDoor
namespace Go.Proofs.YtijgbonhjcblcaaGreatDoor
open Go.RowKit Go.Maps Go.WideMaps
def colB:Col:=⟨[],[],64448,32,2⟩
theorem colB_ok:colErr colB=0:=by
 decide
theorem colD_good {c:Col} (h:colErr c=0):colD c=c:=if_pos h
theorem colD_bad {c:Col} (h:¬colErr c=0):colD c=colB:=if_neg h
theorem colD_ok (c:Col):colErr (colD c)=0:=by
 by_cases h:colErr c=0
 ·rw [colD_good h];exact h
 ·rw [colD_bad h];exact colB_ok
theorem made_bad (A:Option Addr) (n a:Nat) (B:Option Addr) (m b:Nat) (c:Col) (w:World) (h:ColAt w A n B m c) (hz:ColSz c) (he:¬colErr c=0) :
  Calls Tryz.prog 68 #[colV A n a B m b c] w (RetTab colB w):=by
 have B0:Below w.heap.size w (w.alloc (.cells #[.slice A n a,.slice B m b,.int .i64 c.base,.int .i64 c.second,.int .i64 c.third] 32)):=(Below.refl _ _).alloc (Nat.le_refl _) _
 have X0:Box (w.alloc (.cells #[.slice A n a,.slice B m b,.int .i64 c.base,.int .i64 c.second,.int .i64 c.third] 32)) w.heap.size 32 [.slice A n a,.slice B m b,.int .i64 c.base,.int .i64 c.second,.int .i64 c.third]:=Box.new w 32 [.slice A n a,.slice B m b,.int .i64 c.base,.int .i64 c.second,.int .i64 c.third] rfl
 have W0E:∃W0,w.alloc (.cells #[.slice A n a,.slice B m b,.int .i64 c.base,.int .i64 c.second,.int .i64 c.third] 32)=W0:=⟨_,rfl⟩
 have CK:=Lib.hid (fun W (hb:Below w.heap.size w W)=>ckColl_any A n a B m b c W (h.below hb) hz)
 have hmm:=@run_makeMap Tryz.prog
 clear h hz
 generalize colErr c=er at *
 have q:(er != 0)=true:=by simpa using he
 clear he
 unfold colV at *
 generalize c.base=u2 at *
 generalize c.second=u3 at *
 generalize c.third=u4 at *
 clear c
 go_enter Tryz.func68,Tryz.ntmps68
 go_wp2_with fail
 obtain ⟨W0,hW0⟩:=W0E
 rw [hW0] at B0 X0 ⊢
 clear hW0
 have k0:=X0.cell (i:=0) rfl
 have k1:=X0.cell (i:=1) rfl
 have k2:=X0.cell (i:=2) rfl
 have k3:=X0.cell (i:=3) rfl
 have k4:=X0.cell (i:=4) rfl
 have hx0:=X0.lt
 go_wp2_with fail
 with_reducible refine (CK.out W0 B0).mono ?_
 rintro e W1 ⟨rfl,hb1⟩
 clear CK k0 k1 k2 k3 k4
 have hb2:=B0.trans (hb1.mono B0.size)
 have X1:=X0.below hb1 hx0
 have f0:=X1.free 0
 have f1:=X1.free 1
 have f2:=X1.free 2
 have f3:=X1.free 3
 have f4:=X1.free 4
 have e0:=X1.cell (i:=0) rfl
 have e1:=X1.cell (i:=1) rfl
 have e2:=X1.cell (i:=2) rfl
 have e3:=X1.cell (i:=3) rfl
 have e4:=X1.cell (i:=4) rfl
 have X5:Box (((((W1.setCell ⟨w.heap.size,0,none⟩ (.slice none 0 0)).setCell ⟨w.heap.size,1,none⟩ (.slice none 0 0)).setCell ⟨w.heap.size,2,none⟩ (.int .i64 64448)).setCell ⟨w.heap.size,3,none⟩ (.int .i64 32)).setCell ⟨w.heap.size,4,none⟩ (.int .i64 2)) w.heap.size 32 [.slice none 0 0,.slice none 0 0,.int .i64 64448,.int .i64 32,.int .i64 2]:=((((X1.set 0 _).set 1 _).set 2 _).set 3 _).set 4 _
 have B5:Below w.heap.size w (((((W1.setCell ⟨w.heap.size,0,none⟩ (.slice none 0 0)).setCell ⟨w.heap.size,1,none⟩ (.slice none 0 0)).setCell ⟨w.heap.size,2,none⟩ (.int .i64 64448)).setCell ⟨w.heap.size,3,none⟩ (.int .i64 32)).setCell ⟨w.heap.size,4,none⟩ (.int .i64 2)):=((((hb2.setCell (by simp) _).setCell (by simp) _).setCell (by simp) _).setCell (by simp) _).setCell (by simp) _
 have W5E:∃W5,(((((W1.setCell ⟨w.heap.size,0,none⟩ (.slice none 0 0)).setCell ⟨w.heap.size,1,none⟩ (.slice none 0 0)).setCell ⟨w.heap.size,2,none⟩ (.int .i64 64448)).setCell ⟨w.heap.size,3,none⟩ (.int .i64 32)).setCell ⟨w.heap.size,4,none⟩ (.int .i64 2))=W5:=⟨_,rfl⟩
 go_upto_region 3 with (fail)
 obtain ⟨W5,hW5⟩:=W5E
 rw [hW5] at B5 X5 ⊢
 clear hW5 f0 f1 f2 f3 f4 e0 e1 e2 e3 e4 X1
 have k0:=X5.cell (i:=0) rfl
 have k1:=X5.cell (i:=1) rfl
 have k2:=X5.cell (i:=2) rfl
 have k3:=X5.cell (i:=3) rfl
 have k4:=X5.cell (i:=4) rfl
 have hx5:=X5.lt
 have hx6:¬w.heap.size=W5.heap.size:=by omega
 have hx7:¬w.heap.size=W5.heap.size+1:=by omega
 have B2:Below W5.heap.size W5 ((W5.alloc (.map #[] 0)).alloc (.cells #[.slice none 0 0,.slice none 0 0,.int .i64 64448,.int .i64 32,.int .i64 2,.map (some W5.heap.size),.int .i64 0,.slice none 0 0,.int .i64 0] 156)):=((Below.refl _ _).alloc (Nat.le_refl _) _).alloc (by simp) _
 have X2:Box ((W5.alloc (.map #[] 0)).alloc (.cells #[.slice none 0 0,.slice none 0 0,.int .i64 64448,.int .i64 32,.int .i64 2,.map (some W5.heap.size),.int .i64 0,.slice none 0 0,.int .i64 0] 156)) (W5.heap.size+1) 156 (tabCells none 0 0 none 0 0 colB W5.heap.size (longE colB.ents) (.slice none 0 0) 0):=Box.new _ _ _ (by simp)
 have M2:MapIs Tryz.prog 158 klit kok ((W5.alloc (.map #[] 0)).alloc (.cells #[.slice none 0 0,.slice none 0 0,.int .i64 64448,.int .i64 32,.int .i64 2,.map (some W5.heap.size),.int .i64 0,.slice none 0 0,.int .i64 0] 156)) W5.heap.size 0 (fun _=>none):=(MapIs.made Tryz.prog _ klit kok W5).alloc _
 have W2E:∃W2,((W5.alloc (.map #[] 0)).alloc (.cells #[.slice none 0 0,.slice none 0 0,.int .i64 64448,.int .i64 32,.int .i64 2,.map (some W5.heap.size),.int .i64 0,.slice none 0 0,.int .i64 0] 156))=W2:=⟨_,rfl⟩
 have hsz:=B5.size
 go_wp2_with fail
 obtain ⟨W2,hW2⟩:=W2E
 rw [hW2] at B2 X2 M2 ⊢
 clear hW2 k0 k1 k2 k3 k4 hmm
 have HX2:=Lib.hid X2
 have HM2:=Lib.hid M2
 clear X2 M2
 go_loopw [17] (fun u wr=>u=.int .i64 0∧wr=W2) (fun u _=>0 - (intOf u).toNat)
 case atStart=>exact ⟨rfl,rfl⟩
 case round=>
  obtain ⟨rfl,rfl⟩:=hrel
  go_wp2_with fail
  go_ret
  exact ⟨_,rfl,by omega,⟨_,_,_,_,_,_,_,_,_,HX2.out,HM2.out,TabF.nil _⟩,B5.trans (B2.mono hsz)⟩
theorem made_any (A:Option Addr) (n a:Nat) (B:Option Addr) (m b:Nat) (c:Col) (w:World) (h:ColAt w A n B m c) (hz:ColSz c) :
  Calls Tryz.prog 68 #[colV A n a B m b c] w (RetTab (colD c) w):=by
 by_cases he:colErr c=0
 ·rw [colD_good he];exact made_ok A n a B m b c w h hz he
 ·rw [colD_bad he];exact made_bad A n a B m b c w h hz he
end Go.Proofs.YtijgbonhjcblcaaGreatDoor
namespace Go.Proofs.YtijgbonhjcblcaaGreatDoor
open Go.RowKit
theorem dtx_iok {x:Nrm} (compat:Bool) {t:List Int} (h:∀z ∈ t,iok z):∀z ∈ dtx x compat t,iok z:=fun z hz=>((fl_facts (usN_ok x) compat h).1 z hz).1
theorem dtx_len (x:Nrm) (compat:Bool) (t:List Int):(dtx x compat t).length≤64*t.length:=by
 unfold dtx
 rw [Can.srt_len]
 exact flM_len (usN_ok x) compat t
theorem usN_asc (x:Nrm):Asc (usN x).cls:=by
 unfold usN
 split
 ·next h=>exact asc_of_ok (nErr_ck6 h).1.c
 ·exact fun i j _ hj=>by simp at hj
end Go.Proofs.YtijgbonhjcblcaaGreatDoor
namespace Go.Proofs.YtijgbonhjcblcaaGreatDoor
open Go.RowKit Go.Maps Go.WideMaps
end Go.Proofs.YtijgbonhjcblcaaGreatDoor
namespace Go.Proofs.YtijgbonhjcblcaaGreatDoor
open Go.RowKit
theorem cmpL_vals:∀xs ys:List Int,cmpL xs ys=-1∨cmpL xs ys=0∨cmpL xs ys=1
 | [],[]=>.inr (.inl rfl)
 | [],_::_=>.inl rfl
 | _::_,[]=>.inr (.inr rfl)
 | a::p,b::q=>by
  simp only [cmpL]
  split
  ·exact .inl rfl
  ·split
   ·exact .inr (.inr rfl)
   ·exact cmpL_vals p q
theorem cmpL_lt_trans:∀{xs ys zs:List Int},cmpL xs ys < 0→cmpL ys zs < 0→cmpL xs zs < 0
 | [],[],_,h,_=>by simp [cmpL] at h
 | _::_,[],_,h,_=>by simp [cmpL] at h
 | _,_::_,[],_,h=>by simp [cmpL] at h
 | [],_::_,_::_,_,_=>by simp [cmpL]
 | a::_,b::_,c::_,h1,h2=>by
  simp only [cmpL] at *
  by_cases e1:a < b
  ·by_cases e2:b < c
   ·rw [if_pos (by omega)];omega
   ·rw [if_neg e2] at h2
    by_cases e3:c < b
    ·rw [if_pos e3] at h2;omega
    ·rw [if_pos (by omega)];omega
  ·rw [if_neg e1] at h1
   by_cases e4:b < a
   ·rw [if_pos e4] at h1;omega
   ·rw [if_neg e4] at h1
    by_cases e2:b < c
    ·rw [if_pos (by omega)];omega
    ·rw [if_neg e2] at h2
     by_cases e3:c < b
     ·rw [if_pos e3] at h2;omega
     ·rw [if_neg e3] at h2
      rw [if_neg (by omega),if_neg (by omega)]
      exact cmpL_lt_trans h1 h2
end Go.Proofs.YtijgbonhjcblcaaGreatDoor
namespace Go.Proofs.YtijgbonhjcblcaaGreatDoor
open Go.RowKit
theorem ents_step0 {base:Int} {x:Ent} {r:List Ent} {p:Option Ent} (h:entsErr base (x::r) p=0):entErr1 base x=0∧(∀y,p=some y→cmpL y.codes x.codes < 0)∧entsErr base r (some x)=0:=by
 unfold entsErr at h
 by_cases h1:entErr1 base x=0
 ·simp only [h1,ne_eq,not_true_eq_false,if_false] at h
  cases p with
  | none=>exact ⟨h1,(fun y e=>by cases e),h⟩
  | some z=>
   simp only at h
   split at h
   ·cases h
   ·next h2=>exact ⟨h1,(fun y e=>by injection e with e;subst e;omega),h⟩
 ·rw [if_pos h1] at h;exact absurd h h1
theorem col_grps {c:Col} (h:colErr c=0):grpErr c.base c.grps=0∧1≤c.base∧c.base≤65502∧(1≤c.second∧c.second≤65535)∧(1≤c.third∧c.third≤65535):=by
 unfold colErr at h
 split at h
 ·cases h
 ·next h0=>
  split at h
  ·next h1=>exact absurd h h1
  ·next h1=>
   have h2:inR 1 65535 c.second=true:=by cases hh:inR 1 65535 c.second <;> simp_all
   have h3:inR 1 65535 c.third=true:=by cases hh:inR 1 65535 c.third <;> simp_all
   exact ⟨by simpa using h1,by omega,by omega,inR_iff.1 h2,inR_iff.1 h3⟩
end Go.Proofs.YtijgbonhjcblcaaGreatDoor
namespace Go.Proofs.YtijgbonhjcblcaaGreatDoor.Mtc
open Go.RowKit
section
variable {E:Type} {cl:Int→Int} {ent:List Int→Option (List E)} {imp:Int→List E}
def partsF (cl:Int→Int) (ent:List Int→Option (List E)):Nat→List Int→List (List Int × Bool)
 | 0,_=>[]
 | _+1,[]=>[]
 | f+1,x::t=>((matched cl ent (x::t)).1,(matched cl ent (x::t)).2.2)::partsF cl ent f (matched cl ent (x::t)).2.1
theorem partsF_more:∀(f g:Nat) (t:List Int),t.length≤f→t.length≤g→partsF cl ent f t=partsF cl ent g t
 | 0,0,t,_,_=>rfl
 | 0,g+1,t,h,_=>by
  obtain rfl:t=[]:=List.length_eq_zero_iff.1 (by omega)
  rfl
 | f+1,0,t,_,h=>by
  obtain rfl:t=[]:=List.length_eq_zero_iff.1 (by omega)
  rfl
 | f+1,g+1,[],_,_=>rfl
 | f+1,g+1,x::t,h1,h2=>by
  have h:=(matched_len (cl:=cl) (ent:=ent) (t:=x::t) (by simp)).1
  unfold partsF
  rw [partsF_more f g _ (by omega) (by omega)]
def parts (cl:Int→Int) (ent:List Int→Option (List E)) (t:List Int):List (List Int × Bool):=partsF cl ent t.length t
theorem parts_step {t:List Int} (h:t≠[]):parts cl ent t=((matched cl ent t).1,(matched cl ent t).2.2)::parts cl ent (matched cl ent t).2.1:=by
 cases t with
 | nil=>exact absurd rfl h
 | cons x t=>
  have hl:=(matched_len (cl:=cl) (ent:=ent) (t:=x::t) (by simp)).1
  show ((matched cl ent (x::t)).1,(matched cl ent (x::t)).2.2)::partsF cl ent t.length (matched cl ent (x::t)).2.1=_
  rw [partsF_more (cl:=cl) (ent:=ent) t.length (matched cl ent (x::t)).2.1.length (matched cl ent (x::t)).2.1 (by simp at hl;omega) (Nat.le_refl _)]
  rfl
theorem parts_ind {P:List Int→Prop} (cl:Int→Int) (ent:List Int→Option (List E)) (h0:P []) (h1:∀t,t≠[]→P (matched cl ent t).2.1→P t) (t:List Int):P t:=by
 have key:∀(n:Nat) (t:List Int),t.length≤n→P t:=by
  intro n
  induction n with
  | zero=>intro t h;obtain rfl:t=[]:=List.length_eq_zero_iff.1 (by omega);exact h0
  | succ n ih=>
   intro t h
   by_cases ht:t=[]
   ·rw [ht];exact h0
   ·have:=(matched_len (cl:=cl) (ent:=ent) ht).1
    exact h1 t ht (ih _ (by omega))
 exact key t.length t (Nat.le_refl _)
theorem elems_parts (t:List Int):elems cl ent imp t=(parts cl ent t).flatMap (fun p=>ofPart ent imp p.1 p.2):=by
 refine parts_ind cl ent (P:=fun t=>elems cl ent imp t=(parts cl ent t).flatMap (fun p=>ofPart ent imp p.1 p.2)) rfl (fun t ht ih=>?_) t
 rw [elems_step ht,parts_step ht,List.flatMap_cons,ih]
def known (cl:Int→Int) (ent:List Int→Option (List E)) (t:List Int):Bool:=(parts cl ent t).all (fun p=>p.2)
theorem grow_mem:∀(r part left:List Int) (hi:Int) (x:Int),x ∈ (grow cl ent part left hi r).1++(grow cl ent part left hi r).2 ↔ x ∈ part++left++r
 | [],part,left,hi,x=>by simp [grow]
 | y::r,part,left,hi,x=>by
  unfold grow
  split
  ·simp
  ·split
   ·rw [grow_mem r];simp only [List.mem_append,List.mem_cons,List.not_mem_nil,or_false]
    constructor
    ·rintro (((h | h) | h) | h) <;> simp [h]
    ·rintro ((h | h) | h | h) <;> simp [h]
   ·rw [grow_mem r];simp only [List.mem_append,List.mem_cons,List.not_mem_nil,or_false]
    constructor
    ·rintro ((h | h | h) | h) <;> simp [h]
    ·rintro ((h | h) | h | h) <;> simp [h]
theorem matched_mem {t:List Int} (x:Int):x ∈ (matched cl ent t).1++(matched cl ent t).2.1 ↔ x ∈ t:=by
 unfold matched
 split
 ·rw [List.take_append_drop]
 ·rw [grow_mem,List.append_nil,List.take_append_drop]
variable {F:Type} {ent':List Int→Option (List F)}
end
end Go.Proofs.YtijgbonhjcblcaaGreatDoor.Mtc
namespace Go.Proofs.YtijgbonhjcblcaaGreatDoor
open Go.RowKit Go.Maps Go.WideMaps
def slLen:Value→Nat
 | .slice _ n _=>n
 | _=>0
def elsN (x:Nrm) (c:Col) (t:List Int):List Elt:=Mtc.elems (cls (usN x).cls) (lastE (colD c).ents) (impE (colD c)) (dtx x false t)
structure EL (cl:Int→Int) (ent:List Int→Option (List Elt)) (imp:Int→List Elt) (els:List Elt) (tot:Nat) (b:Nat) (w1:World) (t:List Int) (A:Option Addr) (cap:Nat) (E:Option Addr) (k:Nat) (es:List Elt) (W:World):Prop where
 eq:es++Mtc.elems cl ent imp t=els
 own:W.ownsRow w1.heap.size 112 4 (.slice E es.length k) es.length (flatK Elt.cells es)
 gr:w1.grownBy W (some b)
 bd:es.length+16*t.length≤16*tot
 cp:t.length≤cap
 cm:cap≤9223372036854775807
 row:t≠[]→b < w1.heap.size∧∃off pre post,A=some ⟨b,off,none⟩∧Row W b off 3 pre post t
 io:∀z ∈ t,iok z
section
variable {cl:Int→Int} {ent:List Int→Option (List Elt)} {imp:Int→List Elt} {els:List Elt} {tot b:Nat} {w1:World} {t:List Int} {A:Option Addr} {cap:Nat} {E:Option Addr} {k:Nat} {es:List Elt} {W:World}
theorem EL.own_match (h:EL cl ent imp els tot b w1 t A cap E k es W) (ht:t≠[]) {W':World} (hg:W.grownBy W' (some b)):W'.ownsRow w1.heap.size 112 4 (.slice E es.length k) es.length (flatK Elt.cells es):=by
 refine h.own.kept hg ?_
 cases E with
 | none=>exact .inl rfl
 | some a=>
  right
  intro e
  have e':a.block=b:=by injection e
  rcases h.own.2 with ⟨hv,_⟩ | ⟨g,cp,cur,hv,h1,_⟩
  ·cases hv
  ·injection hv with hv
   injection hv with hv
   subst hv
   have:=(h.row ht).1
   dsimp only at e'
   omega
theorem EL.next (h:EL cl ent imp els tot b w1 t A cap E k es W) (ht:t≠[]) {off:Nat} {pre post:List Value} {W' W2:World} (hg:W.grownBy W' (some b)) (hp:(Mtc.ofPart ent imp (Mtc.matched cl ent t).1 (Mtc.matched cl ent t).2.2).length≤16) (hrow:A=some ⟨b,off,none⟩∧Row W' b off 3 pre post ((Mtc.matched cl ent t).1++(Mtc.matched cl ent t).2.1))
  {E':Option Addr} {k':Nat} (ho:W2.ownsRow w1.heap.size 112 4 (.slice E' (es.length+(Mtc.ofPart ent imp (Mtc.matched cl ent t).1 (Mtc.matched cl ent t).2.2).length) k') (es.length+(Mtc.ofPart ent imp (Mtc.matched cl ent t).1 (Mtc.matched cl ent t).2.2).length) (flatK Elt.cells es++flatK Elt.cells (Mtc.ofPart ent imp (Mtc.matched cl ent t).1 (Mtc.matched cl ent t).2.2))) (hb:Below w1.heap.size W' W2) :
  EL cl ent imp els tot b w1 (Mtc.matched cl ent t).2.1 (subA A cap (Mtc.matched cl ent t).1.length) (cap - (Mtc.matched cl ent t).1.length) E' k' (es++Mtc.ofPart ent imp (Mtc.matched cl ent t).1 (Mtc.matched cl ent t).2.2) W2:=by
 obtain ⟨hl1,hl2⟩:=Mtc.matched_len (cl:=cl) (ent:=ent) ht
 obtain ⟨hA,hrow⟩:=hrow
 have hcp:=h.cp
 have hcm:=h.cm
 have hbd:=h.bd
 have hmem:=Mtc.matched_mem (cl:=cl) (ent:=ent) (t:=t)
 have heq:=h.eq
 rw [Mtc.elems_step ht,←List.append_assoc] at heq
 have hbl:=(h.row ht).1
 have hio:=h.io
 have hgr:=h.gr
 generalize Mtc.matched cl ent t=mt at *
 generalize Mtc.ofPart ent imp mt.1 mt.2.2=l at *
 refine ⟨heq,by rw [List.length_append,flatK_append];exact ho,grown_belowB (grownR_trans hgr hg) hb (Nat.le_refl _),by rw [List.length_append];omega,by omega,by omega,fun hne=>⟨hbl,off+mt.1.length,pre++mt.1.map (Value.int .i64),post,?_,?_⟩,fun z hz=>hio z ((hmem z).1 (by simp [hz]))⟩
 ·have:=List.length_pos_iff.2 hne
  unfold subA
  rw [if_neg (by omega),hA,Option.map_some,Addr.add_lit]
 ·refine ⟨by rw [List.length_append,List.length_map,hrow.1],?_⟩
  have h2:=(hrow.keep (hb.block b hbl)).2
  unfold Blk at h2 ⊢
  rw [h2,List.map_append]
  simp only [List.append_assoc]
theorem EL.first {d:List Int} {n:Nat} {wb:World} (hA:w1.ownsRow wb.heap.size 3 1 (.slice A n cap) n (d.map (Value.int .i64))) (hn:d.length=n) (hio:∀z ∈ d,iok z) (hb:∀g o,A=some ⟨g,o,none⟩→g=b):EL cl ent imp (Mtc.elems cl ent imp d) d.length b w1 d A cap none 0 [] w1:=by
 refine ⟨rfl,World.ownsRow_nil _ _ _ _,grownR_refl _ _,by simp,?_,?_,fun hne=>?_,hio⟩
 ·obtain ⟨_,_,hv,hc⟩:=own_form hA
  injection hv with _ _ hv
  subst hv
  omega
 ·rcases hA.2 with ⟨hv,_⟩ | ⟨g,cp,cur,hv,_,_,_,h5,_⟩
  ·injection hv with _ _ hv
   omega
  ·injection hv with _ _ hv
   unfold maxLen at h5
   omega
 ·have hpos:=List.length_pos_iff.2 hne
  obtain ⟨g,post,rfl,h1,h2,h3,h4,h5⟩:=own_row hA (by omega)
  obtain rfl:=hb g 0 rfl
  exact ⟨h2.lt,0,[],post,rfl,h2⟩
end
theorem part_len {c:Col} (h:colErr c=0) (p:List Int) (q:Bool):(Mtc.ofPart (lastE c.ents) (impE c) p q).length≤16:=by
 unfold Mtc.ofPart
 split
 ·exact last_len h p
 ·unfold impE
  split <;> simp
theorem elems_own (A0:Option Addr) (n0 k0:Nat) (A1:Option Addr) (n1 k1:Nat) (A2:Option Addr) (n2 k2:Nat) (x:Nrm) (C:Option Addr) (n a:Nat) (B:Option Addr) (m b:Nat) (c:Col) (D:Option Addr) (dn dk:Nat) (t:List Int) (w:World) (hN:NrmAt w A0 n0 A1 n1 A2 n2 x) (hz:NrmSz x) (hL:Laid w) (hC:ColAt w C n B m c) (hcz:ColSz c) (hD:Ints w D t) (hn:t.length=dn) (hbig:dn≤16384) (hio:∀z ∈ t,iok z) :
  Calls Tryz.prog 29 #[.agg #[.slice A0 n0 k0,.slice A1 n1 k1,.slice A2 n2 k2],colV C n a B m b c,.slice D dn dk] w (RetOwnE (elsN x c t) w):=by
 subst hn
 have B0:Below w.heap.size w ((w.alloc (.cells #[.slice A0 n0 k0,.slice A1 n1 k1,.slice A2 n2 k2] 28)).alloc (.cells #[.slice C n a,.slice B m b,.int .i64 c.base,.int .i64 c.second,.int .i64 c.third] 32)):=((Below.refl _ _).alloc (Nat.le_refl _) _).alloc (by simp) _
 have X0:Box ((w.alloc (.cells #[.slice A0 n0 k0,.slice A1 n1 k1,.slice A2 n2 k2] 28)).alloc (.cells #[.slice C n a,.slice B m b,.int .i64 c.base,.int .i64 c.second,.int .i64 c.third] 32)) w.heap.size 28 [.slice A0 n0 k0,.slice A1 n1 k1,.slice A2 n2 k2]:=(Box.new w 28 [.slice A0 n0 k0,.slice A1 n1 k1,.slice A2 n2 k2] rfl).below (B:=w.heap.size+1) ((Below.refl _ _).alloc (by simp) _) (by omega)
 have X1:Box ((w.alloc (.cells #[.slice A0 n0 k0,.slice A1 n1 k1,.slice A2 n2 k2] 28)).alloc (.cells #[.slice C n a,.slice B m b,.int .i64 c.base,.int .i64 c.second,.int .i64 c.third] 32)) (w.heap.size+1) 32 [.slice C n a,.slice B m b,.int .i64 c.base,.int .i64 c.second,.int .i64 c.third]:=Box.new _ _ _ (by simp)
 have W0E:∃W0,((w.alloc (.cells #[.slice A0 n0 k0,.slice A1 n1 k1,.slice A2 n2 k2] 28)).alloc (.cells #[.slice C n a,.slice B m b,.int .i64 c.base,.int .i64 c.second,.int .i64 c.third] 32))=W0:=⟨_,rfl⟩
 have hxi:=dtx_iok (x:=x) false hio
 have hxl:=dtx_len x false t
 have HE:=Lib.hid (show elsN x c t=Mtc.elems (cls (usN x).cls) (lastE (colD c).ents) (impE (colD c)) (dtx x false t) from rfl)
 have MC:=Lib.hid (fun W (hb:Below w.heap.size w W)=>made_any C n a B m b c W (hC.below hb) hcz)
 have WC:=Lib.hid (fun W T (hb:Below w.heap.size w W) hT0 hT=>with_any A0 n0 k0 A1 n1 k1 A2 n2 k2 x T (colD c) w W hN hz hL hb hT0 hT)
 have DC:=Lib.hid (fun W (hb:Below w.heap.size w W)=>dText_own A0 n0 k0 A1 n1 k1 A2 n2 k2 x D t.length dk t false W (hN.below hb) hz (hL.below hb) (hD.below hb) rfl hbig hio)
 have hcv:=colD_ok c
 have PL:=Lib.hid (part_len hcv)
 have hce:=valid_ents hcv
 have hcb:=(col_grps hcv).2
 have hcs:=hz.us.z0
 have hca:=usN_asc x
 clear hN hz hL hC hcz hD hio hcv
 generalize elsN x c t=els at *
 generalize dtx x false t=d at *
 generalize (usN x).cls=cs at *
 unfold colV at *
 go_enter Tryz.func29,Tryz.ntmps29
 go_wp2_with fail
 obtain ⟨W0,hW0⟩:=W0E
 try rw [hW0] at B0 X0 X1 ⊢
 clear hW0
 have p00:=X0.cell (i:=0) rfl
 have p01:=X0.cell (i:=1) rfl
 have p02:=X0.cell (i:=2) rfl
 have p10:=X1.cell (i:=0) rfl
 have p11:=X1.cell (i:=1) rfl
 have p12:=X1.cell (i:=2) rfl
 have p13:=X1.cell (i:=3) rfl
 have p14:=X1.cell (i:=4) rfl
 have l0:=X0.lt
 have l1:=X1.lt
 have SH:=Lib.hid (fun W' (hb':Below W0.heap.size W0 W')=>show W'.cell? ⟨w.heap.size,0,none⟩=some (.slice A0 n0 k0)∧W'.cell? ⟨w.heap.size,1,none⟩=some (.slice A1 n1 k1)∧W'.cell? ⟨w.heap.size,2,none⟩=some (.slice A2 n2 k2)∧W'.cell? ⟨w.heap.size+1,0,none⟩=some (.slice C n a)∧W'.cell? ⟨w.heap.size+1,1,none⟩=some (.slice B m b)∧W'.cell? ⟨w.heap.size+1,2,none⟩=some (.int .i64 c.base)∧W'.cell? ⟨w.heap.size+1,3,none⟩=some (.int .i64 c.second)∧W'.cell? ⟨w.heap.size+1,4,none⟩=some (.int .i64 c.third)∧Below W0.heap.size W0 W' from ⟨(hb'.cell l0).trans p00,(hb'.cell l0).trans p01,(hb'.cell l0).trans p02,(hb'.cell l1).trans p10,(hb'.cell l1).trans p11,(hb'.cell l1).trans p12,(hb'.cell l1).trans p13,(hb'.cell l1).trans p14,hb'⟩)
 have TM:=Lib.hid (fun W (hb':Below W0.heap.size W0 W)=>(MC.out W (B0.trans (hb'.mono B0.size))).mono (R':=fun e W'=>∃v,e=.returned v∧(W'.cell? ⟨w.heap.size,0,none⟩=some (.slice A0 n0 k0)∧W'.cell? ⟨w.heap.size,1,none⟩=some (.slice A1 n1 k1)∧W'.cell? ⟨w.heap.size,2,none⟩=some (.slice A2 n2 k2)∧W'.cell? ⟨w.heap.size+1,0,none⟩=some (.slice C n a)∧W'.cell? ⟨w.heap.size+1,1,none⟩=some (.slice B m b)∧W'.cell? ⟨w.heap.size+1,2,none⟩=some (.int .i64 c.base)∧W'.cell? ⟨w.heap.size+1,3,none⟩=some (.int .i64 c.second)∧W'.cell? ⟨w.heap.size+1,4,none⟩=some (.int .i64 c.third)∧Below W0.heap.size W0 W')∧(∃T,v=.pointer (some ⟨T,0,none⟩)∧W.heap.size≤T∧TabAt W' T (colD c) (.slice none 0 0) 0)) (fun e W' ⟨T,he,g1,g2,g3⟩=>⟨_,he,SH.out W' (hb'.trans (g3.mono hb'.size)),T,rfl,g1,g2⟩))
 clear p00 p01 p02 p10 p11 p12 p13 p14
 refine wp_region_held_drew (S:=fun W'=>W'.cell? ⟨w.heap.size,0,none⟩=some (.slice A0 n0 k0)∧W'.cell? ⟨w.heap.size,1,none⟩=some (.slice A1 n1 k1)∧W'.cell? ⟨w.heap.size,2,none⟩=some (.slice A2 n2 k2)∧W'.cell? ⟨w.heap.size+1,0,none⟩=some (.slice C n a)∧W'.cell? ⟨w.heap.size+1,1,none⟩=some (.slice B m b)∧W'.cell? ⟨w.heap.size+1,2,none⟩=some (.int .i64 c.base)∧W'.cell? ⟨w.heap.size+1,3,none⟩=some (.int .i64 c.second)∧W'.cell? ⟨w.heap.size+1,4,none⟩=some (.int .i64 c.third)∧Below W0.heap.size W0 W') (by kernel_rfl) (SH.out _ ((Below.refl _ _).drew)) (fun hHeld=>?_)
 refine tK 0 13 ?_
 refine tK 2 15 ?_
 refine qE 1 14 (TM.out _ hHeld.2.2.2.2.2.2.2.2) ?_
 clear hHeld
 rintro _ W1 hHeld ⟨T,rfl,hT0,hTab⟩
 have TW:=Lib.hid ((WC.out W1 T (B0.trans (hHeld.2.2.2.2.2.2.2.2.mono B0.size)) (by have:=B0.size;have:W0.heap.size≤T:=hT0;omega) hTab).mono (R':=fun e W'=>∃v,e=.returned v∧(W'.cell? ⟨w.heap.size,0,none⟩=some (.slice A0 n0 k0)∧W'.cell? ⟨w.heap.size,1,none⟩=some (.slice A1 n1 k1)∧W'.cell? ⟨w.heap.size,2,none⟩=some (.slice A2 n2 k2)∧W'.cell? ⟨w.heap.size+1,0,none⟩=some (.slice C n a)∧W'.cell? ⟨w.heap.size+1,1,none⟩=some (.slice B m b)∧W'.cell? ⟨w.heap.size+1,2,none⟩=some (.int .i64 c.base)∧W'.cell? ⟨w.heap.size+1,3,none⟩=some (.int .i64 c.second)∧W'.cell? ⟨w.heap.size+1,4,none⟩=some (.int .i64 c.third)∧Below W0.heap.size W0 W')∧(v=.pointer (some ⟨T,0,none⟩)∧(∃A k,TabAt W' T (colD c) (.slice A cs.length k) (topS cs)∧Spans W' A cs))) (fun e W' ⟨he,h2,h3⟩=>⟨_,he,SH.out W' (hHeld.2.2.2.2.2.2.2.2.trans (below_of_grown h3 (show W0.heap.size≤T from hT0) hHeld.2.2.2.2.2.2.2.2.size)),rfl,h2⟩))
 refine qE 3 16 (TW.out) ?_
 clear hHeld
 rintro _ W2 hHeld ⟨rfl,AX,kX,hTab2,hSp2⟩
 refine tK 4 7 ?_
 refine wpAnyH_done (by kernel_rfl) ?_ _
 have hb2:=hHeld.2.2.2.2.2.2.2.2
 have hbw2:=B0.trans (hb2.mono B0.size)
 have q00:=hHeld.1
 have q01:=hHeld.2.1
 have q02:=hHeld.2.2.1
 have HT:=Lib.hid hTab2
 have HS:=Lib.hid hSp2
 have KD:=Lib.hid (DC.out W2 hbw2)
 have hbd:=hbw2.size
 clear hHeld SH TM TW WC MC hTab hTab2 hSp2 DC
 go_wp2_with fail
 with_reducible refine KD.out.mono ?_
 rintro e W3 ⟨E0,d0,rfl,hown,hb3⟩
 have HM:=Lib.hid (show ∀b,W2.heap.size≤b→MCtx T (colD c) cs AX kX b W2 from fun b hb=>⟨HT.out,HS.out,hb,hca,by omega,hce,⟨hcb.1,hcb.2.1⟩⟩)
 obtain ⟨bq,hbq,HBQ⟩:∃bq,W2.heap.size≤bq∧∀g o,E0=some ⟨g,o,none⟩→g=bq:=by
  cases E0 with
  | none=>exact ⟨_,Nat.le_refl _,fun g o h=>by cases h⟩
  | some ad=>
   rcases hown.2 with ⟨hv,_⟩ | ⟨g,cp,cur,hv,h1,_⟩
   ·cases hv
   ·injection hv with hv
    injection hv with hv
    subst hv
    exact ⟨g,h1,fun g' o h=>by injection h with h;injection h with h1 h2;exact h1.symm⟩
 have HF:=Lib.hid (EL.first (cl:=cls cs) (ent:=lastE (colD c).ents) (imp:=impE (colD c)) hown rfl hxi HBQ)
 rw [←HE.out] at HF
 have MT:=Lib.hid (HM.out bq hbq)
 clear HM HBQ hown KD q00 q01 q02 HT HS
 go_wp2_with fail
 go_loopw [8,9] (fun u v wr=>∃(t':List Int) (A':Option Addr) (cap':Nat) (E':Option Addr) (k':Nat) (es:List Elt),u=.slice E' es.length k'∧v=.slice A' t'.length cap'∧EL (cls cs) (lastE (colD c).ents) (impE (colD c)) els d.length bq W3 t' A' cap' E' k' es wr) (fun _ v _=>slLen v)
 case atStart=>exact ⟨d,E0,d0,none,0,[],rfl,rfl,HF.out⟩
 case round=>
  obtain ⟨t',A',cap',E',k',es,rfl,rfl,hel⟩:=hrel
  have HL:=Lib.hid hel
  have hcp:=hel.cp
  have hcm:=hel.cm
  have hbd2:=hel.bd
  have hwsz:=hel.gr.size
  have hwr:Below W2.heap.size W2 wr:=hb3.trans (below_of_grown hel.gr hbq hb3.size)
  by_cases hne:t'=[]
  ·have hes:=hel.eq
   rw [hne,Mtc.elems_nil,List.append_nil] at hes
   have hlt:t'.length=0:=by rw [hne];rfl
   have HO:=Lib.hid hel.own
   have hbb:=hbw2.trans (hwr.mono hbw2.size)
   have h3:=hb3.size
   clear hel HL
   subst hne
   subst hes
   go_wp2_with fail
   go_ret
   exact ⟨E',k',rfl,own_mono HO.out (by omega),hbb⟩
  ·have hpos:=List.length_pos_iff.2 hne
   obtain ⟨hbl,off,pre,post,rfl,hrow⟩:=hel.row hne
   have TC:=Lib.hid (tmatch_any T (colD c) cs AX kX bq off cap' pre post t' W2 wr MT.out hwr hrow hne (by omega) hcp hcm hel.io)
   have ML:=Mtc.matched_len (cl:=cls cs) (ent:=lastE (colD c).ents) hne
   have hpl:=PL.out (Mtc.matched (cls cs) (lastE (colD c).ents) t').1 (Mtc.matched (cls cs) (lastE (colD c).ents) t').2.2
   have OM:=Lib.hid (fun W' hg=>hel.own_match hne (W':=W') hg)
   have NX:=Lib.hid (fun (W' W2:World) (off:Nat) (pre post:List Value) hg hrow (E2:Option Addr) (k2:Nat) ho hb=>HL.out.next hne (off:=off) (pre:=pre) (post:=post) (W':=W') (W2:=W2) hg hpl hrow (E':=E2) (k':=k2) ho hb)
   unfold RetMatch RetMt at TC
   have hlt:decide ((0:Int) < (t'.length:Int))=true:=by simpa using hpos
   clear hel HL hrow
   generalize hmt:Mtc.matched (cls cs) (lastE (colD c).ents) t'=mt at *
   clear hmt
   generalize hpt:Mtc.ofPart (lastE (colD c).ents) (impE (colD c)) mt.1 mt.2.2=pt at *
   clear hpt
   obtain ⟨m1,m2,mk⟩:=mt
   dsimp only at *
   have hcut:=fun (W:World)=>run_cutFrom (some ⟨bq,off,none⟩) t'.length cap' m1.length (by omega) W
   go_wp2_with fail
   with_reducible refine TC.out.mono ?_
   rintro e W4 ⟨E4,d4,rfl,hE4,hrow4,hg4⟩
   have HO4:=Lib.hid (OM.out W4 hg4)
   have HE4:=Lib.hid hE4
   have HN4:=Lib.hid (fun W2=>NX.out W4 W2 off pre post hg4 ⟨rfl,hrow4⟩)
   have h34:W3.heap.size≤W4.heap.size:=Nat.le_trans hwsz hg4.size
   clear hE4 hrow4 hg4 OM NX TC
   go_wp2_with (at_builtin;refine wpList_app _ _ 72 112 (.agg #[.int .i64 0,.int .i64 0,.int .i64 0,.bool false]) 4 32 rfl rfl Tryz.underlying72 info_elt rfl (by decide) (by decide) rfl HO4.out rfl HE4.out (flatK_len Elt.cells 4 (fun _=>rfl) _) (oneCell_elts _) (by omega) h34 ?_;intro B5 k5 w5 hown5 hc5 hb5 hg5 hB5)
   have HL5:=Lib.hid (HN4.out w5 B5 k5 hown5 hb5)
   clear hown5 hb5 hg5 hB5 HN4 HO4 HE4
   go_wp2_with fail
   go_roundw
   case rel=>exact ⟨m2,_,_,B5,k5,es++pt,by rw [List.length_append],by rw [show t'.length - m1.length=m2.length by omega],HL5.out⟩
   case measure=>simp [slLen];omega
end Go.Proofs.YtijgbonhjcblcaaGreatDoor
