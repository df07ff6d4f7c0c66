import Derived.Test.YtkhmjidaeliccaaGreatDoorD00
import Derived.Test.YtkhmjidaeliccaaGreatDoorD01
import Derived.Test.YtkhmjidaeliccaaGreatDoorD02
import Derived.Test.YtkhmjidaeliccaaGreatDoorD08
import Derived.Test.YtkhmjidaeliccaaGreatDoorD09
import Derived.Test.YtkhmjidaeliccaaGreatDoorD10
import Derived.Test.YtkhmjidaeliccaaGreatDoorD11
import Derived.Test.YtkhmjidaeliccaaGreatDoorD12
import Derived.Test.YtkhmjidaeliccaaGreatDoorD13
import Derived.Deep.Cut
set_option maxRecDepth 100000
set_option maxHeartbeats 51200000
namespace Go.Proofs.YtkhmjidaeliccaaGreatDoor
open Option renaming none->N,some->Z
open Value renaming int->I,slice->H
open IntKind renaming i64->J
open Go.Proofs.Tryz
section
open Go.RowKit Go.Maps Go.WideMaps
theorem GS(A0:Oa)(n0 k0:Nat)(A1:Oa)(n1 k1:Nat)(A2:Oa)(n2 k2:Nat)(x:Nrm)(w:Wv)(hN:dC w A0 n0 A1 n1 A2 n2 x)(hz:cC x)(hL:cK w):
  Calls prog 62 #[.agg #[H A0 n0 k0,H A1 n1 k1,H A2 n2 k2]] w (fun e w'=>e=.returned (usV x A0 k0 A1 k1 A2 k2)/\By w w'):=by
 obtain⟨hS,hM,hR,rfl,rfl,rfl⟩:=hN;have B0:By w ((w.alloc (.cells #[H A0 x.cls.length k0,H A1 x.dec.length k1,H A2 x.exc.length k2] 28)).alloc (.cells #[H N 0 0,H N 0 0,H N 0 0] 28)):=(ba _ _).alloc (by simp) _
 have X0:Box ((w.alloc (.cells #[H A0 x.cls.length k0,H A1 x.dec.length k1,H A2 x.exc.length k2] 28)).alloc (.cells #[H N 0 0,H N 0 0,H N 0 0] 28)) w.heap.size 28 [H A0 x.cls.length k0,H A1 x.dec.length k1,H A2 x.exc.length k2]:=
  (Box.new w _ [H A0 x.cls.length k0,H A1 x.dec.length k1,H A2 x.exc.length k2] rfl).below (B:=w.heap.size+1) ((Below.refl _ _).alloc (by simp) _) (by omega)
 have X1:Box ((w.alloc (.cells #[H A0 x.cls.length k0,H A1 x.dec.length k1,H A2 x.exc.length k2] 28)).alloc (.cells #[H N 0 0,H N 0 0,H N 0 0] 28)) (w.heap.size+1) 28 [H N 0 0,H N 0 0,H N 0 0]:=Box.new _ _ _ (by simp);have W0E:∃W0,((w.alloc (.cells #[H A0 x.cls.length k0,H A1 x.dec.length k1,H A2 x.exc.length k2] 28)).alloc (.cells #[H N 0 0,H N 0 0,H N 0 0] 28))=W0:=⟨_,rfl⟩;have hN:∀W,By w W->dC W A0 x.cls.length A1 x.dec.length A2 x.exc.length x:=fun W hb=>⟨hS.below hb,hM.below hb,hR.below hb,rfl,rfl,rfl⟩
 have CC:=G (fun W(hb:By w W)=>q_ A0 x.cls.length k0 A1 x.dec.length k1 A2 x.exc.length k2 x W (hN W hb) hz (hL.below hb));have UB:=G (AA (x:=x) A0 k0 A1 k1 A2 k2);have UG:=G (AB (x:=x) A0 k0 A1 k1 A2 k2);clear hN hS hM hR hz;generalize hu:usV x A0 k0 A1 k1 A2 k2=y at *;generalize hc:bQ x=c at *;clear hu hc;go_enter func62,ntmps62;go_wp2_with fail;obtain⟨W0,hW0⟩:=W0E;rw[hW0]at B0 X0 X1|-;clear hW0;have s0:=X0.lt;have s1:=X1.lt;have c0:=X0.c 0 rfl;have c1:=X0.c 1 rfl;have c2:=X0.c 2 rfl;go_wp2_with fail;with_reducible refine(CC.out _ B0).mono ?_
 rintro e W1 ⟨rfl,hb1⟩;have Y0:=X0.below hb1 s0;have Y1:=X1.below hb1 s1;have B1:=B0.trans (hb1.mono B0.size);clear c0 c1 c2 X0 X1 B0 hb1;have c0:=Y0.c 0 rfl;have c1:=Y0.c 1 rfl;have c2:=Y0.c 2 rfl;have d0:=Y1.c 0 rfl;have d1:=Y1.c 1 rfl;have d2:=Y1.c 2 rfl;have f0:=Y1.free 0;have f1:=Y1.free 1;have f2:=Y1.free 2;have HB:=G (fun(u0 u1 u2:Value)=>show By w (((W1.setCell ⟨w.heap.size+1,0,N⟩ u0).setCell ⟨w.heap.size+1,1,N⟩ u1).setCell ⟨w.heap.size+1,2,N⟩ u2)from((B1.setCell (by simp) _).setCell (by simp) _).setCell (by simp) _);by_cases h0:c=0
 ·have HY:=G (UG.out h0)
  subst h0;go_wp2_with fail;(try simp only[Exit.inBlock,Exit.then]);refine bodyPost_ret (yO rfl _ _ (b:=w.heap.size+1) (v0:=H A0 x.cls.length k0) (v1:=H A1 x.dec.length k1) (v2:=H A2 x.exc.length k2) rfl (by go_simp) (by go_simp) (by go_simp)) rfl ?_;exact⟨by rw[HY.out],HB.out _ _ _⟩
 have HY:=G (UB.out h0);have h1:(c !=0)=true:=by simpa using h0
 go_wp2_with fail;(try simp only[Exit.inBlock,Exit.then]);refine bodyPost_ret (yO rfl _ _ (b:=w.heap.size+1) (v0:=H N 0 0) (v1:=H N 0 0) (v2:=H N 0 0) rfl (by go_simp) (by go_simp) (by go_simp)) rfl ?_;exact⟨by rw[HY.out],HB.out _ _ _⟩
theorem CB(A0:Oa)(n0 k0:Nat)(A1:Oa)(n1 k1:Nat)(A2:Oa)(n2 k2:Nat)(ms:List Mp)(compat:Bool)(w w5:Wv)
  (h:(((((w.alloc (.cells #[H A0 n0 k0,H A1 n1 k1,H A2 n2 k2] 28)).alloc (.cells #[.bool compat] 4)).alloc (.map #[] 0)).alloc (.cells #[.map (Z (w.heap.size+1+1))] 171)).alloc (.cells #[.func (.func 118) #[] #[.pointer (Z ⟨w.heap.size+1+1+1,0,N⟩),.pointer (Z ⟨w.heap.size,0,N⟩),.pointer (Z ⟨w.heap.size+1,0,N⟩),.pointer (Z ⟨w.heap.size+1+1+1+1,0,N⟩)]] 108))=w5) :
  XM A0 n0 k0 A1 n1 k1 A2 n2 k2 ms compat w.heap.size w5 0 (fun _=>N)/\By w w5:=by
 subst h;have al:∀(W:Wv)(o:Obj),By W (W.alloc o):=fun W o=>ba _ _
 obtain⟨w1,h1⟩:∃w1,w.alloc (.cells #[H A0 n0 k0,H A1 n1 k1,H A2 n2 k2] 28)=w1:=⟨_,rfl⟩;have x1:Box w1 w.heap.size 28 [H A0 n0 k0,H A1 n1 k1,H A2 n2 k2]:=by rw[<-h1];exact Box.new _ _ _ rfl
 have b1:By w w1:=by rw[<-h1];exact al _ _
 have s1:w1.heap.size=w.heap.size+1:=by rw[<-h1];simp
 rw[h1];obtain⟨w2,h2⟩:∃w2,w1.alloc (.cells #[.bool compat] 4)=w2:=⟨_,rfl⟩;have x2:Box w2 (w.heap.size+1) 4 [.bool compat]:=by rw[<-h2];exact Box.new _ _ _ s1.symm
 have b2:By w1 w2:=by rw[<-h2];exact al _ _
 have s2:w2.heap.size=w.heap.size+2:=by rw[<-h2];simp[s1]
 rw[h2];obtain⟨w3,h3⟩:∃w3,w2.alloc (.map #[] 0)=w3:=⟨_,rfl⟩;have x3:kR w3 (w.heap.size+2) 0 (fun _=>N):=by rw[<-h3,<-s2];exact aR.made _ _ _ _ _
 have b3:By w2 w3:=by rw[<-h3];exact al _ _
 have s3:w3.heap.size=w.heap.size+3:=by rw[<-h3];simp[s2]
 rw[h3];obtain⟨w4,h4⟩:∃w4,w3.alloc (.cells #[.map (Z (w.heap.size+1+1))] 171)=w4:=⟨_,rfl⟩;have x4:Box w4 (w.heap.size+3) 171 [.map (Z (w.heap.size+2))]:=by rw[<-h4];exact Box.new _ _ _ s3.symm
 have b4:By w3 w4:=by rw[<-h4];exact al _ _
 have s4:w4.heap.size=w.heap.size+4:=by rw[<-h4];simp[s3]
 rw[h4];obtain⟨w5,h5⟩:∃w5,w4.alloc (.cells #[.func (.func 118) #[] #[.pointer (Z ⟨w.heap.size+1+1+1,0,N⟩),.pointer (Z ⟨w.heap.size,0,N⟩),.pointer (Z ⟨w.heap.size+1,0,N⟩),.pointer (Z ⟨w.heap.size+1+1+1+1,0,N⟩)]] 108)=w5:=⟨_,rfl⟩;have x5:Box w5 (w.heap.size+4) 108 [.func (.func 118) #[] #[.pointer (Z ⟨w.heap.size+3,0,N⟩),.pointer (Z ⟨w.heap.size,0,N⟩),.pointer (Z ⟨w.heap.size+1,0,N⟩),.pointer (Z ⟨w.heap.size+4,0,N⟩)]]:=by rw[<-h5];exact Box.new _ _ _ s4.symm
 have b5:By w4 w5:=by rw[<-h5];exact al _ _
 rw[h5];have b45:=b5;have b35:=b4.trans (b5.mono b4.size);have b25:=b3.trans (b35.mono b3.size);have b15:=b2.trans (b25.mono b2.size);exact⟨⟨x1.below b15 x1.lt,x2.below b25 x2.lt,x3.below b35,x4.below b45 x4.lt,x5,fun c v e=>(by cases e)⟩,b1.trans (b15.mono b1.size)⟩
def BG(A0:Oa)(n0 k0:Nat)(A1:Oa)(n1 k1:Nat)(A2:Oa)(n2 k2:Nat)(ms:List Mp)(compat:Bool)(w:Wv)(e:Ending)(w':Wv):Prop:=
 e=.returned (.func (.func 118) #[] #[.pointer (Z ⟨w.heap.size+3,0,N⟩),.pointer (Z ⟨w.heap.size,0,N⟩),.pointer (Z ⟨w.heap.size+1,0,N⟩),.pointer (Z ⟨w.heap.size+4,0,N⟩)])/\XM A0 n0 k0 A1 n1 k1 A2 n2 k2 ms compat w.heap.size w' 0 (fun _=>N)/\By w w'
theorem IZ(A0:Oa)(n0 k0:Nat)(A1:Oa)(n1 k1:Nat)(A2:Oa)(n2 k2:Nat)(ms:List Mp)(compat:Bool)(w:Wv):
  Calls prog 63 #[.agg #[H A0 n0 k0,H A1 n1 k1,H A2 n2 k2],.bool compat] w (BG A0 n0 k0 A1 n1 k1 A2 n2 k2 ms compat w):=by
 have hmm:=@run_makeMap prog;have hsf:=fun(W:Wv) (a:Addr) (m:Mode) (fn:Fn) (x y:Array Value)=>run_store prog W a (.func fn x y) m rfl
 go_enter func63,ntmps63;go_wp2_with fail;obtain⟨W0,hW0⟩:∃W0,(((((w.alloc (.cells #[H A0 n0 k0,H A1 n1 k1,H A2 n2 k2] 28)).alloc (.cells #[.bool compat] 4)).alloc (.map #[] 0)).alloc (.cells #[.map (Z (w.heap.size+1+1))] 171)).alloc (.cells #[.func (.func 118) #[] #[.pointer (Z ⟨w.heap.size+1+1+1,0,N⟩),.pointer (Z ⟨w.heap.size,0,N⟩),.pointer (Z ⟨w.heap.size+1,0,N⟩),.pointer (Z ⟨w.heap.size+1+1+1+1,0,N⟩)]] 108))=W0:=⟨_,rfl⟩;obtain⟨hM0,hB0⟩:=CB A0 n0 k0 A1 n1 k1 A2 n2 k2 ms compat w W0 hW0;go_ret;exact⟨rfl,by rw[hW0];exact hM0,by rw[hW0];exact hB0⟩
def dtx(x:Nrm)(compat:Bool)(t:Li):Li:=Can.srt (clz (usN x).cls) (flM (usN x) compat t)
theorem JG(x:Nrm)(compat:Bool){t:Li}{i:Nat}(hi:i<t.length):flM x compat (t.take (i+1))=flM x compat (t.take i)++dcM x.dec compat t[i]:=by
 unfold flM;rw[List.take_succ_eq_append_getElem hi,List.flatMap_append,List.flatMap_singleton]
theorem JF{x:Nrm}(h:NOk x)(compat:Bool)(t:Li)(i:Nat):(flM x compat (t.take i)).length<=64*t.length:=by
 have:=vS h compat (t.take i);rw[List.length_take]at this;omega
theorem kW(A0:Oa)(n0 k0:Nat)(A1:Oa)(n1 k1:Nat)(A2:Oa)(n2 k2:Nat)(x:Nrm)(A:Oa)(n k:Nat)(t:Li)(compat:Bool)(w:Wv)(hN:dC w A0 n0 A1 n1 A2 n2 x)(hz:cC x)(hL:cK w)(hA:aB w A t)(hn:t.length=n)(hbig:n<=16384)(hio:∀c∈t,iok c):
  Calls prog 21 #[.agg #[H A0 n0 k0,H A1 n1 k1,H A2 n2 k2],H A n k,.bool compat] w (eS (dtx x compat t) w):=by
 subst hn;obtain⟨B0,c0,B1,c1,B2,c2,hv,hNW⟩:=WP hN k0 k1 k2;have US:=G (fun W(hb:By w W)=>GS A0 n0 k0 A1 n1 k1 A2 n2 k2 x W (hN.below hb) hz (hL.below hb));rw[hv]at US;have HNW:=G hNW;have hny:=pK x;have hzu:=hz.us;have DF:=G (mV hny.st hny.hg hny.en compat);have DL:=G (vC hny.st hny.hg hny.en hny.lo compat);have EX:=G (fun(W:Wv) (hb:By w W)=>fun c l=>IY B0 (usN x).cls.length c0 B1 c1 B2 (usN x).exc.length c2 W.heap.size (usN x).dec compat W rfl (HNW.out W hb).s1 hny.st hny.co (by have:=hzu.z1.1;omega) (c:=c) (l:=l));have SO:=G (fun(D:Oa) (m d:Nat) (l:Li) (W:Wv) (hb:By w W) (hD:aB W D l) (hm:l.length=m) (hm2:m<=1048576)=>BU B0 (usN x).cls.length c0 (usN x).cls D m d l W (HNW.out W hb).s0 hD hm rfl hm2 (by have:=hzu.z0;omega) (hL.below hb));have FT:=G (fun i(hi:i<t.length)=>JG (usN x) compat hi);have FL:=G (fun i=>JF hny compat t i);have HA:=G hA;have HIO:=G hio;have hul:unmarked (uM (usN x).dec) (mkF (fun _=>N))<=2000000:=by
  have h1:=zW (uM (usN x).dec) (mkF (fun _=>N));rw[WO]at h1;have:=hzu.z1.1;omega
 unfold dtx;clear hN hz hL hA hv hNW hny hzu hio;generalize usN x=y at *;have X0:Box (w.alloc (.cells #[H A0 n0 k0,H A1 n1 k1,H A2 n2 k2] 28)) w.heap.size 28 [H A0 n0 k0,H A1 n1 k1,H A2 n2 k2]:=Box.new w _ [H A0 n0 k0,H A1 n1 k1,H A2 n2 k2] rfl;have H0:By w (w.alloc (.cells #[H A0 n0 k0,H A1 n1 k1,H A2 n2 k2] 28)):=ba _ _;have W0E:∃W0,(w.alloc (.cells #[H A0 n0 k0,H A1 n1 k1,H A2 n2 k2] 28))=W0:=⟨_,rfl⟩;go_enter func21,ntmps21;go_wp2_with fail;obtain⟨W0,hW0⟩:=W0E;try rw[hW0]at X0 H0|-
 clear hW0;have s0:=X0.lt;have g0:=X0.c 0 rfl;have g1:=X0.c 1 rfl;have g2:=X0.c 2 rfl;go_wp2_with fail;with_reducible refine(US.out _ H0).mono ?_
 rintro e W1 ⟨rfl,hb1⟩;have X1:=X0.below hb1 s0;have H1:=H0.trans (hb1.mono H0.size);have f0:=X1.free 0;have f1:=X1.free 1;have f2:=X1.free 2;have e0:=X1.c 0 rfl;have e1:=X1.c 1 rfl;have e2:=X1.c 2 rfl;have X2:Box (((W1.setCell ⟨w.heap.size,0,N⟩ (H B0 y.cls.length c0)).setCell ⟨w.heap.size,1,N⟩ (H B1 y.dec.length c1)).setCell ⟨w.heap.size,2,N⟩ (H B2 y.exc.length c2)) w.heap.size 28 [H B0 y.cls.length c0,H B1 y.dec.length c1,H B2 y.exc.length c2]:=((X1.set 0 _).set 1 _).set 2 _;have H2:By w (((W1.setCell ⟨w.heap.size,0,N⟩ (H B0 y.cls.length c0)).setCell ⟨w.heap.size,1,N⟩ (H B1 y.dec.length c1)).setCell ⟨w.heap.size,2,N⟩ (H B2 y.exc.length c2)):=((H1.setCell (by simp) _).setCell (by simp) _).setCell (by simp) _;have W2E:∃W2,(((W1.setCell ⟨w.heap.size,0,N⟩ (H B0 y.cls.length c0)).setCell ⟨w.heap.size,1,N⟩ (H B1 y.dec.length c1)).setCell ⟨w.heap.size,2,N⟩ (H B2 y.exc.length c2))=W2:=⟨_,rfl⟩;clear US X0 H0 g0 g1 g2 s0 hb1;go_wp2_with fail;obtain⟨W2,hW2⟩:=W2E;try rw[hW2]at X2 H2|-
 clear hW2 X1 H1 f0 f1 f2 e0 e1 e2;have s2:=X2.lt;have g0:=X2.c 0 rfl;have g1:=X2.c 1 rfl;have g2:=X2.c 2 rfl;have EC:=G (IZ B0 y.cls.length c0 B1 y.dec.length c1 B2 y.exc.length c2 y.dec compat W2);go_wp2_with fail;with_reducible refine EC.out.mono ?_
 rintro e W5 ⟨rfl,hM5,hb5⟩;have H5:=H2.trans (hb5.mono H2.size);have X5:=X2.below hb5 s2;have EO:=G (EX.out W2 H2);have HM5:=G hM5;have hs5:W2.heap.size+4<W5.heap.size:=hM5.bX.lt;have HB5:=G (show Below W2.heap.size W2 W5 from hb5);clear EC EX hM5 hb5 X2 g0 g1 g2;generalize W2.heap.size=s at *;go_wp2_with fail
 go_loopw [8,18] (fun u q wr=>∃(i n':Nat)(f':Int->Option Value)(B:Oa)(k:Nat),i<=t.length/\u=H B ((flM y compat (t.take i))).length k/\q=I J i/\iD B0 y.cls.length c0 B1 y.dec.length c1 B2 y.exc.length c2 y.dec compat s (fun _=>True) (flM y compat (t.take i)) W5 W5 0 (fun _=>N) B k wr n' f')
  (fun _ q _=>t.length-(intOf q).toNat)
 case atStart=>
  exact⟨0,0,_,N,0,Nat.zero_le _,rfl,rfl,⟨World.ownsRow_nil _ _ _ _,HM5.out,aN _ _,Nat.le_refl _,fun x E' m d e=>.inl e,fun x e=>.inl e,kQ.nil _⟩⟩
 obtain⟨i,n',f',B,k',hile,rfl,rfl,HL0⟩:=hrel;have HL:=G HL0;have hbr:Below s W2 wr:=HB5.out.trans (jB HL0.gr (by omega) (by omega));have hwr:=H2.trans (hbr.mono (by omega:w.heap.size<=s));clear HL0;have hfl:=FL.out i;by_cases hi:i<t.length
 ·obtain⟨b,o,rfl,hcell⟩:=(HA.out.below hwr).at hi
  have hc0:=hcell i hi;clear hcell;have hmem:t[i]∈t:=List.getElem_mem hi;have CL:=G (EO.out t[i] _ (DF.out t[i]) (HIO.out _ hmem) (by have:=DL.out t[i];omega) wr n' f' HL.out.st hbr (by have:=HL.out.pot;omega));have NX:=G (fun(E2:Oa) W n9 f9 (p:oA B0 y.cls.length c0 B1 y.dec.length c1 B2 y.exc.length c2 y.dec compat s t[i] (dcM y.dec compat t[i]) wr n' f' E2 W n9 f9)=>HL.out.call (Nat.le_refl _) hs5 (fun _ _=>trivial) p);have FSq:=G (FT.out i hi);have hdl:=DL.out t[i];clear hmem;generalize dcM y.dec compat t[i]=ve at *;generalize t[i]=te at *;generalize flM y compat (t.take i)=fl at *;go_wp2_with fail;with_reducible refine CL.out.mono ?_
  rintro e W ⟨E2,d2,n9,f9,rfl,hd2,hp⟩;have HL2:=G (NX.out E2 W n9 f9 hp);have HE2:=G hp.ints;clear hp CL NX HL hwr hbr;go_wp2_with(at_builtin;refine cJ _ _ 33 3 (I J 0) 1 8 rfl rfl underlying33 bK rfl (by decide) (by decide) rfl HL2.out.own rfl HE2.out (by simp) (dJ _) (by omega) HL2.out.lt ?_;intro B3 k3 w3 hown3 hc3 hb3 hg3 hB3);have HL3:=G (HL2.out.app hs5 hown3 hb3 hg3 hB3);clear hown3 hb3 hg3 hB3 HL2 HE2;go_wp2_with fail;go_roundw
  case rel=>exact⟨i+1,n9,f9,B3,k3,by omega,by rw[FSq.out,List.length_append],by go_num,by rw[FSq.out];exact HL3.out⟩
  simp[intOf];omega
 have hi':i=t.length:=by omega
 subst hi';rw[List.take_length]at HL hfl|-;have q0:wr.cell? ⟨w.heap.size,0,N⟩=Z (H B0 y.cls.length c0):=(HL.out.gr.cell (X5.c 0 rfl) (by simp;omega));have CS:=G (SO.out B _ k' _ wr hwr (Sl.of_own HL.out.own) rfl (by omega));generalize Can.srt (clz y.cls) (flM y compat t)=sr at *;go_wp2_with fail;with_reducible refine CS.out.mono ?_
 rintro e W ⟨E,d,rfl,ho,hb⟩;have HO:=G ho;clear CS ho;go_wp2_with fail;go_ret;exact⟨E,d,rfl,gZ HO.out hwr.size,hwr.trans (hb.mono hwr.size)⟩
def jX:Col:=⟨[],[],64448,32,2⟩
theorem GL:aH jX=0:=by
 decide
theorem qY{c:Col}(h:aH c=0):a_ c=c:=if_pos h
theorem qX{c:Col}(h:¬aH c=0):a_ c=jX:=if_neg h
theorem qZ(c:Col):aH (a_ c)=0:=by
 by_cases h:aH c=0
 ·rw[qY h];exact h
 rw[qX h];exact GL
theorem OC(A:Oa)(n a:Nat)(B:Oa)(m b:Nat)(c:Col)(w:Wv)(h:aY w A n B m c)(hz:aZ c)(he:¬aH c=0):
  Calls prog 60 #[aS A n a B m b c] w (qF jX w):=by
 have B0:By w (w.alloc (.cells #[H A n a,H B m b,I J c.base,I J c.second,I J c.third] 32)):=ba _ _;have X0:Box (w.alloc (.cells #[H A n a,H B m b,I J c.base,I J c.second,I J c.third] 32)) w.heap.size 32 [H A n a,H B m b,I J c.base,I J c.second,I J c.third]:=Box.new w 32 [H A n a,H B m b,I J c.base,I J c.second,I J c.third] rfl;have W0E:∃W0,w.alloc (.cells #[H A n a,H B m b,I J c.base,I J c.second,I J c.third] 32)=W0:=⟨_,rfl⟩;have CK:=G (fun W(hb:By w W)=>oH A n a B m b c W (h.below hb) hz);have hmm:=@run_makeMap prog;clear h hz;generalize aH c=er at *;have q:(er !=0)=true:=by simpa using he
 clear he;unfold aS at *;generalize c.base=u2 at *;generalize c.second=u3 at *;generalize c.third=u4 at *;clear c;go_enter func60,ntmps60;go_wp2_with fail;obtain⟨W0,hW0⟩:=W0E;rw[hW0]at B0 X0|-;clear hW0;have k0:=X0.c 0 rfl;have k1:=X0.c 1 rfl;have k2:=X0.c 2 rfl;have k3:=X0.c 3 rfl;have k4:=X0.c 4 rfl;have hx0:=X0.lt;go_wp2_with fail;with_reducible refine(CK.out W0 B0).mono ?_
 rintro e W1 ⟨rfl,hb1⟩;clear CK k0 k1 k2 k3 k4;have hb2:=B0.trans (hb1.mono B0.size);have X1:=X0.below hb1 hx0;have f0:=X1.free 0;have f1:=X1.free 1;have f2:=X1.free 2;have f3:=X1.free 3;have f4:=X1.free 4;have e0:=X1.c 0 rfl;have e1:=X1.c 1 rfl;have e2:=X1.c 2 rfl;have e3:=X1.c 3 rfl;have e4:=X1.c 4 rfl;have X5:Box (((((W1.setCell ⟨w.heap.size,0,N⟩ (H N 0 0)).setCell ⟨w.heap.size,1,N⟩ (H N 0 0)).setCell ⟨w.heap.size,2,N⟩ (I J 64448)).setCell ⟨w.heap.size,3,N⟩ (I J 32)).setCell ⟨w.heap.size,4,N⟩ (I J 2)) w.heap.size 32 [H N 0 0,H N 0 0,I J 64448,I J 32,I J 2]:=((((X1.set 0 _).set 1 _).set 2 _).set 3 _).set 4 _;have B5:By w (((((W1.setCell ⟨w.heap.size,0,N⟩ (H N 0 0)).setCell ⟨w.heap.size,1,N⟩ (H N 0 0)).setCell ⟨w.heap.size,2,N⟩ (I J 64448)).setCell ⟨w.heap.size,3,N⟩ (I J 32)).setCell ⟨w.heap.size,4,N⟩ (I J 2)):=((((hb2.setCell (by simp) _).setCell (by simp) _).setCell (by simp) _).setCell (by simp) _).setCell (by simp) _;have W5E:∃W5,(((((W1.setCell ⟨w.heap.size,0,N⟩ (H N 0 0)).setCell ⟨w.heap.size,1,N⟩ (H N 0 0)).setCell ⟨w.heap.size,2,N⟩ (I J 64448)).setCell ⟨w.heap.size,3,N⟩ (I J 32)).setCell ⟨w.heap.size,4,N⟩ (I J 2))=W5:=⟨_,rfl⟩;go_upto_region 3 with(fail)
 obtain⟨W5,hW5⟩:=W5E;rw[hW5]at B5 X5|-;clear hW5 f0 f1 f2 f3 f4 e0 e1 e2 e3 e4 X1;have k0:=X5.c 0 rfl;have k1:=X5.c 1 rfl;have k2:=X5.c 2 rfl;have k3:=X5.c 3 rfl;have k4:=X5.c 4 rfl;have hx5:=X5.lt;have hx6:¬w.heap.size=W5.heap.size:=by omega
 have hx7:¬w.heap.size=W5.heap.size+1:=by omega
 have B2:By W5 ((W5.alloc (.map #[] 0)).alloc (.cells #[H N 0 0,H N 0 0,I J 64448,I J 32,I J 2,.map (Z W5.heap.size),I J 0,H N 0 0,I J 0] 167)):=(ba _ _).alloc (by simp) _;have X2:Box ((W5.alloc (.map #[] 0)).alloc (.cells #[H N 0 0,H N 0 0,I J 64448,I J 32,I J 2,.map (Z W5.heap.size),I J 0,H N 0 0,I J 0] 167)) (W5.heap.size+1) 167 (kO N 0 0 N 0 0 jX W5.heap.size (cP jX.ents) (H N 0 0) 0):=Box.new _ _ _ (by simp);have M2:aR prog 169 iI kok ((W5.alloc (.map #[] 0)).alloc (.cells #[H N 0 0,H N 0 0,I J 64448,I J 32,I J 2,.map (Z W5.heap.size),I J 0,H N 0 0,I J 0] 167)) W5.heap.size 0 (fun _=>N):=(aR.made prog _ iI kok W5).alloc _;have W2E:∃W2,((W5.alloc (.map #[] 0)).alloc (.cells #[H N 0 0,H N 0 0,I J 64448,I J 32,I J 2,.map (Z W5.heap.size),I J 0,H N 0 0,I J 0] 167))=W2:=⟨_,rfl⟩;have hsz:=B5.size;go_wp2_with fail;obtain⟨W2,hW2⟩:=W2E;rw[hW2]at B2 X2 M2|-;clear hW2 k0 k1 k2 k3 k4 hmm;have HX2:=G X2;have HM2:=G M2;clear X2 M2;go_loopw [17] (fun u wr=>u=I J 0/\wr=W2) (fun u _=>0-(intOf u).toNat)
 case atStart=>exact⟨rfl,rfl⟩
 obtain⟨rfl,rfl⟩:=hrel;go_wp2_with fail;go_ret;exact⟨_,rfl,by omega,⟨_,_,_,_,_,_,_,_,_,HX2.out,HM2.out,fQ.nil _⟩,B5.trans (B2.mono hsz)⟩
theorem wZ(A:Oa)(n a:Nat)(B:Oa)(m b:Nat)(c:Col)(w:Wv)(h:aY w A n B m c)(hz:aZ c):
  Calls prog 60 #[aS A n a B m b c] w (qF (a_ c) w):=by
 by_cases he:aH c=0
 ·rw[qY he];exact w_ A n a B m b c w h hz he
 rw[qX he];exact OC A n a B m b c w h hz he
end
section
open Go.RowKit
theorem rC{x:Nrm}(compat:Bool){t:Li}(h:∀z∈t,iok z):∀z∈dtx x compat t,iok z:=fun z hz=>((JH (pK x) compat h).1 z hz).1
theorem jZ(x:Nrm)(compat:Bool)(t:Li):(dtx x compat t).length<=64*t.length:=by
 unfold dtx;rw[Can.srt_len];exact vS (pK x) compat t
theorem zY(x:Nrm):Asc (usN x).cls:=by
 unfold usN;split
 ·next h=>exact uI (xH h).1.c
 exact fun i j _ hj=>by simp at hj
end
section
open Go.RowKit Go.Maps Go.WideMaps
end
section
open Go.RowKit
theorem uY:∀xs ys:Li,aA xs ys=-1\/aA xs ys=0\/aA xs ys=1
 | [],[]=>.inr (.inl rfl)
 | [],_::_=>.inl rfl
 |_::_,[]=>.inr (.inr rfl)
 |a::p,b::q=>by
  simp only[aA];split
  ·exact .inl rfl
  split
  ·exact .inr (.inr rfl)
  exact uY p q
theorem mU:∀{xs ys zs:Li},aA xs ys<0->aA ys zs<0->aA xs zs<0
 | [],[],_,h,_=>by simp[aA]at h
 |_::_,[],_,h,_=>by simp[aA]at h
 |_,_::_,[],_,h=>by simp[aA]at h
 | [],_::_,_::_,_,_=>by simp[aA]
 |a::_,b::_,c::_,h1,h2=>by
  simp only[aA]at *;by_cases e1:a<b
  ·by_cases e2:b<c
   ·rw[if_pos (by omega)];omega
   rw[if_neg e2]at h2;by_cases e3:c<b
   ·rw[if_pos e3]at h2;omega
   rw[if_pos (by omega)];omega
  rw[if_neg e1]at h1;by_cases e4:b<a
  ·rw[if_pos e4]at h1;omega
  rw[if_neg e4]at h1;by_cases e2:b<c
  ·rw[if_pos (by omega)];omega
  rw[if_neg e2]at h2;by_cases e3:c<b
  ·rw[if_pos e3]at h2;omega
  rw[if_neg e3]at h2;rw[if_neg (by omega),if_neg (by omega)];exact mU h1 h2
theorem F_(xs:Li):aA xs xs=0:=(lP xs xs).2 rfl
theorem FY{xs ys:Li}(h:aA xs ys<0):xs≠ys:=fun e=>by rw[e,F_]at h;omega
theorem vL{base:Int}{x:Ent}{r:List Ent}{p:Option Ent}(h:dR base (x::r) p=0):bJ base x=0/\(∀y,p=Z y->aA y.codes x.codes<0)/\dR base r (Z x)=0:=by
 unfold dR at h;by_cases h1:bJ base x=0
 ·simp only[h1,ne_eq,not_true_eq_false,if_false]at h
  cases p with
  |none=>exact⟨h1,(fun y e=>by cases e),h⟩
  |some z=>
   simp only at h;split at h
   ·cases h
   next h2=>exact⟨h1,(fun y e=>by injection e with e;subst e;omega),h⟩
 rw[if_pos h1]at h;exact absurd h h1
theorem mX{base:Int}:∀{es:List Ent}{p:Option Ent},dR base es p=0->es.Pairwise (fun x y=>aA x.codes y.codes<0)/\∀y,p=Z y->∀x∈es,aA y.codes x.codes<0
 | [],_,_=>⟨List.Pairwise.nil,fun _ _ _ h=>by cases h⟩
 |x::r,p,h=>by
  obtain⟨_,h1,h2⟩:=vL h;obtain⟨i1,i2⟩:=mX h2;refine⟨List.pairwise_cons.2 ⟨i2 x rfl,i1⟩,fun y hy z hz=>?_⟩;rcases List.mem_cons.1 hz with rfl|hz
  ·exact h1 y hy
  exact mU (h1 y hy) (i2 x rfl z hz)
theorem rY(x:Ent)(r:List Ent)(zs:Li):aC (x::r) zs=match aC r zs with|some e=>Z e|none=>if x.codes=zs then Z x.elems else N:=by
 have:∀(l:List Ent)(q:Option (List Elt)),l.foldl (fun r x=>if x.codes=zs then Z x.elems else r) q=match l.foldl (fun r x=>if x.codes=zs then Z x.elems else r) N with|some e=>Z e|none=>q:=by
  intro l;induction l with
  |nil=>intro q;rfl
  |cons y l ih=>
   intro q;simp only[List.foldl_cons];rw[ih,ih (if y.codes=zs then Z y.elems else N)];split
   ·rfl
   split<;>rfl
 unfold aC;rw[List.foldl_cons,this]
theorem iF{c:Col}(h:aH c=0):cF c.base c.grps=0/\1<=c.base/\c.base<=65502/\(1<=c.second/\c.second<=65535)/\(1<=c.third/\c.third<=65535):=by
 unfold aH at h;split at h
 ·cases h
 next h0=>
 split at h
 ·next h1=>exact absurd h h1
 next h1=>
 have h2:inR 1 65535 c.second=true:=by cases hh:inR 1 65535 c.second<;>simp_all
 have h3:inR 1 65535 c.third=true:=by cases hh:inR 1 65535 c.third<;>simp_all
 exact⟨by simpa using h1,by omega,by omega,jH.1 h2,jH.1 h3⟩
theorem wB{base:Int}{gs:List Grp}(h:cF base gs=0):(gs.map Grp.name).Nodup/\(∀g∈gs,bW g.name=true)/\(∀g∈gs,1<=g.lo/\g.lo<=g.hi/\g.hi<base)/\gap gs=false:=by
 unfold cF at h;split at h
 ·cases h
 next h0=>
 split at h
 ·cases h
 next h1=>
 split at h
 ·cases h
 next h2=>
 split at h
 ·cases h
 next h3=>
 refine⟨by simpa using h1,fun g hg=>?_,fun g hg=>?_,by simpa using h3⟩
 ·simp at h0;exact h0 g hg
 simp at h2;have:=h2 g hg;unfold gD at this;omega
end
namespace Mtc
open Go.RowKit
section
variable {E:Type}{cl:Int->Int}{ent:Li->Option (List E)}{imp:Int->List E}
def partsF(cl:Int->Int)(ent:Li->Option (List E)):Nat->Li->List (Li×Bool)
 |0,_=>[]
 |_+1,[]=>[]
 |f+1,x::t=>((matched cl ent (x::t)).1,(matched cl ent (x::t)).2.2)::partsF cl ent f (matched cl ent (x::t)).2.1
theorem partsF_more:∀(f g:Nat)(t:Li),t.length<=f->t.length<=g->partsF cl ent f t=partsF cl ent g t
 |0,0,t,_,_=>rfl
 |0,g+1,t,h,_=>by
  obtain rfl:t=[]:=List.length_eq_zero_iff.1 (by omega);rfl
 |f+1,0,t,_,h=>by
  obtain rfl:t=[]:=List.length_eq_zero_iff.1 (by omega);rfl
 |f+1,g+1,[],_,_=>rfl
 |f+1,g+1,x::t,h1,h2=>by
  have h:=(matched_len (cl:=cl) (ent:=ent) (t:=x::t) (by simp)).1;unfold partsF;rw[partsF_more f g _ (by omega) (by omega)]
def parts(cl:Int->Int)(ent:Li->Option (List E))(t:Li):List (Li×Bool):=partsF cl ent t.length t
theorem parts_step{t:Li}(h:t≠[]):parts cl ent t=((matched cl ent t).1,(matched cl ent t).2.2)::parts cl ent (matched cl ent t).2.1:=by
 cases t with
 |nil=>exact absurd rfl h
 |cons x t=>
  have hl:=(matched_len (cl:=cl) (ent:=ent) (t:=x::t) (by simp)).1;show((matched cl ent (x::t)).1,(matched cl ent (x::t)).2.2)::partsF cl ent t.length (matched cl ent (x::t)).2.1=_
  rw[partsF_more (cl:=cl) (ent:=ent) t.length (matched cl ent (x::t)).2.1.length (matched cl ent (x::t)).2.1 (by simp at hl;omega) (Nat.le_refl _)];rfl
theorem parts_ind{P:Li->Prop}(cl:Int->Int)(ent:Li->Option (List E))(h0:P [])(h1:∀t,t≠[]->P (matched cl ent t).2.1->P t)(t:Li):P t:=by
 have key:∀(n:Nat)(t:Li),t.length<=n->P t:=by
  intro n;induction n with
  |zero=>intro t h;obtain rfl:t=[]:=List.length_eq_zero_iff.1 (by omega);exact h0
  |succ n ih=>
   intro t h;by_cases ht:t=[]
   ·rw[ht];exact h0
   have:=(matched_len (cl:=cl) (ent:=ent) ht).1;exact h1 t ht (ih _ (by omega))
 exact key t.length t (Nat.le_refl _)
theorem elems_parts(t:Li):elems cl ent imp t=(parts cl ent t).flatMap (fun p=>ofPart ent imp p.1 p.2):=by
 refine parts_ind cl ent (P:=fun t=>elems cl ent imp t=(parts cl ent t).flatMap (fun p=>ofPart ent imp p.1 p.2)) rfl (fun t ht ih=>?_) t;rw[elems_step ht,parts_step ht,List.flatMap_cons,ih]
def known(cl:Int->Int)(ent:Li->Option (List E))(t:Li):Bool:=(parts cl ent t).all (fun p=>p.2)
theorem known_step{t:Li}(h:t≠[]):known cl ent t=((matched cl ent t).2.2&&known cl ent (matched cl ent t).2.1):=by
 unfold known;rw[parts_step h,List.all_cons]
theorem grow_mem:∀(r part left:Li)(hi:Int)(x:Int),x∈(grow cl ent part left hi r).1++(grow cl ent part left hi r).2 ↔ x∈part++left++r
 | [],part,left,hi,x=>by simp[grow]
 |y::r,part,left,hi,x=>by
  unfold grow;split
  ·simp
  split
  ·rw[grow_mem r];simp only[List.mem_append,List.mem_cons,List.not_mem_nil,or_false]
   constructor
   ·rintro(((h|h)|h)|h)<;>simp[h]
   rintro((h|h)|h|h)<;>simp[h]
  rw[grow_mem r];simp only[List.mem_append,List.mem_cons,List.not_mem_nil,or_false];constructor
  ·rintro((h|h|h)|h)<;>simp[h]
  rintro((h|h)|h|h)<;>simp[h]
theorem grow_head:∀(r part left:Li)(hi:Int),part≠[]->(grow cl ent part left hi r).1.head?=part.head?
 | [],part,left,hi,_=>by simp[grow]
 |y::r,part,left,hi,h=>by
  unfold grow;split
  ·rfl
  split
  ·rw[grow_head r _ _ _ (by simp)]
   cases part with
   |nil=>exact absurd rfl h
   |cons a p=>rfl
  rw[grow_head r _ _ _ h]
theorem matched_mem{t:Li}(x:Int):x∈(matched cl ent t).1++(matched cl ent t).2.1 ↔ x∈t:=by
 unfold matched;split
 ·rw[List.take_append_drop]
 rw[grow_mem,List.append_nil,List.take_append_drop]
theorem matched_head{t:Li}(h:t≠[]):(matched cl ent t).1.head?=t.head?:=by
 cases t with
 |nil=>exact absurd rfl h
 |cons x t=>
  unfold matched;split
  ·rfl
  next hz=>
  have hz1:0<sz ent (x::t) (x::t).length:=by omega
  have e:∀n,0<n->((x::t).take n).head?=Z x:=by
   intro n hn;cases n with
   |zero=>omega
   |succ n=>rfl
  dsimp only;rw[grow_head _ _ _ _ (fun h=>by have:=e _ hz1;rw[h]at this;cases this),e _ hz1];rfl
theorem matched_known{t:Li}(h:(matched cl ent t).2.2=true):(ent (matched cl ent t).1).isSome=true:=by
 unfold matched at h|-;split
 ·next hz=>rw[if_pos hz]at h;cases h
 next hz=>exact grow_ent _ _ _ _ (sz_some (by omega))
theorem matched_unknown{t:Li}(h:(matched cl ent t).2.2=false):(matched cl ent t).1=t.take 1:=by
 unfold matched at h|-;split
 ·rfl
 next hz=>rw[if_neg hz]at h;cases h
theorem parts_mem{t:Li}:∀p∈parts cl ent t,p.1≠[]/\(∀x∈p.1,x∈t)/\(p.2=true->(ent p.1).isSome=true)/\(p.2=false->∃x,p.1=[x]):=by
 refine parts_ind cl ent (P:=fun t=>∀p∈parts cl ent t,p.1≠[]/\(∀x∈p.1,x∈t)/\(p.2=true->(ent p.1).isSome=true)/\(p.2=false->∃x,p.1=[x])) (fun p hp=>by cases hp) (fun t ht ih p hp=>?_) t;rw[parts_step ht]at hp;rcases List.mem_cons.1 hp with rfl|hp
 ·refine⟨fun e=>?_,fun x hx=>(matched_mem (cl:=cl) (ent:=ent) x).1 (by simp[hx]),matched_known,fun h=>?_⟩
  ·have h1:=matched_head (cl:=cl) (ent:=ent) ht
   dsimp only at e;rw[e]at h1;cases t with
   |nil=>exact ht rfl
   |cons x t=>cases h1
  rw[matched_unknown h];cases t with
  |nil=>exact absurd rfl ht
  |cons x t=>exact⟨x,rfl⟩
 obtain⟨h1,h2,h3⟩:=ih p hp;exact⟨h1,fun x hx=>(matched_mem (cl:=cl) (ent:=ent) x).1 (by simp[h2 x hx]),h3⟩
variable {F:Type}{ent':Li->Option (List F)}
theorem sz_congr{t:Li}(h:∀k,0<k->k<=t.length->(ent (t.take k)).isSome=(ent' (t.take k)).isSome):∀k,k<=t.length->sz ent t k=sz ent' t k
 |0,_=>rfl
 |k+1,hk=>by
  unfold sz;rw[h (k+1) (by omega) hk,sz_congr h k (by omega)]
theorem grow_congr{x0:Int}(h:∀zs,(ent (x0::zs)).isSome=(ent' (x0::zs)).isSome):∀(r part left:Li)(hi:Int),part.head?=Z x0->grow cl ent part left hi r=grow cl ent' part left hi r
 | [],part,left,hi,_=>by simp[grow]
 |y::r,part,left,hi,hp=>by
  cases part with
  |nil=>cases hp
  |cons a p=>
   injection hp with hp;subst hp;unfold grow;split
   ·rfl
   rw[show(ent (a::p++[y])).isSome=(ent' (a::p++[y])).isSome from h (p++[y])];split
   ·exact grow_congr h r _ _ _ rfl
   exact grow_congr h r _ _ _ rfl
theorem matched_congr{x0:Int}{t:Li}(h:∀zs,(ent (x0::zs)).isSome=(ent' (x0::zs)).isSome):matched cl ent (x0::t)=matched cl ent' (x0::t):=by
 have e:sz ent (x0::t) (x0::t).length=sz ent' (x0::t) (x0::t).length:=sz_congr (fun k h0 _=>by
  cases k with
  |zero=>omega
  | succ k=>rw[List.take_succ_cons];exact h _) _ (Nat.le_refl _)
 unfold matched;rw[e];split
 ·rfl
 next hz=>
 have hh:((x0::t).take (sz ent' (x0::t) (x0::t).length)).head?=Z x0:=by
  cases hs:sz ent' (x0::t) (x0::t).length with
  |zero=>exact absurd hs hz
  |succ n=>rfl
 rw[grow_congr h _ _ _ _ hh]
theorem parts_congr{t:Li}(h:∀x∈t,∀zs,(ent (x::zs)).isSome=(ent' (x::zs)).isSome):parts cl ent t=parts cl ent' t:=by
 refine parts_ind cl ent (P:=fun t=>(∀x∈t,∀zs,(ent (x::zs)).isSome=(ent' (x::zs)).isSome)->parts cl ent t=parts cl ent' t) (fun _=>rfl) (fun t ht ih h=>?_) t h;have e:matched cl ent t=matched cl ent' t:=by
  cases t with
  |nil=>exact absurd rfl ht
  |cons x t=>exact matched_congr (h x (by simp))
 rw[parts_step ht,parts_step ht,ih (fun x hx=>h x ((matched_mem (cl:=cl) (ent:=ent) x).1 (by simp[hx]))),e]
theorem parts_whole{t:Li}(ht:t≠[])(h:(ent t).isSome=true):parts cl ent t=[(t,true)]:=by
 obtain⟨n,hn⟩:∃n,t.length=n+1:=⟨t.length-1,by have:=List.length_pos_iff.2 ht;omega⟩;have hs:sz ent t t.length=t.length:=by
  rw[hn];refine sz_hit ?_;rw[<-hn,List.take_length];exact h
 have hm:matched cl ent t=(t,[],true):=by
  unfold matched;rw[hs,if_neg (by omega),List.take_length,List.drop_length];rfl
 rw[parts_step ht,hm];rfl
end
end Mtc
section
open Go.RowKit Go.Maps Go.WideMaps
def pH:Value->Nat
 | H _ n _=>n
 |_=>0
def aI(x:Nrm)(c:Col)(t:Li):List Elt:=Mtc.elems (cls (usN x).cls) (aC (a_ c).ents) (aO (a_ c)) (dtx x false t)
structure EL(cl:Int->Int)(ent:Li->Option (List Elt))(imp:Int->List Elt)(els:List Elt)(tot:Nat)(b:Nat)(w1:Wv)(t:Li)(A:Oa)(cap:Nat)(E:Oa)(k:Nat)(es:List Elt)(W:Wv):Prop where
 eq:es++Mtc.elems cl ent imp t=els
 own:W.ownsRow w1.heap.size 77 4 (H E es.length k) es.length (aE Elt.cells es)
 gr:w1.grownBy W (Z b)
 bd:es.length+16*t.length<=16*tot
 cp:t.length<=cap
 cm:cap<=9223372036854775807
 row:t≠[]->b<w1.heap.size/\∃off pre post,A=Z ⟨b,off,N⟩/\Row W b off 3 pre post t
 io:∀z∈t,iok z
section
variable {cl:Int->Int}{ent:Li->Option (List Elt)}{imp:Int->List Elt}{els:List Elt}{tot b:Nat}{w1:Wv}{t:Li}{A:Oa}{cap:Nat}{E:Oa}{k:Nat}{es:List Elt}{W:Wv}
theorem EL.own_match(h:EL cl ent imp els tot b w1 t A cap E k es W)(ht:t≠[]){W':Wv}(hg:W.grownBy W' (Z b)):W'.ownsRow w1.heap.size 77 4 (H E es.length k) es.length (aE Elt.cells es):=by
 refine h.own.kept hg ?_;cases E with
 |none=>exact .inl rfl
 |some a=>
  right;intro e;have e':a.block=b:=by injection e
  rcases h.own.2 with⟨hv,_⟩|⟨g,cp,cur,hv,h1,_⟩
  ·cases hv
  injection hv with hv;injection hv with hv;subst hv;have:=(h.row ht).1;dsimp only at e';omega
theorem EL.next(h:EL cl ent imp els tot b w1 t A cap E k es W)(ht:t≠[]){off:Nat}{pre post:Lv}{W' W2:Wv}(hg:W.grownBy W' (Z b))(hp:(Mtc.ofPart ent imp (Mtc.matched cl ent t).1 (Mtc.matched cl ent t).2.2).length<=16)(hrow:A=Z ⟨b,off,N⟩/\Row W' b off 3 pre post ((Mtc.matched cl ent t).1++(Mtc.matched cl ent t).2.1))
  {E':Oa} {k':Nat} (ho:W2.ownsRow w1.heap.size 77 4 (H E' (es.length+(Mtc.ofPart ent imp (Mtc.matched cl ent t).1 (Mtc.matched cl ent t).2.2).length) k') (es.length+(Mtc.ofPart ent imp (Mtc.matched cl ent t).1 (Mtc.matched cl ent t).2.2).length) (aE Elt.cells es++aE Elt.cells (Mtc.ofPart ent imp (Mtc.matched cl ent t).1 (Mtc.matched cl ent t).2.2))) (hb:Below w1.heap.size W' W2) :
  EL cl ent imp els tot b w1 (Mtc.matched cl ent t).2.1 (eA A cap (Mtc.matched cl ent t).1.length) (cap-(Mtc.matched cl ent t).1.length) E' k' (es++Mtc.ofPart ent imp (Mtc.matched cl ent t).1 (Mtc.matched cl ent t).2.2) W2:=by
 obtain⟨hl1,hl2⟩:=Mtc.matched_len (cl:=cl) (ent:=ent) ht;obtain⟨hA,hrow⟩:=hrow;have hcp:=h.cp;have hcm:=h.cm;have hbd:=h.bd;have hmem:=Mtc.matched_mem (cl:=cl) (ent:=ent) (t:=t);have heq:=h.eq;rw[Mtc.elems_step ht,<-List.append_assoc]at heq;have hbl:=(h.row ht).1;have hio:=h.io;have hgr:=h.gr;generalize Mtc.matched cl ent t=mt at *;generalize Mtc.ofPart ent imp mt.1 mt.2.2=l at *;refine⟨heq,by rw[List.length_append,k_];exact ho,v_ (aV hgr hg) hb (Nat.le_refl _),by rw[List.length_append];omega,by omega,by omega,fun hne=>⟨hbl,off+mt.1.length,pre++mt.1.map (Value.int .i64),post,?_,?_⟩,fun z hz=>hio z ((hmem z).1 (by simp[hz]))⟩
 ·have:=List.length_pos_iff.2 hne
  unfold eA;rw[if_neg (by omega),hA,Option.map_some,Addr.add_lit]
 refine⟨by rw[List.length_append,List.length_map,hrow.1],?_⟩;have h2:=(hrow.keep (hb.block b hbl)).2;unfold Blk at h2|-;rw[h2,List.map_append];simp only[List.append_assoc]
theorem EL.first{d:Li}{n:Nat}{wb:Wv}(hA:w1.ownsRow wb.heap.size 3 1 (H A n cap) n (d.map (Value.int .i64)))(hn:d.length=n)(hio:∀z∈d,iok z)(hb:∀g o,A=Z ⟨g,o,N⟩->g=b):EL cl ent imp (Mtc.elems cl ent imp d) d.length b w1 d A cap N 0 [] w1:=by
 refine⟨rfl,World.ownsRow_nil _ _ _ _,aN _ _,by simp,?_,?_,fun hne=>?_,hio⟩
 ·obtain⟨_,_,hv,hc⟩:=fX hA
  injection hv with _ _ hv;subst hv;omega
 ·rcases hA.2 with⟨hv,_⟩|⟨g,cp,cur,hv,_,_,_,h5,_⟩
  ·injection hv with _ _ hv
   omega
  injection hv with _ _ hv;unfold maxLen at h5;omega
 have hpos:=List.length_pos_iff.2 hne;obtain⟨g,post,rfl,h1,h2,h3,h4,h5⟩:=sO hA (by omega);obtain rfl:=hb g 0 rfl;exact⟨h2.lt,0,[],post,rfl,h2⟩
end
theorem yB{c:Col}(h:aH c=0)(p:Li)(q:Bool):(Mtc.ofPart (aC c.ents) (aO c) p q).length<=16:=by
 unfold Mtc.ofPart;split
 ·exact wS h p
 unfold aO;split<;>simp
theorem rD(A0:Oa)(n0 k0:Nat)(A1:Oa)(n1 k1:Nat)(A2:Oa)(n2 k2:Nat)(x:Nrm)(C:Oa)(n a:Nat)(B:Oa)(m b:Nat)(c:Col)(D:Oa)(dn dk:Nat)(t:Li)(w:Wv)(hN:dC w A0 n0 A1 n1 A2 n2 x)(hz:cC x)(hL:cK w)(hC:aY w C n B m c)(hcz:aZ c)(hD:aB w D t)(hn:t.length=dn)(hbig:dn<=16384)(hio:∀z∈t,iok z):
  Calls prog 22 #[.agg #[H A0 n0 k0,H A1 n1 k1,H A2 n2 k2],aS C n a B m b c,H D dn dk] w (mK (aI x c t) w):=by
 subst hn;have B0:By w ((w.alloc (.cells #[H A0 n0 k0,H A1 n1 k1,H A2 n2 k2] 28)).alloc (.cells #[H C n a,H B m b,I J c.base,I J c.second,I J c.third] 32)):=(ba _ _).alloc (by simp) _;have X0:Box ((w.alloc (.cells #[H A0 n0 k0,H A1 n1 k1,H A2 n2 k2] 28)).alloc (.cells #[H C n a,H B m b,I J c.base,I J c.second,I J c.third] 32)) w.heap.size 28 [H A0 n0 k0,H A1 n1 k1,H A2 n2 k2]:=(Box.new w 28 [H A0 n0 k0,H A1 n1 k1,H A2 n2 k2] rfl).below (B:=w.heap.size+1) ((Below.refl _ _).alloc (by simp) _) (by omega);have X1:Box ((w.alloc (.cells #[H A0 n0 k0,H A1 n1 k1,H A2 n2 k2] 28)).alloc (.cells #[H C n a,H B m b,I J c.base,I J c.second,I J c.third] 32)) (w.heap.size+1) 32 [H C n a,H B m b,I J c.base,I J c.second,I J c.third]:=Box.new _ _ _ (by simp);have W0E:∃W0,((w.alloc (.cells #[H A0 n0 k0,H A1 n1 k1,H A2 n2 k2] 28)).alloc (.cells #[H C n a,H B m b,I J c.base,I J c.second,I J c.third] 32))=W0:=⟨_,rfl⟩;have hxi:=rC (x:=x) false hio;have hxl:=jZ x false t;have HE:=U (aI x c t=Mtc.elems (cls (usN x).cls) (aC (a_ c).ents) (aO (a_ c)) (dtx x false t)) rfl;have MC:=G (fun W(hb:By w W)=>wZ C n a B m b c W (hC.below hb) hcz);have WC:=G (fun W T(hb:By w W)hT0 hT=>AI A0 n0 k0 A1 n1 k1 A2 n2 k2 x T (a_ c) w W hN hz hL hb hT0 hT);have DC:=G (fun W(hb:By w W)=>kW A0 n0 k0 A1 n1 k1 A2 n2 k2 x D t.length dk t false W (hN.below hb) hz (hL.below hb) (hD.below hb) rfl hbig hio);have hcv:=qZ c;have PL:=G (yB hcv);have hce:=tL hcv;have hcb:=(iF hcv).2;have hcs:=hz.us.z0;have hca:=zY x;clear hN hz hL hC hcz hD hio hcv;generalize aI x c t=els at *;generalize dtx x false t=d at *;generalize (usN x).cls=cs at *;unfold aS at *;go_enter func22,ntmps22;go_wp2_with fail;obtain⟨W0,hW0⟩:=W0E;try rw[hW0]at B0 X0 X1|-
 clear hW0;have p00:=X0.c 0 rfl;have p01:=X0.c 1 rfl;have p02:=X0.c 2 rfl;have p10:=X1.c 0 rfl;have p11:=X1.c 1 rfl;have p12:=X1.c 2 rfl;have p13:=X1.c 3 rfl;have p14:=X1.c 4 rfl;have l0:=X0.lt;have l1:=X1.lt;have SH:=G (fun W'(hb':By W0 W')=>show W'.cell? ⟨w.heap.size,0,N⟩=Z (H A0 n0 k0)/\W'.cell? ⟨w.heap.size,1,N⟩=Z (H A1 n1 k1)/\W'.cell? ⟨w.heap.size,2,N⟩=Z (H A2 n2 k2)/\W'.cell? ⟨w.heap.size+1,0,N⟩=Z (H C n a)/\W'.cell? ⟨w.heap.size+1,1,N⟩=Z (H B m b)/\W'.cell? ⟨w.heap.size+1,2,N⟩=Z (I J c.base)/\W'.cell? ⟨w.heap.size+1,3,N⟩=Z (I J c.second)/\W'.cell? ⟨w.heap.size+1,4,N⟩=Z (I J c.third)/\By W0 W' from⟨(hb'.cell l0).trans p00,(hb'.cell l0).trans p01,(hb'.cell l0).trans p02,(hb'.cell l1).trans p10,(hb'.cell l1).trans p11,(hb'.cell l1).trans p12,(hb'.cell l1).trans p13,(hb'.cell l1).trans p14,hb'⟩);have TM:=G (fun W(hb':By W0 W)=>(MC.out W (B0.trans (hb'.mono B0.size))).mono (R':=fun e W'=>∃v,e=.returned v/\(W'.cell? ⟨w.heap.size,0,N⟩=Z (H A0 n0 k0)/\W'.cell? ⟨w.heap.size,1,N⟩=Z (H A1 n1 k1)/\W'.cell? ⟨w.heap.size,2,N⟩=Z (H A2 n2 k2)/\W'.cell? ⟨w.heap.size+1,0,N⟩=Z (H C n a)/\W'.cell? ⟨w.heap.size+1,1,N⟩=Z (H B m b)/\W'.cell? ⟨w.heap.size+1,2,N⟩=Z (I J c.base)/\W'.cell? ⟨w.heap.size+1,3,N⟩=Z (I J c.second)/\W'.cell? ⟨w.heap.size+1,4,N⟩=Z (I J c.third)/\By W0 W')/\(∃T,v=.pointer (Z ⟨T,0,N⟩)/\W.heap.size<=T/\dE W' T (a_ c) (H N 0 0) 0)) (fun e W'⟨T,he,g1,g2,g3⟩=>⟨_,he,SH.out W' (hb'.trans (g3.mono hb'.size)),T,rfl,g1,g2⟩));clear p00 p01 p02 p10 p11 p12 p13 p14;refine wp_region_held_drew (S:=fun W'=>W'.cell? ⟨w.heap.size,0,N⟩=Z (H A0 n0 k0)/\W'.cell? ⟨w.heap.size,1,N⟩=Z (H A1 n1 k1)/\W'.cell? ⟨w.heap.size,2,N⟩=Z (H A2 n2 k2)/\W'.cell? ⟨w.heap.size+1,0,N⟩=Z (H C n a)/\W'.cell? ⟨w.heap.size+1,1,N⟩=Z (H B m b)/\W'.cell? ⟨w.heap.size+1,2,N⟩=Z (I J c.base)/\W'.cell? ⟨w.heap.size+1,3,N⟩=Z (I J c.second)/\W'.cell? ⟨w.heap.size+1,4,N⟩=Z (I J c.third)/\By W0 W') (by kernel_rfl) (SH.out _ ((Below.refl _ _).drew)) (fun hHeld=>?_);refine tK 0 13 ?_;refine tK 2 15 ?_;refine qE 1 14 (TM.out _ hHeld.2.2.2.2.2.2.2.2) ?_;clear hHeld;rintro _ W1 hHeld ⟨T,rfl,hT0,hTab⟩;have TW:=G ((WC.out W1 T (B0.trans (hHeld.2.2.2.2.2.2.2.2.mono B0.size)) (by have:=B0.size;have:W0.heap.size<=T:=hT0;omega) hTab).mono (R':=fun e W'=>∃v,e=.returned v/\(W'.cell? ⟨w.heap.size,0,N⟩=Z (H A0 n0 k0)/\W'.cell? ⟨w.heap.size,1,N⟩=Z (H A1 n1 k1)/\W'.cell? ⟨w.heap.size,2,N⟩=Z (H A2 n2 k2)/\W'.cell? ⟨w.heap.size+1,0,N⟩=Z (H C n a)/\W'.cell? ⟨w.heap.size+1,1,N⟩=Z (H B m b)/\W'.cell? ⟨w.heap.size+1,2,N⟩=Z (I J c.base)/\W'.cell? ⟨w.heap.size+1,3,N⟩=Z (I J c.second)/\W'.cell? ⟨w.heap.size+1,4,N⟩=Z (I J c.third)/\By W0 W')/\(v=.pointer (Z ⟨T,0,N⟩)/\(∃A k,dE W' T (a_ c) (H A cs.length k) (eP cs)/\bD W' A cs))) (fun e W'⟨he,h2,h3⟩=>⟨_,he,SH.out W' (hHeld.2.2.2.2.2.2.2.2.trans (jB h3 (show W0.heap.size<=T from hT0) hHeld.2.2.2.2.2.2.2.2.size)),rfl,h2⟩));refine qE 3 16 (TW.out) ?_;clear hHeld;rintro _ W2 hHeld ⟨rfl,AX,kX,hTab2,hSp2⟩;refine tK 4 7 ?_;refine wpAnyH_done (by kernel_rfl) ?_ _;have hb2:=hHeld.2.2.2.2.2.2.2.2;have hbw2:=B0.trans (hb2.mono B0.size);have q00:=hHeld.1;have q01:=hHeld.2.1;have q02:=hHeld.2.2.1;have HT:=G hTab2;have HS:=G hSp2;have KD:=G (DC.out W2 hbw2);have hbd:=hbw2.size;clear hHeld SH TM TW WC MC hTab hTab2 hSp2 DC;go_wp2_with fail;with_reducible refine KD.out.mono ?_
 rintro e W3 ⟨E0,d0,rfl,hown,hb3⟩;have HM:=U (∀b,W2.heap.size<=b->pS T (a_ c) cs AX kX b W2) (fun b hb=>⟨HT.out,HS.out,hb,hca,by omega,hce,⟨hcb.1,hcb.2.1⟩⟩)
 obtain⟨bq,hbq,HBQ⟩:∃bq,W2.heap.size<=bq/\∀g o,E0=Z ⟨g,o,N⟩->g=bq:=by
  cases E0 with
  |none=>exact⟨_,Nat.le_refl _,fun g o h=>by cases h⟩
  |some ad=>
   rcases hown.2 with⟨hv,_⟩|⟨g,cp,cur,hv,h1,_⟩
   ·cases hv
   injection hv with hv;injection hv with hv;subst hv;exact⟨g,h1,fun g' o h=>by injection h with h;injection h with h1 h2;exact h1.symm⟩
 have HF:=G (EL.first (cl:=cls cs) (ent:=aC (a_ c).ents) (imp:=aO (a_ c)) hown rfl hxi HBQ);rw[<-HE.out]at HF;have MT:=G (HM.out bq hbq);clear HM HBQ hown KD q00 q01 q02 HT HS;go_wp2_with fail;go_loopw [8,9] (fun u v wr=>∃(t':Li)(A':Oa)(cap':Nat)(E':Oa)(k':Nat)(es:List Elt),u=H E' es.length k'/\v=H A' t'.length cap'/\EL (cls cs) (aC (a_ c).ents) (aO (a_ c)) els d.length bq W3 t' A' cap' E' k' es wr) (fun _ v _=>pH v)
 case atStart=>exact⟨d,E0,d0,N,0,[],rfl,rfl,HF.out⟩
 obtain⟨t',A',cap',E',k',es,rfl,rfl,hel⟩:=hrel;have HL:=G hel;have hcp:=hel.cp;have hcm:=hel.cm;have hbd2:=hel.bd;have hwsz:=hel.gr.size;have hwr:By W2 wr:=hb3.trans (jB hel.gr hbq hb3.size);by_cases hne:t'=[]
 ·have hes:=hel.eq
  rw[hne,Mtc.elems_nil,List.append_nil]at hes;have hlt:t'.length=0:=by rw[hne];rfl
  have HO:=G hel.own;have hbb:=hbw2.trans (hwr.mono hbw2.size);have h3:=hb3.size;clear hel HL;subst hne;subst hes;go_wp2_with fail;go_ret;exact⟨E',k',rfl,gZ HO.out (by omega),hbb⟩
 have hpos:=List.length_pos_iff.2 hne;obtain⟨hbl,off,pre,post,rfl,hrow⟩:=hel.row hne;have TC:=G (zR T (a_ c) cs AX kX bq off cap' pre post t' W2 wr MT.out hwr hrow hne (by omega) hcp hcm hel.io);have ML:=Mtc.matched_len (cl:=cls cs) (ent:=aC (a_ c).ents) hne;have hpl:=PL.out (Mtc.matched (cls cs) (aC (a_ c).ents) t').1 (Mtc.matched (cls cs) (aC (a_ c).ents) t').2.2;have OM:=G (fun W' hg=>hel.own_match hne (W':=W') hg);have NX:=G (fun(W' W2:Wv) (off:Nat) (pre post:Lv) hg hrow (E2:Oa) (k2:Nat) ho hb=>HL.out.next hne (off:=off) (pre:=pre) (post:=post) (W':=W') (W2:=W2) hg hpl hrow (E':=E2) (k':=k2) ho hb);unfold nX pY at TC;have hlt:decide ((0:Int)<(t'.length:Int))=true:=by simpa using hpos
 clear hel HL hrow;generalize hmt:Mtc.matched (cls cs) (aC (a_ c).ents) t'=mt at *;clear hmt;generalize hpt:Mtc.ofPart (aC (a_ c).ents) (aO (a_ c)) mt.1 mt.2.2=pt at *;clear hpt;obtain⟨m1,m2,mk⟩:=mt;dsimp only at *;have hcut:=fun(W:Wv)=>yV (Z ⟨bq,off,N⟩) t'.length cap' m1.length (by omega) W
 go_wp2_with fail;with_reducible refine TC.out.mono ?_
 rintro e W4 ⟨E4,d4,rfl,hE4,hrow4,hg4⟩;have HO4:=G (OM.out W4 hg4);have HE4:=G hE4;have HN4:=G (fun W2=>NX.out W4 W2 off pre post hg4 ⟨rfl,hrow4⟩);have h34:W3.heap.size<=W4.heap.size:=Nat.le_trans hwsz hg4.size;clear hE4 hrow4 hg4 OM NX TC;go_wp2_with(at_builtin;refine cJ _ _ 54 77 (.agg #[I J 0,I J 0,I J 0,.bool false]) 4 32 rfl rfl underlying54 wE rfl (by decide) (by decide) rfl HO4.out rfl HE4.out (gE Elt.cells 4 (fun _=>rfl) _) (xT _) (by omega) h34 ?_;intro B5 k5 w5 hown5 hc5 hb5 hg5 hB5);have HL5:=G (HN4.out w5 B5 k5 hown5 hb5);clear hown5 hb5 hg5 hB5 HN4 HO4 HE4;go_wp2_with fail;go_roundw
 case rel=>exact⟨m2,_,_,B5,k5,es++pt,by rw[List.length_append],by rw[show t'.length-m1.length=m2.length by omega],HL5.out⟩
 simp[pH];omega
end
section
open Go.RowKit
def RvK(d d':Li)(i:Nat):Prop:=d'.length=d.length/\∀k,k<d.length->d'[k]?=if k<i\/d.length-1-k<i then d[d.length-1-k]? else d[k]?
theorem RvK.zero(d:Li):RvK d d 0:=⟨rfl,fun k _=>by rw[if_neg (by omega)]⟩
theorem RvK.done{d d':Li}{i:Nat}(h:RvK d d' i)(hi:d.length<=2*i+1)(_h2:2*i<=d.length):d'=d.reverse:=by
 refine List.ext_getElem? fun k=>?_
 by_cases hk:k<d.length
 ·rw[h.2 k hk,List.getElem?_reverse hk]
  split
  ·rfl
  congr 1;omega
 rw[List.getElem?_eq_none (by rw[h.1];omega),List.getElem?_eq_none (by rw[List.length_reverse];omega)]
theorem RvK.step{d d':Li}{i j:Nat}(h:RvK d d' i)(hij:i<j)(hj:j=d.length-1-i)(h2:2*i<=d.length){x y:Int}(hx:d'[i]?=Z x)(hy:d'[j]?=Z y):RvK d ((d'.set i y).set j x) (i+1):=by
 have hl:=h.1;have hx':=h.2 i (by omega);have hy':=h.2 j (by omega);rw[if_neg (by omega)]at hx' hy';refine⟨by simp[hl],fun k hk=>?_⟩;rw[List.getElem?_set,List.length_set,hl];by_cases e1:j=k
 ·subst e1
  rw[if_pos rfl,if_pos (by omega),if_pos (by omega),<-hx,hx'];congr 1;omega
 rw[if_neg e1,List.getElem?_set,hl];by_cases e2:i=k
 ·subst e2
  rw[if_pos rfl,if_pos (by omega),if_pos (by omega),<-hy,hy'];congr 1
 rw[if_neg e2,h.2 k hk];by_cases c:k<i\/d.length-1-k<i
 ·rw[if_pos c,if_pos (by omega)]
 rw[if_neg c,if_neg (by omega)]
theorem R_(A:Oa)(c:Nat)(w:Wv):Calls prog 133 #[H A 0 c] w (fun e w'=>e=.returned (.tuple #[])/\w=w'):=by
 go_enter func133,ntmps133;go_wp2_with fail;go_loopw [2,3] (fun u v wr=>u=I J 0/\v=I J (-1)/\wr=w) (fun u _ _=>0-(intOf u).toNat)
 case atStart=>exact⟨rfl,rfl,rfl⟩
 obtain⟨rfl,rfl,rfl⟩:=hrel;go_wp2_with fail;go_end0;exact⟨rfl,rfl⟩
theorem SI(b off c:Nat)(pre post:Lv)(d:Li)(w:Wv)(h:Row w b off 3 pre post d)(hpos:0<d.length)(hbig:d.length<=1099511627776):
  Calls prog 133 #[H (Z ⟨b,off,N⟩) d.length c] w (fun e w'=>e=.returned (.tuple #[])/\Row w' b off 3 pre post d.reverse/\w.grownBy w' (Z b)):=by
 have HR:=G h;clear h;have h0:(d.length:Int)-1=((d.length-1:Nat):Int):=by omega
 go_enter func133,ntmps133;go_wp2_with fail;clear h0;go_loopw [2,3] (fun u v wr=>∃(i j:Nat)(d':Li),2*i<=d.length/\j=d.length-1-i/\u=I J i/\v=I J j/\RvK d d' i/\Row wr b off 3 pre post d'/\w.grownBy wr (Z b)) (fun u _ _=>d.length-(intOf u).toNat)
 case atStart=>exact⟨0,d.length-1,d,by omega,by omega,rfl,rfl,RvK.zero d,HR.out,aN _ _⟩
 obtain⟨i,j,d',hi,hj,rfl,rfl,hk,hr,hg⟩:=hrel;have HJ:=G hj;have hj1:j<=d.length-1-i:=by omega
 have hj2:d.length-1-i<=j:=by omega
 clear hj;have HK:=G hk;have HRr:=G hr;have HL:=G hk.1;clear hk hr;by_cases hij:i<j
 ·have hil:i<d'.length:=by rw[HL.out];omega
  have hjl:j<d'.length:=by rw[HL.out];omega
  have ci:=HRr.out.cell (List.getElem?_eq_getElem hil);have cj:=HRr.out.cell (List.getElem?_eq_getElem hjl);have fi:=HRr.out.frozen (off+i);have fj:=HRr.out.frozen (off+j);have HS:=G (HK.out.step hij HJ.out hi (List.getElem?_eq_getElem hil) (List.getElem?_eq_getElem hjl));have HW:=G (fun(x y:Int)=>show Row ((wr.setCell ⟨b,off+i,N⟩ (I J y)).setCell ⟨b,off+j,N⟩ (I J x)) b off 3 pre post ((d'.set i y).set j x)from(HRr.out.set hil y).set (by rw[List.length_set];exact hjl) x)
  have HW2:=G (fun(x y:Int)=>show Row ((wr.setCell ⟨b,off+j,N⟩ (I J x)).setCell ⟨b,off+i,N⟩ (I J y)) b off 3 pre post ((d'.set i y).set j x)from by
   have e:(d'.set i y).set j x=(d'.set j x).set i y:=List.set_comm _ _ (by omega)
   rw[e]
   exact(HRr.out.set hjl x).set (by rw[List.length_set];exact hil) y)
  generalize d'[i]=x at *;generalize d'[j]=y at *;have hne:¬off+i=off+j:=by omega
  have hne2:¬off+j=off+i:=by omega
  clear hil hjl;go_wp2_with fail;go_region
  all_goals
   go_wp2_with fail;go_roundw
   case rel=>
    first
     |exact⟨i+1,j-1,_,by omega,by omega,by go_num,by go_num,HS.out,(HW.out x y).drew,dO (aV (aV hg (bT _ _ _)) (bT _ _ _))⟩
     |exact⟨i+1,j-1,_,by omega,by omega,by go_num,by go_num,HS.out,(HW2.out x y).drew,dO (aV (aV hg (bT _ _ _)) (bT _ _ _))⟩
   simp[intOf];omega
 have HD:=G (HK.out.done (by omega) hi);go_wp2_with fail;go_end0;exact⟨rfl,by rw[<-HD.out];exact HRr.out,hg⟩
theorem SF(A:Oa)(n c base:Nat)(d:Li)(w:Wv)(h:w.ownsRow base 3 1 (H A n c) n (d.map (Value.int .i64)))(hn:d.length=n)(hbig:n<=1099511627776):
  Calls prog 133 #[H A n c] w (fun e w'=>e=.returned (.tuple #[])/\w'.ownsRow base 3 1 (H A n c) n (d.reverse.map (Value.int .i64))/\w.grownBy w' (Value.ownBlock (H A n c))):=by
 by_cases hz:n=0
 ·subst hz
  obtain rfl:d=[]:=List.length_eq_zero_iff.1 hn;exact(R_ A c w).mono (fun e w'⟨he,hw⟩=>⟨he,by rw[<-hw];exact h,by rw[<-hw];exact aN _ _⟩)
 obtain⟨g,post,rfl,h1,h2,h3,h4,h5⟩:=sO h (by omega);subst hn;exact(SI g 0 c [] post d w h2 (by omega) hbig).mono (fun e w'⟨he,hr,hg⟩=>⟨he,yT hr h1 (by simp) h4 h5,hg⟩)
def mC(o:Opt):Int:=if o.st<1\/4<o.st then 1 else if o.va=1\/o.va=2\/o.va=3 then 0 else 8
theorem QK(o:Opt):mC o=0 ↔ jJ o=true:=by
 unfold mC jJ;simp;split
 ·omega
 split<;>omega
theorem UO(o:Opt)(w:Wv):Calls prog 131 #[.agg #[I J o.st,I J o.va,.bool o.bk,.bool o.idn]] w (fun e w'=>e=.returned (I J (mC o))/\By w w'):=by
 obtain⟨st,va,bk,idn⟩:=o;have HE:=U (mC ⟨st,va,bk,idn⟩=if st<1\/4<st then 1 else if va=1\/va=2\/va=3 then 0 else 8) rfl;generalize mC ⟨st,va,bk,idn⟩=r at *;have B0:By w (w.alloc (.cells #[I J st,I J va,.bool bk,.bool idn] 62)):=ba _ _;dsimp only;go_enter func131,ntmps131;by_cases h1:st<1
 ·have d1:decide (st<1)=true:=by simpa using h1
  obtain rfl:r=1:=by rw[HE.out,if_pos (.inl h1)]
  clear HE;go_wp2_with fail;go_ret;exact⟨rfl,B0⟩
 have d1:decide (st<1)=false:=by simpa using h1
 by_cases h2:4<st
 ·have d2:decide (4<st)=true:=by simpa using h2
  obtain rfl:r=1:=by rw[HE.out,if_pos (.inr h2)]
  clear HE;go_wp2_with fail;go_ret;exact⟨rfl,B0⟩
 have d2:decide (4<st)=false:=by simpa using h2
 have HF:=U (r=if va=1\/va=2\/va=3 then 0 else 8) (by rw[HE.out,if_neg (by omega)]);clear HE;by_cases h3:va=1
 ·have d3:(va==1)=true:=by simpa using h3
  obtain rfl:r=0:=by rw[HF.out,if_pos (.inl h3)]
  clear HF h3;go_wp2_with fail;go_ret;exact⟨rfl,B0⟩
 have d3:(va==1)=false:=by simpa using h3
 by_cases h4:va=2
 ·have d4:(va==2)=true:=by simpa using h4
  obtain rfl:r=0:=by rw[HF.out,if_pos (.inr (.inl h4))]
  clear HF h3 h4;go_wp2_with fail;go_ret;exact⟨rfl,B0⟩
 have d4:(va==2)=false:=by simpa using h4
 by_cases h5:va=3
 ·have d5:(va==3)=true:=by simpa using h5
  obtain rfl:r=0:=by rw[HF.out,if_pos (.inr (.inr h5))]
  clear HF h3 h4 h5;go_wp2_with fail;go_ret;exact⟨rfl,B0⟩
 have d5:(va==3)=false:=by simpa using h5
 obtain rfl:r=8:=by rw[HF.out,if_neg (by omega)]
 clear HF h3 h4 h5;go_wp2_with fail;go_ret;exact⟨rfl,B0⟩
end
end Go.Proofs.YtkhmjidaeliccaaGreatDoor
