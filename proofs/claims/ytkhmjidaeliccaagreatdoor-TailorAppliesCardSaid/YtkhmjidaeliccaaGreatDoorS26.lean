import Derived.Test.YtkhmjidaeliccaaGreatDoorS25
import Derived.Deep.Slices
import Derived.ProofKit
import Derived.OpenShut
import Derived.ShutString
import Derived.Test.YtkhmjidaeliccaaGreatDoorRows
import Derived.Deep.DeepHandedRow
import Derived.Lib.LaidTab
set_option maxRecDepth 100000
set_option maxHeartbeats 51200000
namespace Go.Proofs.YtkhmjidaeliccaaGreatDoor
open Option renaming none->N,some->Z
open Value renaming int->I,slice->H
open IntKind renaming i64->J
open Go.Proofs.Tryz
section
open Go.RowKit Go.Maps Go.WideMaps Tl Pa
theorem pZ{k j:Nat}{fn:Func}(hr:fn.results=#[.cell k 32,.cell j 47])(tmps:Array Value)(w:Wv){b d:Nat}{v0 v1 v2 v3 v4 y0 y1:Value}(ha:tmps.getD k undef=.pointer (Z ⟨b,0,N⟩))(hd:tmps.getD j undef=.pointer (Z ⟨d,0,N⟩))
  (c0:w.cell? ⟨b,0,N⟩=Z v0) (c1:w.cell? ⟨b,1,N⟩=Z v1) (c2:w.cell? ⟨b,2,N⟩=Z v2) (c3:w.cell? ⟨b,3,N⟩=Z v3) (c4:w.cell? ⟨b,4,N⟩=Z v4) (d0:w.cell? ⟨d,0,N⟩=Z y0) (d1:w.cell? ⟨d,1,N⟩=Z y1) :
  (results fn tmps).run prog w=.ok (.tuple #[.agg #[v0,v1,v2,v3,v4],.agg #[y0,y1]]) w:=by
 unfold results;rw[hr];simp only[ha,hd,List.mapM_toArray,List.mapM_cons,List.mapM_nil,asAddr];go_simp
def qV(r:Int×Int×Col)(w:Wv)(e:Ending)(w':Wv):Prop:=∃A a B b,e=.returned (.tuple #[aJ A r.2.2.ents.length a B r.2.2.grps.length b r.2.2,.agg #[I J r.1,I J r.2.1]])/\aO w' A r.2.2.ents.length B r.2.2.grps.length r.2.2/\By w w'
structure ApS(w W0:Wv)(x:Nrm)(l:List Tlr)(r:Int×Int×Col)(n m i:Nat)(wr:Wv)(A:Oa)(a:Nat)(B:Oa)(b:Nat)(c:Col):Prop where
 eq:e_ x c (l.drop i) i=r
 box:Box wr (w.heap.size+1) 32 [H A c.ents.length a,H B c.grps.length b,I J c.base,I J c.second,I J c.third]
 fr:gB W0.heap.size wr A B c
 sz:aQ c
 n:c.ents.length<=n+i
 m:c.grps.length=m
 b:By w wr
 ch:Chg (λq=>q=w.heap.size+1) W0 wr
theorem vX(A0:Oa)(n0 k0:Nat)(A1:Oa)(n1 k1:Nat)(A2:Oa)(n2 k2:Nat)(x:Nrm)(C:Oa)(n a:Nat)(B:Oa)(m b:Nat)(c:Col)(K:Oa)(k:Nat)(l:List Tlr)(w:Wv)(hN:cB w A0 n0 A1 n1 A2 n2 x)(hz:cZ x)(hL:dX w)(hC:aO w C n B m c)(hcz:aQ c)(hK:fU w K l)
  (hts:∀t∈l,t.anc.length<=1024/\t.cds.length<=1024/\(∀z∈t.anc,iok z)/\∀z∈t.cds,iok z) (hgn:n+l.length<=1048576) :
  Calls prog 17 #[.agg #[H A0 n0 k0,H A1 n1 k1,H A2 n2 k2],aJ C n a B m b c,H K l.length k] w (qV (e_ x c l 0) w):=by
 have B0:By w ((((w.alloc (.cells #[H A0 n0 k0,H A1 n1 k1,H A2 n2 k2] 28)).alloc (.cells #[H C n a,H B m b,I J c.base,I J c.second,I J c.third] 32)).alloc (.cells #[H none 0 0,H none 0 0,I J 0,I J 0,I J 0] 32)).alloc (.cells #[I J 0,I J 0] 47)):=(((ba _ _).alloc L _).alloc oT_ _).alloc oT_ _;have X0:Box ((((w.alloc (.cells #[H A0 n0 k0,H A1 n1 k1,H A2 n2 k2] 28)).alloc (.cells #[H C n a,H B m b,I J c.base,I J c.second,I J c.third] 32)).alloc (.cells #[H none 0 0,H none 0 0,I J 0,I J 0,I J 0] 32)).alloc (.cells #[I J 0,I J 0] 47)) w.heap.size 28 [H A0 n0 k0,H A1 n1 k1,H A2 n2 k2]:=(((Box.new w 28 [H A0 n0 k0,H A1 n1 k1,H A2 n2 k2] rfl).below (ba _ _) L).below (ba _ _) oT_).below (ba _ _) oT_;have X1:Box ((((w.alloc (.cells #[H A0 n0 k0,H A1 n1 k1,H A2 n2 k2] 28)).alloc (.cells #[H C n a,H B m b,I J c.base,I J c.second,I J c.third] 32)).alloc (.cells #[H none 0 0,H none 0 0,I J 0,I J 0,I J 0] 32)).alloc (.cells #[I J 0,I J 0] 47)) (w.heap.size+1) 32 [H C n a,H B m b,I J c.base,I J c.second,I J c.third]:=((Box.new (w.alloc (.cells #[H A0 n0 k0,H A1 n1 k1,H A2 n2 k2] 28)) 32 [H C n a,H B m b,I J c.base,I J c.second,I J c.third] L).below (ba _ _) L).below (ba _ _) oT_;have X2:Box ((((w.alloc (.cells #[H A0 n0 k0,H A1 n1 k1,H A2 n2 k2] 28)).alloc (.cells #[H C n a,H B m b,I J c.base,I J c.second,I J c.third] 32)).alloc (.cells #[H none 0 0,H none 0 0,I J 0,I J 0,I J 0] 32)).alloc (.cells #[I J 0,I J 0] 47)) (w.heap.size+2) 32 [H none 0 0,H none 0 0,I J 0,I J 0,I J 0]:=(Box.new ((w.alloc (.cells #[H A0 n0 k0,H A1 n1 k1,H A2 n2 k2] 28)).alloc (.cells #[H C n a,H B m b,I J c.base,I J c.second,I J c.third] 32)) 32 [H none 0 0,H none 0 0,I J 0,I J 0,I J 0] L).below (ba _ _) L;have X3:Box ((((w.alloc (.cells #[H A0 n0 k0,H A1 n1 k1,H A2 n2 k2] 28)).alloc (.cells #[H C n a,H B m b,I J c.base,I J c.second,I J c.third] 32)).alloc (.cells #[H none 0 0,H none 0 0,I J 0,I J 0,I J 0] 32)).alloc (.cells #[I J 0,I J 0] 47)) (w.heap.size+3) 47 [I J 0,I J 0]:=Box.new (((w.alloc (.cells #[H A0 n0 k0,H A1 n1 k1,H A2 n2 k2] 28)).alloc (.cells #[H C n a,H B m b,I J c.base,I J c.second,I J c.third] 32)).alloc (.cells #[H none 0 0,H none 0 0,I J 0,I J 0,I J 0] 32)) 47 [I J 0,I J 0] L;have dw:∃X,((((w.alloc (.cells #[H A0 n0 k0,H A1 n1 k1,H A2 n2 k2] 28)).alloc (.cells #[H C n a,H B m b,I J c.base,I J c.second,I J c.third] 32)).alloc (.cells #[H none 0 0,H none 0 0,I J 0,I J 0,I J 0] 32)).alloc (.cells #[I J 0,I J 0] 47))=X:=⟨_,rfl⟩;have K6:=G (λW(hb:By w W)=>xB C n a B m b c W (hC.below hb) hcz);have KS:=G (λW(hb:By w W)A a B b(c:Col)P pk Q qk(t:Tlr)(hC:aO W A c.ents.length B c.grps.length c)(hcz:aQ c)(hP:aA W P t.anc)(hQ:aA W Q t.cds)(h:t.anc.length<=1024/\t.cds.length<=1024/\(∀z∈t.anc,iok z)/\∀z∈t.cds,iok z)=>DX A0 n0 k0 A1 n1 k1 A2 n2 k2 x A c.ents.length a B c.grps.length b c P pk Q qk t W (hN.below hb) hz (hL.below hb) hC hcz hP hQ O O h.2.2.1 h.2.2.2 (by have:=sJ x c t.anc;omega));have HT:=G (λW(hb:By w W)=>hK.below hb);unfold rG at KS;unfold oO at K6;unfold aJ at KS K6|-;have bp:=G hts;have cd:=G hcz;have cw:=hC.hn;have cv:=hC.hm;have ff:=hcz.m;obtain⟨r,hr⟩:=exQ (e_ x c l 0);have HR:=G hr;have ds:=G cw;have cc:=G cv;rw[hr];clear hr hN hC hL hz hcz hK hts cw cv;go_enter func17,ntmps17;go_upto_region 1 with(fail)
 obtain⟨X,cy⟩:=dw;try rw[cy]at B0 X0 X1 X2 X3|-
 clear cy;have l0:=X0.lt;have l1:=X1.lt;have l2:=X2.lt;have l3:=X3.lt;have cb:=G B0;have dv:=G X0;have cn:=G X1;have co:=G X2;have aw:=G X3;have fi:=B0.size;clear X0 X1 X2 X3 B0;obtain⟨c0,c1,j,c3,c4⟩:=cn.o.k5;have C6:=G (K6.o X cb.o);clear K6;go_wp2_with fail;refine C6.o.mono ?_
 rintro e Y ⟨A',a',B',b',base,zz,fp,rfl,c8,da,-,c7,db,dc,ar⟩;clear C6 c0 c1 j c3 c4;have cg:=MQ c8 da db dc c7.hs;have V:=bb cn.o ar;have es:=ar.size;obtain⟨g0,g1,g2,g3,g4⟩:=V.k5;obtain⟨f0,f1,f2,f3,f4⟩:=V.f5;have CH:Chg (λq=>q=w.heap.size+1) Y (((((Y.setCell ⟨w.heap.size+1,0,none⟩ (H A' c.ents.length a')).setCell ⟨w.heap.size+1,1,none⟩ (H B' c.grps.length b')).setCell ⟨w.heap.size+1,2,none⟩ (I J c.base)).setCell ⟨w.heap.size+1,3,none⟩ (I J c.second)).setCell ⟨w.heap.size+1,4,none⟩ (I J c.third)):=Chg.of_grown (aC (p:=⟨w.heap.size+1,4,none⟩) (aC (p:=⟨w.heap.size+1,3,none⟩) (aC (p:=⟨w.heap.size+1,2,none⟩) (aC (p:=⟨w.heap.size+1,1,none⟩) (aC (p:=⟨w.heap.size+1,0,none⟩) (aP Y _) _) _) _) _) _) (λq e=>(Option.some.inj e).symm);have XC:Box (((((Y.setCell ⟨w.heap.size+1,0,none⟩ (H A' c.ents.length a')).setCell ⟨w.heap.size+1,1,none⟩ (H B' c.grps.length b')).setCell ⟨w.heap.size+1,2,none⟩ (I J c.base)).setCell ⟨w.heap.size+1,3,none⟩ (I J c.second)).setCell ⟨w.heap.size+1,4,none⟩ (I J c.third)) (w.heap.size+1) 32 [H A' c.ents.length a',H B' c.grps.length b',I J c.base,I J c.second,I J c.third]:=(((((V.set 0 (H A' c.ents.length a')).set 1 (H B' c.grps.length b')).set 2 (I J c.base)).set 3 (I J c.second)).set 4 (I J c.third));have BC:By w (((((Y.setCell ⟨w.heap.size+1,0,none⟩ (H A' c.ents.length a')).setCell ⟨w.heap.size+1,1,none⟩ (H B' c.grps.length b')).setCell ⟨w.heap.size+1,2,none⟩ (I J c.base)).setCell ⟨w.heap.size+1,3,none⟩ (I J c.second)).setCell ⟨w.heap.size+1,4,none⟩ (I J c.third)):=(tb cb.o ar).trans (Chg.below CH (n:=w.heap.size) O (λk(hk:k=w.heap.size+1)=>O));have FC:=cg.chg CH (λq(hq:q=w.heap.size+1)=>O);have CC:Chg (λq=>q=w.heap.size+1) X (((((Y.setCell ⟨w.heap.size+1,0,none⟩ (H A' c.ents.length a')).setCell ⟨w.heap.size+1,1,none⟩ (H B' c.grps.length b')).setCell ⟨w.heap.size+1,2,none⟩ (I J c.base)).setCell ⟨w.heap.size+1,3,none⟩ (I J c.second)).setCell ⟨w.heap.size+1,4,none⟩ (I J c.third)):=(Chg.of_below ar).trans CH;have dx:∃Wc,(((((Y.setCell ⟨w.heap.size+1,0,none⟩ (H A' c.ents.length a')).setCell ⟨w.heap.size+1,1,none⟩ (H B' c.grps.length b')).setCell ⟨w.heap.size+1,2,none⟩ (I J c.base)).setCell ⟨w.heap.size+1,3,none⟩ (I J c.second)).setCell ⟨w.heap.size+1,4,none⟩ (I J c.third))=Wc:=⟨_,rfl⟩;clear c8 da c7 db dc CH cg ar V;go_upto_region 2 with(fail)
 obtain⟨Wc,c5⟩:=dx;rw[c5]at XC BC FC CC|-;clear c5 f0 f1 f2 f3 f4 g0 g1 g2 g3 g4;have ck:=U (ApS w X x l r n m 0 Wc A' a' B' b' c) (⟨by rw[List.drop_zero];exact HR.o,XC,FC,cd.o,by have:=ds.o;omega,cc.o,BC,CC⟩);clear XC BC FC CC HR cd;go_wp2;go_loopw [15] (λu wr=>∃i:Nat,i<=l.length/\u=I J i/\∃A a B b c,ApS w X x l r n m i wr A a B b c) (λu _=>l.length-(intOf u).toNat)
 case atStart=>exact⟨0,Nat.zero_le _,rfl,_,_,_,_,_,ck.o⟩
 as_aux_lemma=>
 obtain⟨i,hi,rfl,A,a,B,b,c,hS⟩:=hrel;have v:=G hS;have d9:=hS.b.size;have fe:=hS.ch.size;have s1:=hS.box;clear hS ck;by_cases hlt:i<l.length
 ·obtain⟨kb,ko,rfl,fg,c6⟩:=(HT.o wr v.o.b).at hlt
  obtain⟨P,pk,Q,qk,t0,t1,t2,t3,hP,hQ⟩:=c6 i hlt;have bo:=U (r=if(cO x c l[i]).1≠0 then((cO x c l[i]).1,(i:Int),col0)else e_ x (cO x c l[i]).2 (l.drop (i+1)) (i+1)) (by rw[<-v.o.eq,vW hlt]);have cm:=G (bp.o _ (List.getElem_mem hlt));clear c6;generalize l[i]=t at *;have XA:Box (wr.alloc (.cells #[H P t.anc.length pk,H Q t.cds.length qk,I J t.lvl,.bool t.bef] 35)) wr.heap.size 35 [H P t.anc.length pk,H Q t.cds.length qk,I J t.lvl,.bool t.bef]:=Box.new wr 35 [H P t.anc.length pk,H Q t.cds.length qk,I J t.lvl,.bool t.bef] rfl;have T:By wr (wr.alloc (.cells #[H P t.anc.length pk,H Q t.cds.length qk,I J t.lvl,.bool t.bef] 35)):=ba _ _;have br:∃Wa,wr.alloc (.cells #[H P t.anc.length pk,H Q t.cds.length qk,I J t.lvl,.bool t.bef] 35)=Wa:=⟨_,rfl⟩;have am:=hP.below T;have an:=hQ.below T;obtain⟨pn,bw⟩:=exQ (t.anc.length);obtain⟨qn,bx⟩:=exQ (t.cds.length);have ax:=λW hb A a B b c hC hcz hP hQ h=>KS.o W hb A a B b c P pk Q qk t hC hcz hP hQ h
  rw[bw]at t0 XA T br ax am an;rw[bx]at t1 XA T br ax am an;have ch:=G ax;have ci:=G bw;have cj:=G bx;clear bw bx ax hP hQ;go_upto_region 6 with(fail)
  obtain⟨Wa,cz⟩:=br;rw[cz]at XA T am an|-;clear cz t0 t1 t2 t3 s1;have a1:=v.o.box.below T v.o.box.lt;have a0:=(v.o.ch.box dv.o (λ(e:w.heap.size=w.heap.size+1)=>O)).below T O;have a2:=(v.o.ch.box co.o (λ(e:w.heap.size+2=w.heap.size+1)=>O)).below T O;have a3:=(v.o.ch.box aw.o (λ(e:w.heap.size+3=w.heap.size+1)=>O)).below T O;obtain⟨d0,d1,d2,d3,d4⟩:=a1.k5;obtain⟨e0,e1,e2⟩:=a0.k3;obtain⟨h0,h1,h2,h3⟩:=XA.k4;have bv:=v.o.b.trans (T.mono d9);have KC:=G (ch.o Wa bv A a B b c (v.o.fr.below T).here v.o.sz (by have:=ci.o;subst this;exact am) (by have:=cj.o;subst this;exact an) (by have h:=cm.o;rw[ci.o,cj.o]at h;exact h));have dm:=G a1;have dn:=G a2;have dp:=G a3;have dq:=G bv;have dr:=G (v.o.ch.trans (Chg.of_below T));have cl:=G (λh=>qF (x:=x) (c:=c) (t:=t) h);have fj:=T.size;have fh:=a3.lt;clear a1 a2 a3 a0 bv T XA ch am an KS cm bp;generalize cO x c t=sv at *;obtain⟨en,j⟩:=sv;go_wp2_with fail;refine KC.o.mono ?_
  (try dsimp only);rintro e W2 ⟨A2,a2,B2,b2,rfl,-,c9,M⟩;clear KC d0 d1 d2 d3 d4 e0 e1 e2 h0 h1 h2 h3;have et:=M.size;have y1:=bb dm.o M;have y2:=bb dn.o M;have y3:=bb dp.o M;obtain⟨g0,g1,g2,g3,g4⟩:=y1.k5;obtain⟨f0,f1,f2,f3,f4⟩:=y1.f5;have CH:Chg (λq=>q=w.heap.size+1) W2 (((((W2.setCell ⟨w.heap.size+1,0,none⟩ (H A2 j.ents.length a2)).setCell ⟨w.heap.size+1,1,none⟩ (H B2 j.grps.length b2)).setCell ⟨w.heap.size+1,2,none⟩ (I J j.base)).setCell ⟨w.heap.size+1,3,none⟩ (I J j.second)).setCell ⟨w.heap.size+1,4,none⟩ (I J j.third)):=Chg.of_grown (aC (p:=⟨w.heap.size+1,4,none⟩) (aC (p:=⟨w.heap.size+1,3,none⟩) (aC (p:=⟨w.heap.size+1,2,none⟩) (aC (p:=⟨w.heap.size+1,1,none⟩) (aC (p:=⟨w.heap.size+1,0,none⟩) (aP W2 _) _) _) _) _) _) (λq e=>(Option.some.inj e).symm);have XD:Box (((((W2.setCell ⟨w.heap.size+1,0,none⟩ (H A2 j.ents.length a2)).setCell ⟨w.heap.size+1,1,none⟩ (H B2 j.grps.length b2)).setCell ⟨w.heap.size+1,2,none⟩ (I J j.base)).setCell ⟨w.heap.size+1,3,none⟩ (I J j.second)).setCell ⟨w.heap.size+1,4,none⟩ (I J j.third)) (w.heap.size+1) 32 [H A2 j.ents.length a2,H B2 j.grps.length b2,I J j.base,I J j.second,I J j.third]:=(((((y1.set 0 (H A2 j.ents.length a2)).set 1 (H B2 j.grps.length b2)).set 2 (I J j.base)).set 3 (I J j.second)).set 4 (I J j.third));have BD:By w (((((W2.setCell ⟨w.heap.size+1,0,none⟩ (H A2 j.ents.length a2)).setCell ⟨w.heap.size+1,1,none⟩ (H B2 j.grps.length b2)).setCell ⟨w.heap.size+1,2,none⟩ (I J j.base)).setCell ⟨w.heap.size+1,3,none⟩ (I J j.second)).setCell ⟨w.heap.size+1,4,none⟩ (I J j.third)):=(tb dq.o M).trans (Chg.below CH (n:=w.heap.size) O (λk(hk:k=w.heap.size+1)=>O));have FD:=gB.low (gB.chg (N:=Wa.heap.size) c9 CH (λq(hq:q=w.heap.size+1)=>O)) (by omega:X.heap.size<=Wa.heap.size);have CD:Chg (λq=>q=w.heap.size+1) X (((((W2.setCell ⟨w.heap.size+1,0,none⟩ (H A2 j.ents.length a2)).setCell ⟨w.heap.size+1,1,none⟩ (H B2 j.grps.length b2)).setCell ⟨w.heap.size+1,2,none⟩ (I J j.base)).setCell ⟨w.heap.size+1,3,none⟩ (I J j.second)).setCell ⟨w.heap.size+1,4,none⟩ (I J j.third)):=(dr.o.trans (Chg.of_below M)).trans CH;have Y2:=CH.box y2 (λ(e:w.heap.size+2=w.heap.size+1)=>O);have y:=CH.box y3 (λ(e:w.heap.size+3=w.heap.size+1)=>O);have cr:∃Wd,(((((W2.setCell ⟨w.heap.size+1,0,none⟩ (H A2 j.ents.length a2)).setCell ⟨w.heap.size+1,1,none⟩ (H B2 j.grps.length b2)).setCell ⟨w.heap.size+1,2,none⟩ (I J j.base)).setCell ⟨w.heap.size+1,3,none⟩ (I J j.second)).setCell ⟨w.heap.size+1,4,none⟩ (I J j.third))=Wd:=⟨_,rfl⟩;have ai:=G XD;have ad:=G BD;have ag:=G FD;have af:=G CD;have o:=G Y2;have s:=G y;have av:=G cr;clear c9 M CH y1 y2 y3 XD BD FD CD Y2 y cr;by_cases q1:en=0
  ·subst q1
   have ce:=U (e_ x j (l.drop (i+1)) (i+1)=r) (by rw[bo.o,if_neg L]);go_upto_region 7 with(fail)
   obtain⟨Wd,ao⟩:=av.o;rw[ao]at ai ad ag af o s|-;clear ao f0 f1 f2 f3 f4 g0 g1 g2 g3 g4 av;obtain⟨z1,z2,z3⟩:=cl.o oQ_;(try dsimp only at z1 z2 z3);have du:=U (ApS w X x l r n m (i+1) Wd A2 a2 B2 b2 j) (⟨ce.o,ai.o,ag.o,sG z3 (by have:=v.o.n;omega) (by have:=v.o.m;have:=cc.o;omega),by have:=v.o.n;omega,by have:=v.o.m;omega,ad.o,af.o⟩);clear ai ad ag af z1 z2 z3;go_wp2;go_roundw
   case rel=>exact⟨i+1,O,oN_,_,_,_,_,_,du.o⟩
   (try simp[intOf])<;>(try omega)
  have q2:(en !=0)=true:=by simp[q1]
  have HE:=U (r=(en,(i:Int),col0)) (by rw[bo.o,if_pos q1]);clear q1 cl bo;go_upto_region 7 with(fail)
  obtain⟨Wd,ao⟩:=av.o;rw[ao]at ai ad ag af o s|-;clear ao f0 f1 f2 f3 f4 g0 g1 g2 g3 g4 av;have Y2:=o.o;have y:=s.o;have BD:=ad.o;clear o s ai ag af;obtain⟨g,S⟩:=exQ (w.heap.size+1+1+1);rw[S];obtain⟨f,R⟩:=exQ (w.heap.size+1+1);rw[R];have V2:Box Wd f 32 [H none 0 0,H none 0 0,I J 0,I J 0,I J 0]:=by rw[<-R];exact Y2
  have V3:Box Wd g 47 [I J 0,I J 0]:=by rw[<-S];exact y
  have d7:w.heap.size<=f:=O;have d8:w.heap.size<=g:=O;have bt:¬f=g:=O;have bu:¬g=f:=O;have bz:f<X.heap.size/\g<X.heap.size:=by have:=aw.o.lt;omega
  clear Y2 y R S;obtain⟨f0,f1,f2,f3,f4⟩:=V2.f5;obtain⟨g0,g1,g2,g3,g4⟩:=V2.k5;have C1:Chg (λq=>q=f) Wd (((((Wd.setCell ⟨f,0,none⟩ (H none 0 0)).setCell ⟨f,1,none⟩ (H none 0 0)).setCell ⟨f,2,none⟩ (I J 0)).setCell ⟨f,3,none⟩ (I J 0)).setCell ⟨f,4,none⟩ (I J 0)):=Chg.of_grown (aC (p:=⟨f,4,none⟩) (aC (p:=⟨f,3,none⟩) (aC (p:=⟨f,2,none⟩) (aC (p:=⟨f,1,none⟩) (aC (p:=⟨f,0,none⟩) (aP Wd _) _) _) _) _) _) (λq e=>(Option.some.inj e).symm);have Z2:Box (((((Wd.setCell ⟨f,0,none⟩ (H none 0 0)).setCell ⟨f,1,none⟩ (H none 0 0)).setCell ⟨f,2,none⟩ (I J 0)).setCell ⟨f,3,none⟩ (I J 0)).setCell ⟨f,4,none⟩ (I J 0)) f 32 [H none 0 0,H none 0 0,I J 0,I J 0,I J 0]:=(((((V2.set 0 (H none 0 0)).set 1 (H none 0 0)).set 2 (I J 0)).set 3 (I J 0)).set 4 (I J 0));have aj:=U (∃F,(((((Wd.setCell ⟨f,0,none⟩ (H none 0 0)).setCell ⟨f,1,none⟩ (H none 0 0)).setCell ⟨f,2,none⟩ (I J 0)).setCell ⟨f,3,none⟩ (I J 0)).setCell ⟨f,4,none⟩ (I J 0))=F) (⟨_,rfl⟩);have D:=G C1;have E:=G Z2;have ah:=G V3;clear C1 Z2 V2 V3;go_upto_region 8 with(fail)
  go_step;go_step;go_step;go_step;go_step;go_step;go_step;go_step;go_step;go_step;go_step;go_step;go_step;go_step;go_step;go_step;go_step;obtain⟨F,aq⟩:=aj.o;rw[aq]at D E|-;clear aq aj f0 g0 f1 g1 f2 g2 f3 g3 f4 g4;have y:=D.o.box ah.o (λ(e:g=f)=>bu e);obtain⟨p0,p1⟩:=y.f2;obtain⟨q0,q1⟩:=y.k2;have l2:=E.o.lt;have l3:=y.lt;have C2:Chg (λq=>q=g) F ((F.setCell ⟨g,0,none⟩ (I J en)).setCell ⟨g,1,none⟩ (I J (i:Int))):=Chg.of_grown (aC (p:=⟨g,1,none⟩) (aC (p:=⟨g,0,none⟩) (aP F _) _) _) (λq e=>(Option.some.inj e).symm);have Z2:=C2.box E.o (λ(e:f=g)=>bt e);have Z3:Box ((F.setCell ⟨g,0,none⟩ (I J en)).setCell ⟨g,1,none⟩ (I J (i:Int))) g 47 [I J en,I J (i:Int)]:=((y.set 0 (I J en)).set 1 (I J (i:Int)));have CA:Chg (λq=>q=f\/q=g) Wd ((F.setCell ⟨g,0,none⟩ (I J en)).setCell ⟨g,1,none⟩ (I J (i:Int))):=(D.o.mono (λ_ _ e=>.inl e)).trans (C2.mono (λ_ _ e=>.inr e));have BF:By w ((F.setCell ⟨g,0,none⟩ (I J en)).setCell ⟨g,1,none⟩ (I J (i:Int))):=BD.trans (Chg.below CA (n:=w.heap.size) BD.size (λk(hk:k=f\/k=g)=>O));have bs:=U (∃Y,((F.setCell ⟨g,0,none⟩ (I J en)).setCell ⟨g,1,none⟩ (I J (i:Int)))=Y) (⟨_,rfl⟩);have o:=G Z2;have s:=G Z3;have ae:=G BF;clear C2 CA Z2 Z3 BF BD y D E ah bz;go_wp2_with fail;obtain⟨Y,ap⟩:=bs.o;try rw[ap]at o s ae|-
  clear ap;obtain⟨z0,z1,z2,z3,z4⟩:=o.o.k5;obtain⟨y0,y1⟩:=s.o.k2;(try simp only[Exit.inBlock,Exit.then]);refine bodyPost_ret (pZ rfl _ _ (b:=f) (d:=g) rfl rfl z0 z1 z2 z3 z4 y0 y1) rfl ?_;rw[HE.o];exact⟨none,0,none,0,rfl,fX _,ae.o⟩
 obtain rfl:i=l.length:=O;have HE:=U (r=(0,0,c)) (by rw[<-v.o.eq,vV]);have Y2:=v.o.ch.box co.o (λ(e:w.heap.size+2=w.heap.size+1)=>O);have y:=v.o.ch.box aw.o (λ(e:w.heap.size+3=w.heap.size+1)=>O);have FD:=v.o.fr;have BD:=v.o.b;obtain⟨d0,d1,d2,d3,d4⟩:=s1.k5;clear s1 HT bp KS;obtain⟨g,S⟩:=exQ (w.heap.size+1+1+1);rw[S];obtain⟨f,R⟩:=exQ (w.heap.size+1+1);rw[R];have V2:Box wr f 32 [H none 0 0,H none 0 0,I J 0,I J 0,I J 0]:=by rw[<-R];exact Y2
 have V3:Box wr g 47 [I J 0,I J 0]:=by rw[<-S];exact y
 have d7:w.heap.size<=f:=O;have d8:w.heap.size<=g:=O;have bt:¬f=g:=O;have bu:¬g=f:=O;have bz:f<X.heap.size/\g<X.heap.size:=by have:=aw.o.lt;omega
 clear Y2 y R S;obtain⟨f0,f1,f2,f3,f4⟩:=V2.f5;obtain⟨g0,g1,g2,g3,g4⟩:=V2.k5;have C1:Chg (λq=>q=f) wr (((((wr.setCell ⟨f,0,none⟩ (H A c.ents.length a)).setCell ⟨f,1,none⟩ (H B c.grps.length b)).setCell ⟨f,2,none⟩ (I J c.base)).setCell ⟨f,3,none⟩ (I J c.second)).setCell ⟨f,4,none⟩ (I J c.third)):=Chg.of_grown (aC (p:=⟨f,4,none⟩) (aC (p:=⟨f,3,none⟩) (aC (p:=⟨f,2,none⟩) (aC (p:=⟨f,1,none⟩) (aC (p:=⟨f,0,none⟩) (aP wr _) _) _) _) _) _) (λq e=>(Option.some.inj e).symm);have Z2:Box (((((wr.setCell ⟨f,0,none⟩ (H A c.ents.length a)).setCell ⟨f,1,none⟩ (H B c.grps.length b)).setCell ⟨f,2,none⟩ (I J c.base)).setCell ⟨f,3,none⟩ (I J c.second)).setCell ⟨f,4,none⟩ (I J c.third)) f 32 [H A c.ents.length a,H B c.grps.length b,I J c.base,I J c.second,I J c.third]:=(((((V2.set 0 (H A c.ents.length a)).set 1 (H B c.grps.length b)).set 2 (I J c.base)).set 3 (I J c.second)).set 4 (I J c.third));have aj:=U (∃F,(((((wr.setCell ⟨f,0,none⟩ (H A c.ents.length a)).setCell ⟨f,1,none⟩ (H B c.grps.length b)).setCell ⟨f,2,none⟩ (I J c.base)).setCell ⟨f,3,none⟩ (I J c.second)).setCell ⟨f,4,none⟩ (I J c.third))=F) (⟨_,rfl⟩);have D:=G C1;have E:=G Z2;have ah:=G V3;clear C1 Z2 V2 V3;go_upto_region 10 with(fail)
 go_step;go_step;go_step;go_step;go_step;go_step;go_step;go_step;go_step;go_step;go_step;obtain⟨F,aq⟩:=aj.o;rw[aq]at D E|-;clear aq aj f0 g0 f1 g1 f2 g2 f3 g3 f4 g4;have y:=D.o.box ah.o (λ(e:g=f)=>bu e);obtain⟨p0,p1⟩:=y.f2;obtain⟨q0,q1⟩:=y.k2;have l2:=E.o.lt;have l3:=y.lt;have C2:Chg (λq=>q=g) F ((F.setCell ⟨g,0,none⟩ (I J 0)).setCell ⟨g,1,none⟩ (I J 0)):=Chg.of_grown (aC (p:=⟨g,1,none⟩) (aC (p:=⟨g,0,none⟩) (aP F _) _) _) (λq e=>(Option.some.inj e).symm);have Z2:=C2.box E.o (λ(e:f=g)=>bt e);have Z3:Box ((F.setCell ⟨g,0,none⟩ (I J 0)).setCell ⟨g,1,none⟩ (I J 0)) g 47 [I J 0,I J 0]:=((y.set 0 (I J 0)).set 1 (I J 0));have CA:Chg (λq=>q=f\/q=g) wr ((F.setCell ⟨g,0,none⟩ (I J 0)).setCell ⟨g,1,none⟩ (I J 0)):=(D.o.mono (λ_ _ e=>.inl e)).trans (C2.mono (λ_ _ e=>.inr e));have BF:By w ((F.setCell ⟨g,0,none⟩ (I J 0)).setCell ⟨g,1,none⟩ (I J 0)):=BD.trans (Chg.below CA (n:=w.heap.size) BD.size (λk(hk:k=f\/k=g)=>O));have FF:=(FD.chg CA (λq(hq:q=f\/q=g)=>O)).here;have bs:=U (∃Y,((F.setCell ⟨g,0,none⟩ (I J 0)).setCell ⟨g,1,none⟩ (I J 0))=Y) (⟨_,rfl⟩);have o:=G Z2;have s:=G Z3;have ae:=G BF;have cf:=G FF;clear FF FD;clear C2 CA Z2 Z3 BF BD y D E ah bz;go_wp2_with fail;obtain⟨Y,ap⟩:=bs.o;try rw[ap]at o s ae cf|-
 clear ap;obtain⟨z0,z1,z2,z3,z4⟩:=o.o.k5;obtain⟨y0,y1⟩:=s.o.k2;(try simp only[Exit.inBlock,Exit.then]);refine bodyPost_ret (pZ rfl _ _ (b:=f) (d:=g) rfl rfl z0 z1 z2 z3 z4 y0 y1) rfl ?_;rw[HE.o];exact⟨_,_,_,_,rfl,cf.o,ae.o⟩
def jI:Col:=⟨[⟨[97],[⟨16,32,2,false⟩]⟩,⟨[99],[⟨17,32,2,false⟩]⟩],[],100,32,2⟩
theorem ZN:aQ jI:=by
 refine⟨λi hi=>?_,by simp[jI],by simp[jI]⟩;have:i=0\/i=1:=by simp[jI]at hi;omega
 rcases this with rfl|rfl<;>simp[jI]
def vF(c:Col)(w:Wv)(e:Ending)(w':Wv):Prop:=∃A a B b,e=.returned (aJ A c.ents.length a B c.grps.length b c)/\aO w' A c.ents.length B c.grps.length c/\By w w'
theorem oI{q:Nat}{cs:Lv}{W:Wv}(h:Sl W (Z ⟨q,0,N⟩) cs)(p:Addr)(hp:p.block≠q)(v:Value):Sl (W.setCell p v) (Z ⟨q,0,N⟩) cs:=
 Sl.stored h p (λ_ q' hq=>by have:=Option.some.inj (show Z q=Z q' from hq);omega) v
theorem YJ(w:Wv):Calls prog 33 #[] w (vF jI w):=by
 have d:=hU_ (Box (((w.alloc (.cells #[H N 0 0,H N 0 0,I J 0,I J 0,I J 0] 32)).alloc (.cells #[I J 16,I J 32,I J 2,.bool false] 77)).alloc (.cells #[I J 17,I J 32,I J 2,.bool false] 77)) w.heap.size 32 [H N 0 0,H N 0 0,I J 0,I J 0,I J 0]) (((Box.new w 32 [H N 0 0,H N 0 0,I J 0,I J 0,I J 0] rfl).below (ba _ _) L).below (ba _ _) oT_);have e:=hU_ (Box (((w.alloc (.cells #[H N 0 0,H N 0 0,I J 0,I J 0,I J 0] 32)).alloc (.cells #[I J 16,I J 32,I J 2,.bool false] 77)).alloc (.cells #[I J 17,I J 32,I J 2,.bool false] 77)) (w.heap.size+1) 77 [I J 16,I J 32,I J 2,.bool false]) ((Box.new (w.alloc (.cells #[H N 0 0,H N 0 0,I J 0,I J 0,I J 0] 32)) 77 [I J 16,I J 32,I J 2,.bool false] L).below (ba _ _) L);have f:=hU_ (Box (((w.alloc (.cells #[H N 0 0,H N 0 0,I J 0,I J 0,I J 0] 32)).alloc (.cells #[I J 16,I J 32,I J 2,.bool false] 77)).alloc (.cells #[I J 17,I J 32,I J 2,.bool false] 77)) (w.heap.size+2) 77 [I J 17,I J 32,I J 2,.bool false]) (Box.new ((w.alloc (.cells #[H N 0 0,H N 0 0,I J 0,I J 0,I J 0] 32)).alloc (.cells #[I J 16,I J 32,I J 2,.bool false] 77)) 77 [I J 17,I J 32,I J 2,.bool false] L);have B:=hU_ (By w (((w.alloc (.cells #[H N 0 0,H N 0 0,I J 0,I J 0,I J 0] 32)).alloc (.cells #[I J 16,I J 32,I J 2,.bool false] 77)).alloc (.cells #[I J 17,I J 32,I J 2,.bool false] 77))) (((ba _ _).alloc L _).alloc oT_ _);have WE:=hU_ (∃V,(((w.alloc (.cells #[H N 0 0,H N 0 0,I J 0,I J 0,I J 0] 32)).alloc (.cells #[I J 16,I J 32,I J 2,.bool false] 77)).alloc (.cells #[I J 17,I J 32,I J 2,.bool false] 77))=V) (⟨_,rfl⟩);go_enter func33,ntmps33;go_upto_region 2 with(fail)
 obtain⟨V,R⟩:=WE.o;rw[R]at d e f B|-;clear R;have l0:=d.o.lt;have l1:=e.o.lt;have l2:=f.o.lt;obtain⟨a0,a1,a2,a3⟩:=e.o.k4;obtain⟨b0,b1,b2,b3⟩:=f.o.k4;go_step;go_step;go_step;go_step;go_step;go_step;go_step;go_step;go_step;go_step;go_step;go_step;go_step;go_step;go_step;go_step;go_step;go_step;go_step;go_step;go_step;go_step;go_step;go_step;go_step;go_step;go_step;go_step;go_step;go_step;go_step;go_step;clear a0 a1 a2 a3 b0 b1 b2 b3;have c:∀(W:Wv)(o:Obj),By W (W.alloc o):=λW o=>ba _ _
 have S:Sl (V.alloc (.cells #[I J 97] 3)) (Z ⟨V.heap.size,0,N⟩) [I J 97]:=bI V [I J 97] 3 rfl;have T:Sl ((V.alloc (.cells #[I J 97] 3)).alloc (.cells #[I J 16,I J 32,I J 2,.bool false] 77)) (Z ⟨V.heap.size+1,0,N⟩) [I J 16,I J 32,I J 2,.bool false]:=bI (V.alloc (.cells #[I J 97] 3)) [I J 16,I J 32,I J 2,.bool false] 77 L;have X:Sl (((V.alloc (.cells #[I J 97] 3)).alloc (.cells #[I J 16,I J 32,I J 2,.bool false] 77)).alloc (.cells #[I J 99] 3)) (Z ⟨V.heap.size+1+1,0,N⟩) [I J 99]:=bI ((V.alloc (.cells #[I J 97] 3)).alloc (.cells #[I J 16,I J 32,I J 2,.bool false] 77)) [I J 99] 3 L;have Y:Sl ((((V.alloc (.cells #[I J 97] 3)).alloc (.cells #[I J 16,I J 32,I J 2,.bool false] 77)).alloc (.cells #[I J 99] 3)).alloc (.cells #[I J 17,I J 32,I J 2,.bool false] 77)) (Z ⟨V.heap.size+1+1+1,0,N⟩) [I J 17,I J 32,I J 2,.bool false]:=bI (((V.alloc (.cells #[I J 97] 3)).alloc (.cells #[I J 16,I J 32,I J 2,.bool false] 77)).alloc (.cells #[I J 99] 3)) [I J 17,I J 32,I J 2,.bool false] 77 L;have z:Sl (((((V.alloc (.cells #[I J 97] 3)).alloc (.cells #[I J 16,I J 32,I J 2,.bool false] 77)).alloc (.cells #[I J 99] 3)).alloc (.cells #[I J 17,I J 32,I J 2,.bool false] 77)).alloc (.cells #[H (Z ⟨V.heap.size,0,N⟩) 1 1,H (Z ⟨V.heap.size+1,0,N⟩) 1 1,H (Z ⟨V.heap.size+1+1,0,N⟩) 1 1,H (Z ⟨V.heap.size+1+1+1,0,N⟩) 1 1] 75)) (Z ⟨V.heap.size+1+1+1+1,0,N⟩) [H (Z ⟨V.heap.size,0,N⟩) 1 1,H (Z ⟨V.heap.size+1,0,N⟩) 1 1,H (Z ⟨V.heap.size+1+1,0,N⟩) 1 1,H (Z ⟨V.heap.size+1+1+1,0,N⟩) 1 1]:=bI ((((V.alloc (.cells #[I J 97] 3)).alloc (.cells #[I J 16,I J 32,I J 2,.bool false] 77)).alloc (.cells #[I J 99] 3)).alloc (.cells #[I J 17,I J 32,I J 2,.bool false] 77)) [H (Z ⟨V.heap.size,0,N⟩) 1 1,H (Z ⟨V.heap.size+1,0,N⟩) 1 1,H (Z ⟨V.heap.size+1+1,0,N⟩) 1 1,H (Z ⟨V.heap.size+1+1+1,0,N⟩) 1 1] 75 L;have n:By V (((((V.alloc (.cells #[I J 97] 3)).alloc (.cells #[I J 16,I J 32,I J 2,.bool false] 77)).alloc (.cells #[I J 99] 3)).alloc (.cells #[I J 17,I J 32,I J 2,.bool false] 77)).alloc (.cells #[H (Z ⟨V.heap.size,0,N⟩) 1 1,H (Z ⟨V.heap.size+1,0,N⟩) 1 1,H (Z ⟨V.heap.size+1+1,0,N⟩) 1 1,H (Z ⟨V.heap.size+1+1+1,0,N⟩) 1 1] 75)):=((((ba _ _).alloc L _).alloc oT_ _).alloc oT_ _).alloc oT_ _;have t:=(((S.below (c _ _)).below (c _ _)).below (c _ _)).below (c ((((V.alloc (.cells #[I J 97] 3)).alloc (.cells #[I J 16,I J 32,I J 2,.bool false] 77)).alloc (.cells #[I J 99] 3)).alloc (.cells #[I J 17,I J 32,I J 2,.bool false] 77)) (.cells #[H (Z ⟨V.heap.size,0,N⟩) 1 1,H (Z ⟨V.heap.size+1,0,N⟩) 1 1,H (Z ⟨V.heap.size+1+1,0,N⟩) 1 1,H (Z ⟨V.heap.size+1+1+1,0,N⟩) 1 1] 75));have v:=((T.below (c _ _)).below (c _ _)).below (c ((((V.alloc (.cells #[I J 97] 3)).alloc (.cells #[I J 16,I J 32,I J 2,.bool false] 77)).alloc (.cells #[I J 99] 3)).alloc (.cells #[I J 17,I J 32,I J 2,.bool false] 77)) (.cells #[H (Z ⟨V.heap.size,0,N⟩) 1 1,H (Z ⟨V.heap.size+1,0,N⟩) 1 1,H (Z ⟨V.heap.size+1+1,0,N⟩) 1 1,H (Z ⟨V.heap.size+1+1+1,0,N⟩) 1 1] 75));have x:=(X.below (c _ _)).below (c ((((V.alloc (.cells #[I J 97] 3)).alloc (.cells #[I J 16,I J 32,I J 2,.bool false] 77)).alloc (.cells #[I J 99] 3)).alloc (.cells #[I J 17,I J 32,I J 2,.bool false] 77)) (.cells #[H (Z ⟨V.heap.size,0,N⟩) 1 1,H (Z ⟨V.heap.size+1,0,N⟩) 1 1,H (Z ⟨V.heap.size+1+1,0,N⟩) 1 1,H (Z ⟨V.heap.size+1+1+1,0,N⟩) 1 1] 75));have y:=Y.below (c ((((V.alloc (.cells #[I J 97] 3)).alloc (.cells #[I J 16,I J 32,I J 2,.bool false] 77)).alloc (.cells #[I J 99] 3)).alloc (.cells #[I J 17,I J 32,I J 2,.bool false] 77)) (.cells #[H (Z ⟨V.heap.size,0,N⟩) 1 1,H (Z ⟨V.heap.size+1,0,N⟩) 1 1,H (Z ⟨V.heap.size+1+1,0,N⟩) 1 1,H (Z ⟨V.heap.size+1+1+1,0,N⟩) 1 1] 75));clear S T X Y;obtain⟨U,Q⟩:=exQ ((((((V.alloc (.cells #[I J 97] 3)).alloc (.cells #[I J 16,I J 32,I J 2,.bool false] 77)).alloc (.cells #[I J 99] 3)).alloc (.cells #[I J 17,I J 32,I J 2,.bool false] 77)).alloc (.cells #[H (Z ⟨V.heap.size,0,N⟩) 1 1,H (Z ⟨V.heap.size+1,0,N⟩) 1 1,H (Z ⟨V.heap.size+1+1,0,N⟩) 1 1,H (Z ⟨V.heap.size+1+1+1,0,N⟩) 1 1] 75)));rw[Q]at t v x y z n|-;clear Q c;have m:=d.o.below n l0;obtain⟨c0,c1,c2,c3,c4⟩:=m.k5;obtain⟨f0,f1,f2,f3,f4⟩:=m.f5;have P:=(((((m.set 0 (H (Z ⟨V.heap.size+1+1+1+1,0,N⟩) 2 2)).set 1 (H N 0 0)).set 2 (I J 100)).set 3 (I J 32)).set 4 (I J 2));have A:By w (((((U.setCell ⟨w.heap.size,0,N⟩ (H (Z ⟨V.heap.size+1+1+1+1,0,N⟩) 2 2)).setCell ⟨w.heap.size,1,N⟩ (H N 0 0)).setCell ⟨w.heap.size,2,N⟩ (I J 100)).setCell ⟨w.heap.size,3,N⟩ (I J 32)).setCell ⟨w.heap.size,4,N⟩ (I J 2)):=((((((tb B.o n).setCell (p:=⟨w.heap.size,0,N⟩) (Nat.le_refl _) (H (Z ⟨V.heap.size+1+1+1+1,0,N⟩) 2 2)).setCell (p:=⟨w.heap.size,1,N⟩) (Nat.le_refl _) (H N 0 0)).setCell (p:=⟨w.heap.size,2,N⟩) (Nat.le_refl _) (I J 100)).setCell (p:=⟨w.heap.size,3,N⟩) (Nat.le_refl _) (I J 32)).setCell (p:=⟨w.heap.size,4,N⟩) (Nat.le_refl _) (I J 2));have st:∀{q:Nat}{cs:Lv},Sl U (Z ⟨q,0,N⟩) cs->w.heap.size≠q->Sl (((((U.setCell ⟨w.heap.size,0,N⟩ (H (Z ⟨V.heap.size+1+1+1+1,0,N⟩) 2 2)).setCell ⟨w.heap.size,1,N⟩ (H N 0 0)).setCell ⟨w.heap.size,2,N⟩ (I J 100)).setCell ⟨w.heap.size,3,N⟩ (I J 32)).setCell ⟨w.heap.size,4,N⟩ (I J 2)) (Z ⟨q,0,N⟩) cs:=λh hq=>(oI (oI (oI (oI (oI h ⟨w.heap.size,0,N⟩ hq _) ⟨w.heap.size,1,N⟩ hq _) ⟨w.heap.size,2,N⟩ hq _) ⟨w.heap.size,3,N⟩ hq _) ⟨w.heap.size,4,N⟩ hq _)
 have C:=G (st t O);have D:=G (st v O);have E:=G (st x O);have F:=G (st y O);have K:=G (st z O);have a:=G P;have j:=G A;have r:=hU_ (∃M,(((((U.setCell ⟨w.heap.size,0,N⟩ (H (Z ⟨V.heap.size+1+1+1+1,0,N⟩) 2 2)).setCell ⟨w.heap.size,1,N⟩ (H N 0 0)).setCell ⟨w.heap.size,2,N⟩ (I J 100)).setCell ⟨w.heap.size,3,N⟩ (I J 32)).setCell ⟨w.heap.size,4,N⟩ (I J 2))=M) (⟨_,rfl⟩);clear st t v x y z P A m n;go_wp2_with fail;obtain⟨M,l⟩:=r.o;rw[l]at C D E F K a j|-;clear l;(try simp only[Exit.inBlock,Exit.then]);refine bodyPost_ret (kT (k:=0) rfl _ _ (b:=w.heap.size) rfl (a.o.c 0 rfl) (a.o.c 1 rfl) (a.o.c 2 rfl) (a.o.c 3 rfl) (a.o.c 4 rfl)) rfl ?_;refine⟨_,2,N,0,rfl,⟨⟨[(H (Z ⟨V.heap.size,0,N⟩) 1 1,H (Z ⟨V.heap.size+1,0,N⟩) 1 1),(H (Z ⟨V.heap.size+1+1,0,N⟩) 1 1,H (Z ⟨V.heap.size+1+1+1,0,N⟩) 1 1)],rfl,K.o,λi hi hv=>?_⟩,Sl.nil _ _,rfl,rfl,λg hg=>by cases hg⟩,j.o⟩;have s:i=0\/i=1:=by simp[jI]at hi;omega
 rcases s with rfl|rfl
 ·exact⟨_,_,_,_,rfl,C.o,D.o⟩
 exact⟨_,_,_,_,rfl,E.o,F.o⟩
theorem sM(a b c d:Int)(w:Wv):(binOp .eql 47 (.agg #[I J a,I J b]) (.agg #[I J c,I J d])).run prog w=.ok (.bool (decide ((a,b)=(c,d)))) w:=by
 have h:=underlying3;have f:=isAgg3;have j:=sizeOf3;have i:=underlying40;have g:=isAgg40;have k:=sizeOf40;have e:prog.underlying 47=Z (.struct (prog.fieldsOf 47)):=oK_;have hp:prog.stoodInHeld 47=false:=oK_;rw[run_eql_struct,show(10000:Nat)=9999+1 from rfl,run_equalIn_agg w 9999 47 _ _ e hp];simp only[Program.fieldsOf,underlying47];go_simp;by_cases h2:a=c<;>by_cases h3:b=d<;>simp[h2,h3]
theorem zV(a b c d:Int)(w:Wv):(binOp .neq 47 (.agg #[I J a,I J b]) (.agg #[I J c,I J d])).run prog w=.ok (.bool (!decide ((a,b)=(c,d)))) w:=by
 have h:=underlying3;have f:=isAgg3;have j:=sizeOf3;have i:=underlying40;have g:=isAgg40;have k:=sizeOf40;have e:prog.underlying 47=Z (.struct (prog.fieldsOf 47)):=oK_;have hp:prog.stoodInHeld 47=false:=oK_;rw[run_neq_struct,show(10000:Nat)=9999+1 from rfl,run_equalIn_agg w 9999 47 _ _ e hp];simp only[Program.fieldsOf,underlying47];go_simp;by_cases h2:a=c<;>by_cases h3:b=d<;>simp[h2,h3]
abbrev tZ:Nrm:=⟨[],[],[]⟩
theorem TL:cZ tZ:=⟨L,⟨L,λi hi=>absurd hi (Nat.not_lt_zero _)⟩,L⟩
theorem IS:parseF ⟨#[38,32,40,48,48,54,49,41,32,60,32,40,48,48,54,50,41]⟩=([⟨[97],[98],1,false⟩],0,0):=oK_
theorem IT:parseF ⟨#[38,32,40,48,48,54,49,41,32,60,32,60,32,40,48,48,54,50,41]⟩=([],3,11):=oK_
def alC:Col:=⟨[⟨[97],[⟨16,32,2,false⟩]⟩,⟨[98],[⟨17,32,2,false⟩]⟩,⟨[99],[⟨18,32,2,false⟩]⟩],[],101,32,2⟩
theorem IR:e_ tZ jI [⟨[97],[98],1,false⟩] 0=(0,0,alC):=oK_
theorem vN(w:Wv)(hL:dX w):Calls prog 12 #[] w (mN w):=by
 have LD:=G (λW(hb:By w W)=>hL.below hb);have P1:=G (λW=>AT ⟨#[38,32,40,48,48,54,49,41,32,60,32,40,48,48,54,50,41]⟩ W oV_);have P2:=G (λW=>AT ⟨#[38,32,40,48,48,54,49,41,32,60,32,60,32,40,48,48,54,50,41]⟩ W oV_);rw[IS]at P1;rw[IT]at P2;have PS:=G (λW=>YJ W);have PA:=G (λW A a B b K k(hL:dX W)(E:aO W A 2 B 0 jI)(hK:fU W K [⟨[97],[98],1,false⟩])=>vX N 0 0 N 0 0 N 0 0 tZ A 2 a B 0 b jI K k [⟨[97],[98],1,false⟩] W (cB.empty W) TL hL E ZN hK (by intro t ht;simp at ht;subst ht;refine⟨L,L,λz hz=>?_,λz hz=>?_⟩<;>simp at hz<;>subst hz<;>rfl) L);rw[IR]at PA;unfold vI at P1 P2;unfold vF aJ at PS;unfold qV aJ at PA;have EQ:=sM;have NE:=zV;dsimp only[List.length_cons,List.length_nil,Nat.reduceAdd,jI,alC]at P1 P2 PS PA;clear hL;go_enter func12,ntmps12;go_wp2_with fail;refine(P1.o _).mono ?_
 rintro e D ⟨K1,k1,rfl,h1,M⟩;have Y:=G h1;have c:=Box.new D 47 [I J 0,I J 0] rfl;have s:=M.alloc M.size (.cells #[I J 0,I J 0] 47);have BB:=(Below.refl D.heap.size D).alloc (Nat.le_refl _) (.cells #[I J 0,I J 0] 47);have r:=U (∃V,D.alloc (.cells #[I J 0,I J 0] 47)=V) (⟨_,rfl⟩);obtain⟨n2,am⟩:=exQ (D.heap.size);clear M h1 P1;go_upto_region 2 with(fail)
 obtain⟨Y2,aj⟩:=r.o;change Box (D.alloc (.cells #[I J 0,I J 0] 47)) D.heap.size 47 [I J 0,I J 0]at c;rw[aj]at c s BB|-;clear aj r;have y:=G c;have v:=G s;have aa:=G (Y.o.below BB);clear c s BB Y;rw[am]at y;clear am;go_wp2_with fail;refine(P2.o _).mono ?_
 rintro e Q ⟨K2,k2,rfl,-,f⟩;have s:=(tb v.o f).alloc (tb v.o f).size (.cells #[I J 3,I J 11] 47);have c:Box (Q.alloc (.cells #[I J 3,I J 11] 47)) Q.heap.size 47 [I J 3,I J 11]:=Box.new Q 47 [I J 3,I J 11] rfl;have B3:By Y2 (Q.alloc (.cells #[I J 3,I J 11] 47)):=f.alloc f.size _;have r:=U (∃V,Q.alloc (.cells #[I J 3,I J 11] 47)=V) (⟨_,rfl⟩);obtain⟨n4,an⟩:=exQ (Q.heap.size);clear f P2;go_upto_region 3 with(fail)
 obtain⟨Y4,ak⟩:=r.o;rw[ak]at c s B3|-;clear ak r;have C:=G c;have j:=G (bb y.o B3);have ab:=G (aa.o.below B3);have T:=G s;clear c s B3 aa y v;rw[an]at C;clear an;go_wp2_with fail;refine(PS.o _).mono ?_
 rintro e Y5 ⟨A,a,B,b,rfl,E,g⟩;have x:=G (tb T.o g);have ag:=G (PA.o Y5 A a B b K1 k1 (LD.o _ x.o) E (ab.o.below g));have o:=G (bb C.o g);have l:=G (bb j.o g);clear PA PS LD E ab C j T g;go_wp2_with fail;refine ag.o.mono ?_
 rintro e d ⟨A',R,P,S,rfl,E,i⟩;have X:=G (tb x.o i);have q:=G (bb o.o i);have n:=G (bb l.o i);obtain⟨eb,eo,rfl,O,F⟩:=E.ents.at (m:=0) (by show 0<3;omega);obtain⟨C1,c1,Ea,d1,-,ea,-,ah⟩:=F 1 (by show 1<3;omega);obtain⟨C2,c2,Eb,d2,-,ec,-,ai⟩:=F 2 (by show 2<3;omega);obtain⟨p1,o1,rfl,ao,aq⟩:=ah.at (m:=0) (by show 0<1;omega);obtain⟨p2,o2,rfl,ap,ar⟩:=ai.at (m:=0) (by show 0<1;omega);have qa:=(aq 0 (by show 0<1;omega)).1;have qb:=(ar 0 (by show 0<1;omega)).1;change d.cell? ⟨eb,eo+1*2+1,N⟩=Z (H (Z ⟨p1,o1,N⟩) 1 d1)at ea;change d.cell? ⟨eb,eo+2*2+1,N⟩=Z (H (Z ⟨p2,o2,N⟩) 1 d2)at ec;change d.cell? ⟨p1,o1+0*4,N⟩=Z (I J 17)at qa;change d.cell? ⟨p2,o2+0*4,N⟩=Z (I J 18)at qb;simp only[Nat.reduceMul,Nat.add_zero]at ea ec qa qb;have XC:Box ((d.alloc (.cells #[H (Z ⟨eb,eo,N⟩) 3 R,H P 0 S,I J 101,I J 32,I J 2] 32)).alloc (.cells #[I J 0,I J 0] 47)) d.heap.size 32 [H (Z ⟨eb,eo,N⟩) 3 R,H P 0 S,I J 101,I J 32,I J 2]:=fB (Box.new d 32 [H (Z ⟨eb,eo,N⟩) 3 R,H P 0 S,I J 101,I J 32,I J 2] rfl) _;have c:Box ((d.alloc (.cells #[H (Z ⟨eb,eo,N⟩) 3 R,H P 0 S,I J 101,I J 32,I J 2] 32)).alloc (.cells #[I J 0,I J 0] 47)) (d.heap.size+1) 47 [I J 0,I J 0]:=Box.new _ 47 [I J 0,I J 0] L;have h:By d ((d.alloc (.cells #[H (Z ⟨eb,eo,N⟩) 3 R,H P 0 S,I J 101,I J 32,I J 2] 32)).alloc (.cells #[I J 0,I J 0] 47)):=(ba _ _).alloc L _;have r:=U (∃V,((d.alloc (.cells #[H (Z ⟨eb,eo,N⟩) 3 R,H P 0 S,I J 101,I J 32,I J 2] 32)).alloc (.cells #[I J 0,I J 0] 47))=V) (⟨_,rfl⟩);have sa:=(h.cell (p:=⟨eb,eo+2+1,N⟩) O).trans ea;have sb:=(h.cell (p:=⟨eb,eo+4+1,N⟩) O).trans ec;have sc:=(h.cell (p:=⟨p1,o1,N⟩) ao).trans qa;have sd:=(h.cell (p:=⟨p2,o2,N⟩) ap).trans qb;clear E i F ah ai aq ar ea ec qa qb O ao ap ag;go_upto_region 4 with(fail)
 obtain⟨Y7,al⟩:=r.o;rw[al]at XC c h sa sb sc sd|-;clear al r;have x2:=bb n.o h;have x4:=bb q.o h;have BW:=tb X.o h;obtain⟨a0,a1,a2,a3,a4⟩:=XC.k5;obtain⟨b0,b1⟩:=c.k2;obtain⟨c0,c1⟩:=x2.k2;obtain⟨d0,d1⟩:=x4.k2;have n1:=λW=>(zV 0 0 0 0 W).trans oR_
 have bo:=λW=>(sM 3 11 3 11 W).trans oR_
 have ax:=G BW;clear XC c h x2 x4 BW n q X x o l EQ NE;go_wp2;go_ret;exact⟨rfl,ax.o⟩
end
section
open Go.ChangeShapes Go.WideShapes Go.ChangeAt Go.RowKit
theorem jX{H:Type}{enc:TypeId×Value->H}{P:Program}{w:Wv}{base:Nat}{spare:Nat->Bool}{held:Bool}{t e:TypeId}{α:Type}[Inhabited α](en:α->Lv)(k:Nat)(k0:0<k)(hk:∀x,(en x).length=k)(R:α->Prop)
  (ht:P.underlying t=Z (.slice e)) (hc:P.cellsOf e=k)
  (hread:∀fuel cs x,cs.length=k->DataW.trod enc P w base spare held fuel e cs=Z x->∃a:α,cs=en a/\R a)
  {fuel:Nat} {cs:Lv} {x:DataW H×List MemPlace} (h:DataW.trod enc P w base spare held fuel t cs=Z x) :
  ∃A len cap,∃l:List α,cs=[.slice A len cap]/\l.length=len/\len<=cap/\cap<=9223372036854775807/\dZ en w A l/\∀a∈l,R a:=by
 rcases Deep.open_slice ht h with⟨o,_⟩|⟨a,l,c,m,n,D,T,o,hb,hl,hm,K,_,hx⟩
 ·exact⟨N,0,0,[],o,rfl,Nat.le_refl _,O,Sl.nil _ _,λ_ h=>by cases h⟩
 unfold maxLen at hm;have S:l<=m:=by rw[K];split<;>omega
 have v:∀i,i<l->∃q:α,(∀j,j<k->w.cell? (a.add (i*k+j))=(en q)[j]?)/\R q:=by
  intro i hi;obtain⟨Q,f,E⟩:=hx i O;rw[hc]at f;obtain⟨_,d,g⟩:=World.cells?_some f;obtain⟨q,hq,hr⟩:=hread _ _ _ d E;refine⟨q,λj hj=>?_,hr⟩;have:=g j hj;rw[Deep.add_add,hq]at this;exact this
 obtain⟨V,F⟩:=Deep.choose_lt v;refine⟨Z a,l,c,(List.range l).map V,o,L,hl,hm,?_,λy hy=>?_⟩
 ·intro M
  have d:0<l:=by
   rcases Nat.eq_zero_or_pos l with z|z
   ·subst z;simp[aB]at M
   exact z
  obtain⟨b,r,C⟩:=a;have hz:=(F 0 d).1 0 k0;have p:C=N:=by
   have f:0<(en (V 0)).length:=by rw[hk];exact k0
   rw[List.getElem?_eq_getElem f]at hz;simpa[Addr.add]using World.cell?_spot hz
  subst p;refine⟨b,r,rfl,λj u hu=>?_⟩
  have s:∀i,(⟨b,r,N⟩:Addr).add i=⟨b,r+i,N⟩:=λi=>by
   unfold Addr.add;split
   ·next z=>subst z;rfl
   rfl
  have hj:j<l*k:=by
   have:=(List.getElem?_eq_some_iff.1 hu).1;rw[fY en k hk]at this;simpa using this
  have hi:j/k<l:=(Nat.div_lt_iff_lt_mul k0).2 hj;have hr:j%k<k:=Nat.mod_lt _ k0;have B:j/k*k+j%k=j:=by rw[Nat.mul_comm];exact Nat.div_add_mod j k
  have f:=gR en k hk ((List.range l).map V) (j/k) (j%k) (by simpa using hi) hr;rw[B,hu]at f;have E:=(F (j/k) hi).1 (j%k) hr;rw[B,s]at E;simp only[List.getElem_map,List.getElem_range]at f;rw[E,<-f]
 obtain⟨i,hi,rfl⟩:=List.mem_map.1 hy;exact(F i (List.mem_range.1 hi)).2
section
variable {H:Type}{enc:TypeId×Value->H}{w:Wv}{base:Nat}{spare:Nat->Bool}{held:Bool}{fuel:Nat}{cs:Lv}{x:DataW H×List MemPlace}
theorem mci:prog.cellsOf 3=1:=oK_
theorem mcs:prog.cellsOf 9=1:=oK_
theorem mcI:prog.cellsOf 33=1:=oK_
theorem mcR:prog.cellsOf 24=1:=oK_
theorem mcM:prog.cellsOf 23=1:=oK_
theorem mcS:prog.cellsOf 26=1:=oK_
theorem UF(h:DataW.trod enc prog w base spare held fuel 33 cs=Z x):
  ∃A len cap,∃l:Li,cs=[.slice A len cap]/\l.length=len/\len<=cap/\cap<=9223372036854775807/\aA w A l:=by
 obtain⟨A,len,cap,l,c,b,d,e,a,_⟩:=jX (α:=Int) (λz=>[I J z]) 1 O (λ_=>rfl) (λ_=>True) underlying33 mci (λfuel cs x hl hx=>by
  obtain⟨z,hz,_,_⟩:=DataW.trod_int underlying3 hx
  exact⟨z,hz,trivial⟩) h
 refine⟨A,len,cap,l,c,b,d,e,?_⟩;unfold dZ aB at a;unfold aA;rw[show l.map (Value.int .i64)=l.flatMap (λz=>[I J z]) by clear b a;induction l<;>simp_all];exact a
instance:Inhabited Rg:=⟨⟨0,0⟩⟩
theorem UJ(h:DataW.trod enc prog w base spare held fuel 24 cs=Z x):
  ∃A len cap,∃l:List Rg,cs=[.slice A len cap]/\l.length=len/\len<=cap/\cap<=9223372036854775807/\Rgs w A l/\∀_∈l,True:=by
 refine jX (α:=Rg) Rg.cells 2 O (λ_=>rfl) (λ_=>True) underlying24 oK_ (λfuel cs x hl hx=>?_) h;obtain⟨xs,k,hk,g,_,b,a⟩:=DataW.trod_struct underlying179 hx;match xs,b,cs,hl with
 | [y0,y1],_,[v0,v1],_=>
  have e:=a 0 _ rfl;have f:=a 1 _ rfl;simp[mci]at e f;obtain⟨i,c,_,_⟩:=DataW.trod_int underlying3 e;obtain⟨j,d,_,_⟩:=DataW.trod_int underlying3 f;simp at c d;subst c;subst d;exact⟨⟨i,j⟩,rfl,trivial⟩
theorem AI(hcl:cs.length=1)(h:DataW.trod enc prog w base spare held fuel 26 cs=Z x):
  ∃A len cap,∃l:List Rg,cs=[.slice A len cap]/\l.length=len/\len<=cap/\cap<=9223372036854775807/\Rgs w A l:=by
 obtain⟨xs,k,hk,j,_,b,a⟩:=DataW.trod_struct underlying26 h;match xs,b,cs,hcl with
 | [y0],_,[v0],_=>
  have c:=a 0 _ rfl;simp[mcR]at c;obtain⟨A,len,cap,l,d,e,f,g,i,_⟩:=UJ c;exact⟨A,len,cap,l,d,e,f,g,i⟩
def MpR(w:Wv)(p:Mp×Value):Prop:=∃C c,p.2=.slice C p.1.toq.length c/\p.1.toq.length<=c/\c<=9223372036854775807/\aA w C p.1.toq/\p.1.tag.size<=9223372036854775807
theorem AH(h:DataW.trod enc prog w base spare held fuel 23 cs=Z x):
  ∃A len cap,∃l:List Mp,cs=[.slice A len cap]/\l.length=len/\len<=cap/\cap<=9223372036854775807/\Mps w A l/\∀i,(hi:i<l.length)->l[i].toq.length<=9223372036854775807/\l[i].tag.size<=9223372036854775807:=by
 have:Inhabited (Mp×Value):=⟨(⟨0,[],.empty⟩,.bool false)⟩
 obtain⟨A,len,cap,l,y,z,B,D,E,p⟩:=jX (α:=Mp×Value) mpC 3 O (λ_=>rfl) (MpR w) underlying23 oK_ (λfuel cs x hl hx=>by
  obtain⟨xs,k,hk,F,_,e,a⟩:=DataW.trod_struct underlying154 hx
  match xs,e,cs,hl with
  | [y0,y1,y2],_,[v0,v1,v2],_=>
   have m:=a 0 _ rfl
   have n:=a 1 _ rfl
   have o:=a 2 _ rfl
   simp[mci,mcI,mcs]at m n o
   obtain⟨Q,j,_,_⟩:=DataW.trod_int underlying3 m
   obtain⟨f,S,g,q,b,v,M,P,K⟩:=UF n
   obtain⟨r,d,_,hs⟩:=DataW.trod_string underlying9 o
   simp at j b d
   subst j;subst b;subst d;subst v
   exact⟨(⟨Q,q,r⟩,.slice f q.length g),rfl,f,g,rfl,M,P,K,by unfold maxLen at hs;show r.size<=_;omega⟩) h
 have hz:(l.map Prod.fst).zip (l.map Prod.snd)=l:=(List.zip_of_prod rfl rfl).symm;refine⟨A,len,cap,l.map Prod.fst,y,by simpa using z,B,D,⟨l.map Prod.snd,L,by rw[hz];exact E,λi hi hv=>?_⟩,λi hi=>?_⟩
 ·have hl:i<l.length:=by simpa using hi
  obtain⟨C,c,b,d,_,s,_⟩:=p l[i] (List.getElem_mem hl);exact⟨C,c,by simpa using b,by simpa using d,by simpa using s⟩
 have hl:i<l.length:=by simpa using hi
 obtain⟨C,c,b,d,R,_,t⟩:=p l[i] (List.getElem_mem hl);simp only[List.getElem_map];exact⟨O,t⟩
end
section
variable {H:Type}{enc:TypeId×Value->H}{w:Wv}{base:Nat}{spare:Nat->Bool}{held:Bool}{fuel:Nat}{cs:Lv}{x:DataW H×List MemPlace}
instance:Inhabited Spn:=⟨⟨0,0,0⟩⟩
theorem zQ:prog.cellsOf 22=1:=oK_
theorem AJ(h:DataW.trod enc prog w base spare held fuel 22 cs=Z x):
  ∃A len cap,∃l:List Spn,cs=[.slice A len cap]/\l.length=len/\len<=cap/\cap<=9223372036854775807/\bG w A l:=by
 obtain⟨A,len,cap,l,j,m,n,o,p,_⟩:=jX (α:=Spn) (λs=>[I J s.lo,I J s.hi,I J s.val]) 3 O (λ_=>rfl) (λ_=>True) underlying22 oK_ (λfuel cs x hl hx=>by
  obtain⟨xs,k,hk,q,_,b,a⟩:=DataW.trod_struct underlying182 hx
  match xs,b,cs,hl with
  | [y0,y1,y2],_,[v0,v1,v2],_=>
   have f:=a 0 _ rfl
   have g:=a 1 _ rfl
   have i:=a 2 _ rfl
   simp[mci]at f g i
   obtain⟨r,c,_,_⟩:=DataW.trod_int underlying3 f
   obtain⟨t,d,_,_⟩:=DataW.trod_int underlying3 g
   obtain⟨v,e,_,_⟩:=DataW.trod_int underlying3 i
   simp at c d e
   subst c;subst d;subst e
   exact⟨⟨r,t,v⟩,rfl,trivial⟩) h
 exact⟨A,len,cap,l,j,m,n,o,p⟩
end
structure lX(x:Nrm):Prop where
 z0:x.cls.length<=9223372036854775807
 z1:x.dec.length<=9223372036854775807
 z2:x.exc.length<=9223372036854775807
 ze:∀i,(hi:i<x.dec.length)->x.dec[i].toq.length<=9223372036854775807/\x.dec[i].tag.size<=9223372036854775807
section
variable {H:Type}{enc:TypeId×Value->H}{w:Wv}{base:Nat}{spare:Nat->Bool}{held:Bool}
theorem open_norm{v:Value}{r:Reach}{b0:Nat}{d:DataW H}{p:List MemPlace}(hok:Value.okWide prog w r b0 28 v)(h:DataW.Trod enc prog w base spare held 28 v d p):
  ∃A0 k0 A1 k1 A2 k2,∃C:Nrm,v=.agg #[.slice A0 C.cls.length k0,.slice A1 C.dec.length k1,.slice A2 C.exc.length k2]/\cB w A0 C.cls.length A1 C.dec.length A2 C.exc.length C/\lX C:=by
 obtain⟨i,hf⟩:=h;obtain⟨cs,rfl,_⟩:=okWide_struct underlying28 hok;obtain⟨xs,k,hk,D,b,c,a⟩:=DataW.trod_struct underlying28 hf;have B:prog.cellsOf 28=3:=oK_;rw[B]at b;obtain⟨cs⟩:=cs;simp only[Value.cells]at b a;match xs,c,cs,b with
 | [y0,y1,y2],_,[v0,v1,v2],_=>
  have j:=a 0 _ rfl;have l:=a 1 _ rfl;have m:=a 2 _ rfl;simp[zQ,mcM,mcS]at j l m;obtain⟨A0,M,s,n,e,y,Q,T,E⟩:=AJ j;obtain⟨A1,O,t,o,f,z,R,V,F,L⟩:=AH l;obtain⟨A2,P,x,q,g,A,S,W,K⟩:=AI rfl m;simp at e f g;subst e;subst f;subst g;subst y;subst z;subst A;exact⟨A0,s,A1,t,A2,x,⟨n,o,q⟩,rfl,⟨E,F,K,rfl,rfl,rfl⟩,⟨by show n.length<=_;omega,by show o.length<=_;omega,by show q.length<=_;omega,L⟩⟩
end
theorem yK:prog.globalNamed "unicodetext/ordering.hangulRanges"=Z 1:=oK_
theorem OW:(prog.globals[1]?).map (·.type)=Z 222:=oK_
theorem laid_of{W:Wv}(h:laidMet prog [("unicodetext/ordering.hangulRanges",Rows.laid_unicodetext_ordering_hangulRanges)] W):dX W:=by
 obtain⟨ps,⟨V,X,cs,w,p,q,r,s,n,hd,_,_⟩,_⟩:=h;obtain rfl:=Option.some.inj (yK.symm.trans r);obtain rfl:=Option.some.inj (OW.symm.trans s);have cr:prog.cellsOf 179=2:=oK_;have ci:prog.cellsOf 3=1:=oK_;obtain⟨xs,m,_,o,A,t,e⟩:=DataW.trod_array underlying222 hd;match xs,t with
 | [y0,y1,y2,y3],_=>
  simp only[Rows.laid_unicodetext_ordering_hangulRanges,Prod.mk.injEq,DataW.agg.injEq,List.map_cons,List.map_nil,List.cons.injEq,and_true]at o;obtain⟨⟨F,K,L,M⟩,_⟩:=o;have d:∀(j:TypeId×Value->Unit)(base:Nat)(f:Nat->Bool)(g:Bool)(i:Nat)(a b:Int)(y:DataW Unit×List MemPlace),DataW.trod j prog W base f g m 179 ((cs.toList.drop (i*2)).take 2)=Z y->.agg [.lit (.int .i64 a),.lit (.int .i64 b)]=y.1->cs.toList[i*2]?=Z (I J a)/\cs.toList[i*2+1]?=Z (I J b):=by
   intro j base f g i a b y hy he;obtain⟨zs,k,_,hz,T,v,l⟩:=DataW.trod_struct underlying179 hy;match zs,v with
   | [u0,u1],_=>
    have R:=l 0 _ rfl;have S:=l 1 _ rfl;obtain⟨Y,P,rfl,_⟩:=DataW.trod_int underlying3 R;obtain⟨z1,Q,rfl,_⟩:=DataW.trod_int underlying3 S;subst hz;simp at he;obtain⟨rfl,rfl⟩:=he;have x:=congrArg (·[0]?) P;have z:=congrArg (·[0]?) Q;simp[ci,List.getElem?_drop]at x z;exact⟨by simpa using x,by simpa using z⟩
  rw[cr]at e;have B:=d _ _ _ _ 0 _ _ _ (e 0 O) F;have C:=d _ _ _ _ 1 _ _ _ (e 1 O) K;have D:=d _ _ _ _ 2 _ _ _ (e 2 O) L;have E:=d _ _ _ _ 3 _ _ _ (e 3 O) M;have c:=λi=>World.var?_cell yK n i
  simp only[<-Array.getElem?_toList]at c;exact⟨(c 0).trans B.1,(c 1).trans B.2,(c 2).trans C.1,(c 3).trans C.2,(c 4).trans D.1,(c 5).trans D.2,(c 6).trans E.1,(c 7).trans E.2⟩
section
variable {H:Type}{enc:TypeId×Value->H}{w:Wv}{base:Nat}{spare:Nat->Bool}{held:Bool}{fuel:Nat}{cs:Lv}{x:DataW H×List MemPlace}
theorem ci:prog.cellsOf 3=1:=oK_
theorem cs':prog.cellsOf 9=1:=oK_
theorem cb':prog.cellsOf 4=1:=oK_
theorem cI:prog.cellsOf 33=1:=oK_
theorem cE:prog.cellsOf 54=1:=oK_
theorem cN:prog.cellsOf 29=1:=oK_
theorem cG:prog.cellsOf 30=1:=oK_
theorem UE(h:DataW.trod enc prog w base spare held fuel 33 cs=Z x):
  ∃A len cap,∃l:Li,cs=[.slice A len cap]/\l.length=len/\len<=cap/\cap<=9223372036854775807/\aA w A l:=by
 obtain⟨A,len,cap,l,c,b,d,e,a,_⟩:=jX (α:=Int) (λz=>[I J z]) 1 O (λ_=>rfl) (λ_=>True) underlying33 ci (λfuel cs x hl hx=>by
  obtain⟨z,hz,_,_⟩:=DataW.trod_int underlying3 hx
  exact⟨z,hz,trivial⟩) h
 refine⟨A,len,cap,l,c,b,d,e,?_⟩;unfold dZ aB at a;unfold aA;rw[show l.map (Value.int .i64)=l.flatMap (λz=>[I J z]) by clear b a;induction l<;>simp_all];exact a
instance:Inhabited Grp:=⟨⟨.empty,0,0⟩⟩
instance:Inhabited Elt:=⟨⟨0,0,0,false⟩⟩
instance:Inhabited Ent:=⟨⟨[],[]⟩⟩
theorem AG(h:DataW.trod enc prog w base spare held fuel 30 cs=Z x):
  ∃A len cap,∃l:List Grp,cs=[.slice A len cap]/\l.length=len/\len<=cap/\cap<=9223372036854775807/\jM w A l/\∀g∈l,g.name.size<=9223372036854775807:=by
 refine jX (α:=Grp) Grp.cells 3 O (λ_=>rfl) (λg=>g.name.size<=9223372036854775807) underlying30 oK_ (λfuel cs x hl hx=>?_) h;obtain⟨xs,k,hk,n,_,b,a⟩:=DataW.trod_struct underlying98 hx;match xs,b,cs,hl with
 | [y0,y1,y2],_,[v0,v1,v2],_=>
  have f:=a 0 _ rfl;have i:=a 1 _ rfl;have j:=a 2 _ rfl;simp[ci,cs']at f i j;obtain⟨m,c,_,hs⟩:=DataW.trod_string underlying9 f;obtain⟨o,d,_,_⟩:=DataW.trod_int underlying3 i;obtain⟨p,e,_,_⟩:=DataW.trod_int underlying3 j;simp at c d e;subst c;subst d;subst e;exact⟨⟨m,o,p⟩,rfl,by unfold maxLen at hs;show m.size<=_;omega⟩
theorem UD(h:DataW.trod enc prog w base spare held fuel 54 cs=Z x):
  ∃A len cap,∃l:List Elt,cs=[.slice A len cap]/\l.length=len/\len<=cap/\cap<=9223372036854775807/\cM w A l/\∀_∈l,True:=by
 refine jX (α:=Elt) Elt.cells 4 O (λ_=>rfl) (λ_=>True) underlying54 oK_ (λfuel cs x hl hx=>?_) h;obtain⟨xs,k,hk,n,_,b,a⟩:=DataW.trod_struct underlying77 hx;match xs,b,cs,hl with
 | [y0,y1,y2,y3],_,[v0,v1,v2,v3],_=>
  have g:=a 0 _ rfl;have i:=a 1 _ rfl;have j:=a 2 _ rfl;have m:=a 3 _ rfl;simp[ci,cb']at g i j m;obtain⟨o,c,_,_⟩:=DataW.trod_int underlying3 g;obtain⟨p,d,_,_⟩:=DataW.trod_int underlying3 i;obtain⟨q,e,_,_⟩:=DataW.trod_int underlying3 j;obtain⟨r,f,_⟩:=DataW.trod_bool underlying4 m;simp at c d e f;subst c;subst d;subst e;subst f;exact⟨⟨o,p,q,r⟩,rfl,trivial⟩
theorem AF(h:DataW.trod enc prog w base spare held fuel 29 cs=Z x):
  ∃A len cap,∃l:List Ent,cs=[.slice A len cap]/\l.length=len/\len<=cap/\cap<=9223372036854775807/\gH w A l:=by
 have:Inhabited (Value×Value):=⟨(.bool false,.bool false)⟩
 obtain⟨A,len,cap,vs,t,z,B,C,D,E⟩:=jX (α:=Value×Value) (λv=>[v.1,v.2]) 2 O (λ_=>rfl) (λv=>∃x,fH w v x) underlying29 oK_ (λfuel cs x hl hx=>by
  obtain⟨xs,k,hk,K,_,c,b⟩:=DataW.trod_struct underlying75 hx
  match xs,c,cs,hl with
  | [y0,y1],_,[v0,v1],_=>
   have n:=b 0 _ rfl
   have o:=b 1 _ rfl
   simp[cI,cE]at n o
   obtain⟨d,Q,f,p,j,r,_,_,M⟩:=UE n
   obtain⟨e,R,g,q,m,s,_,_,P,_⟩:=UD o
   simp at j m
   subst j;subst m;subst r;subst s
   exact⟨(.slice d p.length f,.slice e q.length g),rfl,⟨p,q⟩,⟨d,f,e,g,rfl,M,P⟩⟩) h
 have a:∀i,i<vs.length->∃y:Ent,∀hv:i<vs.length,fH w vs[i] y:=λi hi=>by
  obtain⟨y,hy⟩:=E _ (List.getElem_mem hi);exact⟨y,λ_=>hy⟩
 obtain⟨V,F⟩:=Deep.choose_lt a;refine⟨A,len,cap,(List.range vs.length).map V,t,by simpa using z,B,C,vs,L,D,λi hi hv=>?_⟩;have:=F i hv hv;simpa using this
theorem open_col{v:Value}{r:Reach}{b0:Nat}{d:DataW H}{p:List MemPlace}(hok:Value.okWide prog w r b0 32 v)(h:DataW.Trod enc prog w base spare held 32 v d p):
  ∃A n a B m b,∃c:Col,v=aJ A n a B m b c/\aO w A n B m c/\n<=a/\m<=b:=by
 obtain⟨s,hf⟩:=h;obtain⟨cs,rfl,_⟩:=okWide_struct underlying32 hok;obtain⟨xs,k,hk,K,f,g,e⟩:=DataW.trod_struct underlying32 hf;have F:prog.cellsOf 32=5:=oK_;rw[F]at f;obtain⟨cs⟩:=cs;simp only[Value.cells]at f e;match xs,g,cs,f with
 | [y0,y1,y2,y3,y4],_,[v0,v1,v2,v3,v4],_=>
  have t:=e 0 _ rfl;have x:=e 1 _ rfl;have y:=e 2 _ rfl;have z:=e 3 _ rfl;have C:=e 4 _ rfl;simp[ci,cN,cG]at t x y z C;obtain⟨A,n,a,O,i,D,Q,_,L⟩:=AF t;obtain⟨B,m,b,P,j,E,R,_,M,S⟩:=AG x;obtain⟨T,l,_,_⟩:=DataW.trod_int underlying3 y;obtain⟨V,o,_,_⟩:=DataW.trod_int underlying3 z;obtain⟨W,q,_,_⟩:=DataW.trod_int underlying3 C;simp at i j l o q;subst i;subst j;subst l;subst o;subst q;exact⟨A,n,a,B,m,b,⟨O,P,T,V,W⟩,rfl,⟨L,M,D,E,S⟩,Q,R⟩
end
end
end Go.Proofs.YtkhmjidaeliccaaGreatDoor
