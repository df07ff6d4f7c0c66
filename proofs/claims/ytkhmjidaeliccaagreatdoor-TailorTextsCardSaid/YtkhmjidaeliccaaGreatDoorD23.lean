import Derived.Test.YtkhmjidaeliccaaGreatDoorD00
import Derived.Test.YtkhmjidaeliccaaGreatDoorD09
import Derived.Test.YtkhmjidaeliccaaGreatDoorD14
import Derived.Test.YtkhmjidaeliccaaGreatDoorD16
import Derived.Test.YtkhmjidaeliccaaGreatDoorD19
import Derived.Test.YtkhmjidaeliccaaGreatDoorD22
import Derived.Deep.Cut
set_option maxRecDepth 100000
set_option maxHeartbeats 51200000
namespace Go.Proofs.YtkhmjidaeliccaaGreatDoor
open Option renaming none->N,some->Z
open Value renaming int->I,slice->H
open IntKind renaming i64->J
open Go.Proofs.Tryz
section
open Go.RowKit Go.Maps Go.WideMaps Tl
def cZ(x:Nrm)(c:Col)(t:Tlr):Int×Col:=if jC x c t≠0 then(jC x c t,col0)else stepB (dtx x false t.cds) (fI x c t.anc) (aI x c t.anc) c t
theorem jM{k j:Nat}{fn:Func}(hr:fn.results=#[.cell k 32,.tmp j])(tmps:Array Value)(w:Wv){b:Nat}{v0 v1 v2 v3 v4 v:Value}(ha:tmps.getD k undef=.pointer (Z ⟨b,0,N⟩))(hv:tmps[j]?.getD undef=v)
  (c0:w.cell? ⟨b,0,N⟩=Z v0) (c1:w.cell? ⟨b,1,N⟩=Z v1) (c2:w.cell? ⟨b,2,N⟩=Z v2) (c3:w.cell? ⟨b,3,N⟩=Z v3) (c4:w.cell? ⟨b,4,N⟩=Z v4) :
  (results fn tmps).run prog w=.ok (.tuple #[.agg #[v0,v1,v2,v3,v4],v]) w:=by
 unfold results;rw[hr];simp only[ha,List.mapM_toArray,List.mapM_cons,List.mapM_nil,asAddr];go_simp
def mL(r:Int×Col)(w:Wv)(e:Ending)(w':Wv):Prop:=∃A a B b,e=.returned (.tuple #[aS A r.2.ents.length a B r.2.grps.length b r.2,I J r.1])/\aY w' A r.2.ents.length B r.2.grps.length r.2/\(∀Z W',Chg Z w' W'->(∀q,Z q->q<w.heap.size)->aY W' A r.2.ents.length B r.2.grps.length r.2)/\By w w'
theorem eX(w:Wv):aY w N 0 N 0 col0:=⟨⟨[],rfl,Sl.nil _ _,fun i hi=>absurd hi (by simp[col0])⟩,Sl.nil _ _,rfl,rfl,fun g hg=>by simp[col0]at hg⟩
theorem OpV.lower{w:Wv}{base base' z:Nat}{A:Oa}{cap:Nat}{vs:List (Value×Value)}{m:Nat->Nat}{top:Nat}{xs:List Ent}(h:OpV w base z A cap vs m top xs)(hb:base'<=base):OpV w base' z A cap vs m top xs:=
 ⟨h.len,gZ h.row hb,h.mono,h.mt,h.tw,h.bm,h.zm,h.rows⟩
theorem CY{x:Nrm}{c:Col}{u:Li}(h:aH c=0)(hk:fI x c u=true):AncM c (aI x c u)/\AncOk c.base (aI x c u):=by
 have e:a_ c=c:=if_pos h;have e1:aI x c u=Mtc.elems (cls (usN x).cls) (aC c.ents) (aO c) (dtx x false u):=by unfold aI;rw[e]
 unfold fI at hk;rw[e]at hk;rw[e1];exact⟨known_mem hk,known_ok h hk⟩
theorem pI(A0:Oa)(n0 k0:Nat)(A1:Oa)(n1 k1:Nat)(A2:Oa)(n2 k2:Nat)(x:Nrm)(C:Oa)(n a:Nat)(B:Oa)(m b:Nat)(c:Col)(P:Oa)(pk:Nat)(Q:Oa)(qk:Nat)(t:Tlr)(w:Wv)(hN:dC w A0 n0 A1 n1 A2 n2 x)(hz:cC x)(hL:cK w)(hC:aY w C n B m c)(hcz:aZ c)(hP:aB w P t.anc)(hQ:aB w Q t.cds)(hpl:t.anc.length<=16384)(hql:t.cds.length<=16384)(hpi:∀z∈t.anc,iok z)(hqi:∀z∈t.cds,iok z)(hes:(aI x c t.anc).length<=1048576):
  Calls prog 13 #[.agg #[H A0 n0 k0,H A1 n1 k1,H A2 n2 k2],aS C n a B m b c,.agg #[H P t.anc.length pk,H Q t.cds.length qk,I J t.lvl,.bool t.bef]] w (mL (cZ x c t) w):=by
 have B0:By w ((((w.alloc (.cells #[H A0 n0 k0,H A1 n1 k1,H A2 n2 k2] 28)).alloc (.cells #[H C n a,H B m b,I J c.base,I J c.second,I J c.third] 32)).alloc (.cells #[H P t.anc.length pk,H Q t.cds.length qk,I J t.lvl,.bool t.bef] 35)).alloc (.cells #[H N 0 0,H N 0 0,I J 0,I J 0,I J 0] 32)):=(((ba _ _).alloc (by simp) _).alloc (by simp<;>omega) _).alloc (by simp<;>omega) _;have X0:Box ((((w.alloc (.cells #[H A0 n0 k0,H A1 n1 k1,H A2 n2 k2] 28)).alloc (.cells #[H C n a,H B m b,I J c.base,I J c.second,I J c.third] 32)).alloc (.cells #[H P t.anc.length pk,H Q t.cds.length qk,I J t.lvl,.bool t.bef] 35)).alloc (.cells #[H N 0 0,H N 0 0,I J 0,I J 0,I J 0] 32)) w.heap.size 28 [H A0 n0 k0,H A1 n1 k1,H A2 n2 k2]:=(((Box.new w 28 [H A0 n0 k0,H A1 n1 k1,H A2 n2 k2] rfl).below (ba _ _) (by simp)).below (ba _ _) (by simp<;>omega)).below (ba _ _) (by simp<;>omega);have X1:Box ((((w.alloc (.cells #[H A0 n0 k0,H A1 n1 k1,H A2 n2 k2] 28)).alloc (.cells #[H C n a,H B m b,I J c.base,I J c.second,I J c.third] 32)).alloc (.cells #[H P t.anc.length pk,H Q t.cds.length qk,I J t.lvl,.bool t.bef] 35)).alloc (.cells #[H N 0 0,H N 0 0,I J 0,I J 0,I J 0] 32)) (w.heap.size+1) 32 [H C n a,H B m b,I J c.base,I J c.second,I J c.third]:=((Box.new (w.alloc (.cells #[H A0 n0 k0,H A1 n1 k1,H A2 n2 k2] 28)) 32 [H C n a,H B m b,I J c.base,I J c.second,I J c.third] (by simp)).below (ba _ _) (by simp)).below (ba _ _) (by simp<;>omega);have X2:Box ((((w.alloc (.cells #[H A0 n0 k0,H A1 n1 k1,H A2 n2 k2] 28)).alloc (.cells #[H C n a,H B m b,I J c.base,I J c.second,I J c.third] 32)).alloc (.cells #[H P t.anc.length pk,H Q t.cds.length qk,I J t.lvl,.bool t.bef] 35)).alloc (.cells #[H N 0 0,H N 0 0,I J 0,I J 0,I J 0] 32)) (w.heap.size+2) 35 [H P t.anc.length pk,H Q t.cds.length qk,I J t.lvl,.bool t.bef]:=(Box.new ((w.alloc (.cells #[H A0 n0 k0,H A1 n1 k1,H A2 n2 k2] 28)).alloc (.cells #[H C n a,H B m b,I J c.base,I J c.second,I J c.third] 32)) 35 [H P t.anc.length pk,H Q t.cds.length qk,I J t.lvl,.bool t.bef] (by simp)).below (ba _ _) (by simp);have X3:Box ((((w.alloc (.cells #[H A0 n0 k0,H A1 n1 k1,H A2 n2 k2] 28)).alloc (.cells #[H C n a,H B m b,I J c.base,I J c.second,I J c.third] 32)).alloc (.cells #[H P t.anc.length pk,H Q t.cds.length qk,I J t.lvl,.bool t.bef] 35)).alloc (.cells #[H N 0 0,H N 0 0,I J 0,I J 0,I J 0] 32)) (w.heap.size+3) 32 [H N 0 0,H N 0 0,I J 0,I J 0,I J 0]:=Box.new (((w.alloc (.cells #[H A0 n0 k0,H A1 n1 k1,H A2 n2 k2] 28)).alloc (.cells #[H C n a,H B m b,I J c.base,I J c.second,I J c.third] 32)).alloc (.cells #[H P t.anc.length pk,H Q t.cds.length qk,I J t.lvl,.bool t.bef] 35)) 32 [H N 0 0,H N 0 0,I J 0,I J 0,I J 0] (by simp);have W0E:∃W0,((((w.alloc (.cells #[H A0 n0 k0,H A1 n1 k1,H A2 n2 k2] 28)).alloc (.cells #[H C n a,H B m b,I J c.base,I J c.second,I J c.third] 32)).alloc (.cells #[H P t.anc.length pk,H Q t.cds.length qk,I J t.lvl,.bool t.bef] 35)).alloc (.cells #[H N 0 0,H N 0 0,I J 0,I J 0,I J 0] 32))=W0:=⟨_,rfl⟩;have K1:=G (fun W(hb:By w W)=>EV A0 n0 k0 A1 n1 k1 A2 n2 k2 x C n a B m b c P pk Q qk t W (hN.below hb) hz (hL.below hb) (hC.below hb) hcz (hP.below hb) (hQ.below hb) (by omega) (by omega));have K2:=G (fun W(hb:By w W)=>kW A0 n0 k0 A1 n1 k1 A2 n2 k2 x Q t.cds.length qk t.cds false W (hN.below hb) hz (hL.below hb) (hQ.below hb) rfl hql hqi);have K3:=G (fun W(hb:By w W)=>NK A0 n0 k0 A1 n1 k1 A2 n2 k2 x C n a B m b c P t.anc.length pk t.anc W (hN.below hb) hz (hL.below hb) (hC.below hb) hcz (hP.below hb) rfl hpl hpi);have K4:=G (fun W(hb:By w W)=>rD A0 n0 k0 A1 n1 k1 A2 n2 k2 x C n a B m b c P t.anc.length pk t.anc W (hN.below hb) hz (hL.below hb) (hC.below hb) hcz (hP.below hb) rfl hpl hpi);have K5:=G (fun A k W(h:cB W A (aI x c t.anc))=>qR A (aI x c t.anc).length k (aI x c t.anc) W h rfl hes);have K6:=G (fun W(hb:By w W)=>uZ C n a B m b c W (hC.below hb) hcz);unfold bU at K1;unfold eS at K2;unfold eD at K3;unfold mK at K4 K5;unfold nW at K6;unfold aS at K1 K3 K4 K6|-;have HCZ:=G hcz;have HESL:=G hes;have HNN:=G hN;have HCC:=G hC;obtain⟨ec,hec⟩:∃e,jC x c t=e:=⟨_,rfl⟩;obtain⟨r,hr⟩:∃r,cZ x c t=r:=⟨_,rfl⟩;have HR0:=U (r=if ec≠0 then(ec,col0)else stepB (dtx x false t.cds) (fI x c t.anc) (aI x c t.anc) c t) (by rw[<-hr,<-hec];rfl)
 have HCK:=U (ec=0->bQ x=0/\aH c=0/\kndT t=true/\rngT t.anc=true/\rngT t.cds=true) (fun h=>by
  rw[<-hec]at h
  unfold jC at h
  split at h
  ·exact absurd h (by assumption)
  ·split at h
   ·exact absurd h (by assumption)
   ·split at h
    ·next h1 h2 h3=>
     split at h
     ·next h4=>exact⟨Classical.not_not.1 h1,Classical.not_not.1 h2,h3,by simp only[Bool.and_eq_true]at h4;exact h4.1,by simp only[Bool.and_eq_true]at h4;exact h4.2⟩
     cases h
    ·cases h)
 rw[hec]at K1;rw[hr];clear hr hec hN hC hL hP hQ hz hcz hpi hqi hpl hql hes;generalize t.anc.length=pn at *;generalize t.cds.length=qn at *;go_enter func13,ntmps13;go_upto_region 1 with(fail)
 obtain⟨W0,hW0⟩:=W0E;try rw[hW0]at B0 X0 X1 X2 X3|-
 clear hW0;have l0:=X0.lt;have l1:=X1.lt;have l2:=X2.lt;have l3:=X3.lt;have HB0:=G B0;have HX0:=G X0;have HX1:=G X1;have HX2:=G X2;have HX3:=G X3;clear X0 X1 X2 X3 B0;have c000:=HX0.out.c 0 rfl;have c001:=HX0.out.c 1 rfl;have c002:=HX0.out.c 2 rfl;have c010:=HX1.out.c 0 rfl;have c011:=HX1.out.c 1 rfl;have c012:=HX1.out.c 2 rfl;have c013:=HX1.out.c 3 rfl;have c014:=HX1.out.c 4 rfl;have c020:=HX2.out.c 0 rfl;have c021:=HX2.out.c 1 rfl;have c022:=HX2.out.c 2 rfl;have c023:=HX2.out.c 3 rfl;have C1:=G (K1.out W0 HB0.out);clear K1;go_wp2_with fail;with_reducible refine C1.out.mono ?_
 rintro e Wa ⟨rfl,hb1⟩;have HBa:=G (HB0.out.trans (hb1.mono HB0.out.size));have HX0a:=G (HX0.out.below hb1 HX0.out.lt);have HX1a:=G (HX1.out.below hb1 HX1.out.lt);have HX2a:=G (HX2.out.below hb1 HX2.out.lt);have HX3a:=G (HX3.out.below hb1 HX3.out.lt);clear hb1 C1 c000 c001 c002 c010 c011 c012 c013 c014 c020 c021 c022 c023;by_cases q1:ec=0
 ·obtain⟨h1,h2,h3,h4,h5⟩:=HCK.out q1
  have HG:=G (And.intro h1 (And.intro h2 (And.intro h3 (And.intro h4 h5))));have HR1:=U (r=stepB (dtx x false t.cds) (fI x c t.anc) (aI x c t.anc) c t) (by rw[HR0.out,if_neg (by simp[q1])]);have d1:(ec !=0)=false:=by simp[q1]
  clear q1 h1 h2 h3 h4 h5 HCK HR0;have ca00:=HX0a.out.c 0 rfl;have ca01:=HX0a.out.c 1 rfl;have ca02:=HX0a.out.c 2 rfl;have ca10:=HX1a.out.c 0 rfl;have ca11:=HX1a.out.c 1 rfl;have ca12:=HX1a.out.c 2 rfl;have ca13:=HX1a.out.c 3 rfl;have ca14:=HX1a.out.c 4 rfl;have ca20:=HX2a.out.c 0 rfl;have ca21:=HX2a.out.c 1 rfl;have ca22:=HX2a.out.c 2 rfl;have ca23:=HX2a.out.c 3 rfl;have C2:=G (K2.out Wa HBa.out);clear K2;go_wp2_with fail;with_reducible refine C2.out.mono ?_
  rintro e Wb ⟨D,dk,rfl,hDr,hb1⟩;have HBb:=G (HBa.out.trans (hb1.mono HBa.out.size));have HX0b:=G (HX0a.out.below hb1 HX0a.out.lt);have HX1b:=G (HX1a.out.below hb1 HX1a.out.lt);have HX2b:=G (HX2a.out.below hb1 HX2a.out.lt);have HX3b:=G (HX3a.out.below hb1 HX3a.out.lt);have HD:=G hDr;clear hb1 hDr C2 ca00 ca01 ca02 ca10 ca11 ca12 ca13 ca14 ca20 ca21 ca22 ca23;generalize dtx x false t.cds=d at *;by_cases q2:8<d.length
  ·have d2:decide ((8:Int)<(d.length:Int))=true:=by simp;omega
   have HE:=U (r=(2,col0)) (by rw[HR1.out];unfold stepB;rw[if_pos q2]);clear q2;have f0:=HX3b.out.free 0;have f1:=HX3b.out.free 1;have f2:=HX3b.out.free 2;have f3:=HX3b.out.free 3;have f4:=HX3b.out.free 4;have g0:=HX3b.out.c 0 rfl;have g1:=HX3b.out.c 1 rfl;have g2:=HX3b.out.c 2 rfl;have g3:=HX3b.out.c 3 rfl;have g4:=HX3b.out.c 4 rfl;have ZF:Box (((((Wb.setCell ⟨w.heap.size+3,0,N⟩ (H N 0 0)).setCell ⟨w.heap.size+3,1,N⟩ (H N 0 0)).setCell ⟨w.heap.size+3,2,N⟩ (I J 0)).setCell ⟨w.heap.size+3,3,N⟩ (I J 0)).setCell ⟨w.heap.size+3,4,N⟩ (I J 0)) (w.heap.size+3) 32 [H N 0 0,H N 0 0,I J 0,I J 0,I J 0]:=(((((HX3b.out.set 0 (H N 0 0)).set 1 (H N 0 0)).set 2 (I J 0)).set 3 (I J 0)).set 4 (I J 0));have BF:By w (((((Wb.setCell ⟨w.heap.size+3,0,N⟩ (H N 0 0)).setCell ⟨w.heap.size+3,1,N⟩ (H N 0 0)).setCell ⟨w.heap.size+3,2,N⟩ (I J 0)).setCell ⟨w.heap.size+3,3,N⟩ (I J 0)).setCell ⟨w.heap.size+3,4,N⟩ (I J 0)):=(((((HBb.out.setCell (p:=⟨w.heap.size+3,0,N⟩) (by dsimp only;omega) (H N 0 0)).setCell (p:=⟨w.heap.size+3,1,N⟩) (by dsimp only;omega) (H N 0 0)).setCell (p:=⟨w.heap.size+3,2,N⟩) (by dsimp only;omega) (I J 0)).setCell (p:=⟨w.heap.size+3,3,N⟩) (by dsimp only;omega) (I J 0)).setCell (p:=⟨w.heap.size+3,4,N⟩) (by dsimp only;omega) (I J 0));have WFE:∃Wf,(((((Wb.setCell ⟨w.heap.size+3,0,N⟩ (H N 0 0)).setCell ⟨w.heap.size+3,1,N⟩ (H N 0 0)).setCell ⟨w.heap.size+3,2,N⟩ (I J 0)).setCell ⟨w.heap.size+3,3,N⟩ (I J 0)).setCell ⟨w.heap.size+3,4,N⟩ (I J 0))=Wf:=⟨_,rfl⟩;go_wp2_with fail;obtain⟨Wf,hWf⟩:=WFE;try rw[hWf]at ZF BF|-
   clear hWf;have z0:=ZF.c 0 rfl;have z1:=ZF.c 1 rfl;have z2:=ZF.c 2 rfl;have z3:=ZF.c 3 rfl;have z4:=ZF.c 4 rfl;(try simp only[Exit.inBlock,Exit.then]);refine bodyPost_ret (jM rfl _ _ (b:=w.heap.size+3) rfl rfl z0 z1 z2 z3 z4) rfl ?_;rw[HE.out];exact⟨N,0,N,0,rfl,eX _,fun _ W' _ _=>eX W',BF⟩
  ·have d2:decide ((8:Int)<(d.length:Int))=false:=by simp;omega
   have HD8:=G q2;clear q2;have cb00:=HX0b.out.c 0 rfl;have cb01:=HX0b.out.c 1 rfl;have cb02:=HX0b.out.c 2 rfl;have cb10:=HX1b.out.c 0 rfl;have cb11:=HX1b.out.c 1 rfl;have cb12:=HX1b.out.c 2 rfl;have cb13:=HX1b.out.c 3 rfl;have cb14:=HX1b.out.c 4 rfl;have cb20:=HX2b.out.c 0 rfl;have cb21:=HX2b.out.c 1 rfl;have cb22:=HX2b.out.c 2 rfl;have cb23:=HX2b.out.c 3 rfl;have C3:=G (K3.out Wb HBb.out);clear K3;go_wp2_with fail;with_reducible refine C3.out.mono ?_
   rintro e Wc ⟨rfl,hb1⟩;have HBc:=G (HBb.out.trans (hb1.mono HBb.out.size));have HX0c:=G (HX0b.out.below hb1 HX0b.out.lt);have HX1c:=G (HX1b.out.below hb1 HX1b.out.lt);have HX2c:=G (HX2b.out.below hb1 HX2b.out.lt);have HX3c:=G (HX3b.out.below hb1 HX3b.out.lt);have HDc:=G (bI HD.out hb1);clear hb1 C3 cb00 cb01 cb02 cb10 cb11 cb12 cb13 cb14 cb20 cb21 cb22 cb23;cases hkn:fI x c t.anc with
   |false=>
    have HE:=U (r=(7,col0)) (by rw[HR1.out];unfold stepB;rw[if_neg HD8.out,if_pos (.inl hkn)]);clear hkn;have f0:=HX3c.out.free 0;have f1:=HX3c.out.free 1;have f2:=HX3c.out.free 2;have f3:=HX3c.out.free 3;have f4:=HX3c.out.free 4;have g0:=HX3c.out.c 0 rfl;have g1:=HX3c.out.c 1 rfl;have g2:=HX3c.out.c 2 rfl;have g3:=HX3c.out.c 3 rfl;have g4:=HX3c.out.c 4 rfl;have ZF:Box (((((Wc.setCell ⟨w.heap.size+3,0,N⟩ (H N 0 0)).setCell ⟨w.heap.size+3,1,N⟩ (H N 0 0)).setCell ⟨w.heap.size+3,2,N⟩ (I J 0)).setCell ⟨w.heap.size+3,3,N⟩ (I J 0)).setCell ⟨w.heap.size+3,4,N⟩ (I J 0)) (w.heap.size+3) 32 [H N 0 0,H N 0 0,I J 0,I J 0,I J 0]:=(((((HX3c.out.set 0 (H N 0 0)).set 1 (H N 0 0)).set 2 (I J 0)).set 3 (I J 0)).set 4 (I J 0));have BF:By w (((((Wc.setCell ⟨w.heap.size+3,0,N⟩ (H N 0 0)).setCell ⟨w.heap.size+3,1,N⟩ (H N 0 0)).setCell ⟨w.heap.size+3,2,N⟩ (I J 0)).setCell ⟨w.heap.size+3,3,N⟩ (I J 0)).setCell ⟨w.heap.size+3,4,N⟩ (I J 0)):=(((((HBc.out.setCell (p:=⟨w.heap.size+3,0,N⟩) (by dsimp only;omega) (H N 0 0)).setCell (p:=⟨w.heap.size+3,1,N⟩) (by dsimp only;omega) (H N 0 0)).setCell (p:=⟨w.heap.size+3,2,N⟩) (by dsimp only;omega) (I J 0)).setCell (p:=⟨w.heap.size+3,3,N⟩) (by dsimp only;omega) (I J 0)).setCell (p:=⟨w.heap.size+3,4,N⟩) (by dsimp only;omega) (I J 0));have WFE:∃Wf,(((((Wc.setCell ⟨w.heap.size+3,0,N⟩ (H N 0 0)).setCell ⟨w.heap.size+3,1,N⟩ (H N 0 0)).setCell ⟨w.heap.size+3,2,N⟩ (I J 0)).setCell ⟨w.heap.size+3,3,N⟩ (I J 0)).setCell ⟨w.heap.size+3,4,N⟩ (I J 0))=Wf:=⟨_,rfl⟩;go_wp2_with fail;obtain⟨Wf,hWf⟩:=WFE;try rw[hWf]at ZF BF|-
    clear hWf;have z0:=ZF.c 0 rfl;have z1:=ZF.c 1 rfl;have z2:=ZF.c 2 rfl;have z3:=ZF.c 3 rfl;have z4:=ZF.c 4 rfl;(try simp only[Exit.inBlock,Exit.then]);refine bodyPost_ret (jM rfl _ _ (b:=w.heap.size+3) rfl rfl z0 z1 z2 z3 z4) rfl ?_;rw[HE.out];exact⟨N,0,N,0,rfl,eX _,fun _ W' _ _=>eX W',BF⟩
   |true=>
    have HR2:=U (r=if 0<t.lvl/\lstK t.lvl (aI x c t.anc) (aI x c t.anc).length=0 then(7,col0)else if t.lvl=0 then(if 16<(aI x c t.anc).length then(2,col0)else(0,{ c with ents:=putE c.ents ⟨d,aI x c t.anc⟩ }))else if 16<lstK t.lvl (aI x c t.anc) (aI x c t.anc).length then(2,col0)
 else if overC (roomT t (aI x c t.anc) c)=true\/(newL t (aI x c t.anc) c).any bigE=true then(13,col0)
 else(0,{ roomT t (aI x c t.anc) c with ents:=putE (roomT t (aI x c t.anc) c).ents ⟨d,newL t (aI x c t.anc) c⟩ })) (by
     rw[HR1.out,hkn]
     unfold stepB
     rw[if_neg HD8.out]
     by_cases hq:0<t.lvl/\lstK t.lvl (aI x c t.anc) (aI x c t.anc).length=0
     ·rw[if_pos hq,if_pos (.inr hq)]
     ·rw[if_neg hq,if_neg (by rintro(h|h);exact absurd h (by decide);exact hq h)])
    have HKM:=G (CY HG.out.2.1 hkn);clear hkn HR1;have cc00:=HX0c.out.c 0 rfl;have cc01:=HX0c.out.c 1 rfl;have cc02:=HX0c.out.c 2 rfl;have cc10:=HX1c.out.c 0 rfl;have cc11:=HX1c.out.c 1 rfl;have cc12:=HX1c.out.c 2 rfl;have cc13:=HX1c.out.c 3 rfl;have cc14:=HX1c.out.c 4 rfl;have cc20:=HX2c.out.c 0 rfl;have cc21:=HX2c.out.c 1 rfl;have cc22:=HX2c.out.c 2 rfl;have cc23:=HX2c.out.c 3 rfl;have C4:=G (K4.out Wc HBc.out);clear K4;go_wp2_with fail;with_reducible refine C4.out.mono ?_
    rintro e Wd ⟨E1,e1,rfl,hEr,hb1⟩;have HBd:=G (HBc.out.trans (hb1.mono HBc.out.size));have HX0d:=G (HX0c.out.below hb1 HX0c.out.lt);have HX1d:=G (HX1c.out.below hb1 HX1c.out.lt);have HX2d:=G (HX2c.out.below hb1 HX2c.out.lt);have HX3d:=G (HX3c.out.below hb1 HX3c.out.lt);have HDd:=G (bI HDc.out hb1);have C5:=G (K5.out E1 e1 Wd (Sl.of_own hEr));clear hb1 C4 hEr K5;go_wp2_with fail;with_reducible refine C5.out.mono ?_
    rintro e We ⟨E,ek,rfl,hEr,hb1⟩;have HBe:=G (HBd.out.trans (hb1.mono HBd.out.size));have HX0e:=G (HX0d.out.below hb1 HX0d.out.lt);have HX1e:=G (HX1d.out.below hb1 HX1d.out.lt);have HX2e:=G (HX2d.out.below hb1 HX2d.out.lt);have HX3e:=G (HX3d.out.below hb1 HX3d.out.lt);have HDe:=G (bI HDd.out hb1);have HEe:=G hEr;clear hb1 C5 hEr cc00 cc01 cc02 cc10 cc11 cc12 cc13 cc14 cc20 cc21 cc22 cc23;generalize aI x c t.anc=es at *;have ce00:=HX0e.out.c 0 rfl;have ce01:=HX0e.out.c 1 rfl;have ce02:=HX0e.out.c 2 rfl;have ce10:=HX1e.out.c 0 rfl;have ce11:=HX1e.out.c 1 rfl;have ce12:=HX1e.out.c 2 rfl;have ce13:=HX1e.out.c 3 rfl;have ce14:=HX1e.out.c 4 rfl;have ce20:=HX2e.out.c 0 rfl;have ce21:=HX2e.out.c 1 rfl;have ce22:=HX2e.out.c 2 rfl;have ce23:=HX2e.out.c 3 rfl;by_cases q3:t.lvl=0
    ·have d3:(t.lvl==0)=true:=by simp[q3]
     have HR3:=U (r=if 16<es.length then(2,col0)else(0,{ c with ents:=putE c.ents ⟨d,es⟩ })) (by
      rw[HR2.out,if_neg (by omega),if_pos q3])
     clear q3 HR2;by_cases q4:16<es.length
     ·have d4:decide ((16:Int)<(es.length:Int))=true:=by simp;omega
      have HE:=U (r=(2,col0)) (by rw[HR3.out,if_pos q4]);clear q4;have f0:=HX3e.out.free 0;have f1:=HX3e.out.free 1;have f2:=HX3e.out.free 2;have f3:=HX3e.out.free 3;have f4:=HX3e.out.free 4;have g0:=HX3e.out.c 0 rfl;have g1:=HX3e.out.c 1 rfl;have g2:=HX3e.out.c 2 rfl;have g3:=HX3e.out.c 3 rfl;have g4:=HX3e.out.c 4 rfl;have ZF:Box (((((We.setCell ⟨w.heap.size+3,0,N⟩ (H N 0 0)).setCell ⟨w.heap.size+3,1,N⟩ (H N 0 0)).setCell ⟨w.heap.size+3,2,N⟩ (I J 0)).setCell ⟨w.heap.size+3,3,N⟩ (I J 0)).setCell ⟨w.heap.size+3,4,N⟩ (I J 0)) (w.heap.size+3) 32 [H N 0 0,H N 0 0,I J 0,I J 0,I J 0]:=(((((HX3e.out.set 0 (H N 0 0)).set 1 (H N 0 0)).set 2 (I J 0)).set 3 (I J 0)).set 4 (I J 0));have BF:By w (((((We.setCell ⟨w.heap.size+3,0,N⟩ (H N 0 0)).setCell ⟨w.heap.size+3,1,N⟩ (H N 0 0)).setCell ⟨w.heap.size+3,2,N⟩ (I J 0)).setCell ⟨w.heap.size+3,3,N⟩ (I J 0)).setCell ⟨w.heap.size+3,4,N⟩ (I J 0)):=(((((HBe.out.setCell (p:=⟨w.heap.size+3,0,N⟩) (by dsimp only;omega) (H N 0 0)).setCell (p:=⟨w.heap.size+3,1,N⟩) (by dsimp only;omega) (H N 0 0)).setCell (p:=⟨w.heap.size+3,2,N⟩) (by dsimp only;omega) (I J 0)).setCell (p:=⟨w.heap.size+3,3,N⟩) (by dsimp only;omega) (I J 0)).setCell (p:=⟨w.heap.size+3,4,N⟩) (by dsimp only;omega) (I J 0));have WFE:∃Wf,(((((We.setCell ⟨w.heap.size+3,0,N⟩ (H N 0 0)).setCell ⟨w.heap.size+3,1,N⟩ (H N 0 0)).setCell ⟨w.heap.size+3,2,N⟩ (I J 0)).setCell ⟨w.heap.size+3,3,N⟩ (I J 0)).setCell ⟨w.heap.size+3,4,N⟩ (I J 0))=Wf:=⟨_,rfl⟩;go_wp2_with fail;obtain⟨Wf,hWf⟩:=WFE;try rw[hWf]at ZF BF|-
      clear hWf;have z0:=ZF.c 0 rfl;have z1:=ZF.c 1 rfl;have z2:=ZF.c 2 rfl;have z3:=ZF.c 3 rfl;have z4:=ZF.c 4 rfl;(try simp only[Exit.inBlock,Exit.then]);refine bodyPost_ret (jM rfl _ _ (b:=w.heap.size+3) rfl rfl z0 z1 z2 z3 z4) rfl ?_;rw[HE.out];exact⟨N,0,N,0,rfl,eX _,fun _ W' _ _=>eX W',BF⟩
     have d4:decide ((16:Int)<(es.length:Int))=false:=by simp;omega
     have HE:=U (r=(0,{ c with ents:=putE c.ents ⟨d,es⟩ })) (by rw[HR3.out,if_neg q4]);clear q4 HR3;have C6:=G (K6.out We HBe.out);clear K6;go_wp2_with fail;with_reducible refine C6.out.mono ?_
     rintro e Wf ⟨A',a',B',b',base,zz,top,rfl,hcp,hgr,hBb,hca,hz1,hz2,hb1⟩;have HBf:=G (HBe.out.trans (hb1.mono HBe.out.size));have HX0f:=G (HX0e.out.below hb1 HX0e.out.lt);have HX1f:=G (HX1e.out.below hb1 HX1e.out.lt);have HX2f:=G (HX2e.out.below hb1 HX2e.out.lt);have HX3f:=G (HX3e.out.below hb1 HX3e.out.lt);obtain⟨vs,mm,hop⟩:=hcp.open;have hAb:∀q,blk A'=some q->base<=q:=fun q hq=>(aU hop.row hq).1
     have hDb:∀q,blk D=some q->q<We.heap.size:=fun q hq=>(aU HDe.out hq).2
     have hEb:∀q,blk E=some q->q<We.heap.size:=fun q hq=>(aU HEe.out hq).2
     have hbs:min base Wf.heap.size<=Wf.heap.size:=Nat.min_le_right _ _;have hop2:=hop.lower (Nat.min_le_left base Wf.heap.size);have C7:=G (yJ (min base Wf.heap.size) zz A' a' vs mm top c B' b' D dk d E ek es Wf hop2 hca.grps (fun _ q hq e=>by have:=hBb q hq;have:=hAb q e;omega) (Sl.of_own (bI HDe.out hb1)) (fun _ q hq e=>by have:=hDb q hq;have:=hAb q e;omega) (Sl.of_own (bI HEe.out hb1)) (fun _ q hq e=>by have:=hEb q hq;have:=hAb q e;omega) (mX (eY HG.out.2.1)).1 HCZ.out (by have:=HD8.out;omega) hca.hs hbs);have HAB:=G hAb;have hws:=HBe.out.size;have hx3:=HX3f.out.lt;have hwz:w.heap.size+3<base:=by have:=HX3e.out.lt;omega
     have HNB:=U ((∀q,blk B'=some q->w.heap.size+3<q)/\(∀q,blk D=some q->w.heap.size+3<q)/\(∀q,blk E=some q->w.heap.size+3<q)) (⟨fun q e=>by have:=(aU hgr e).1;have:=HX3e.out.lt;omega,fun q e=>by have:=(aU HDe.out e).1;have:=HX3a.out.lt;omega,fun q e=>by have:=(aU HEe.out e).1;have:=HX3d.out.lt;omega⟩);clear hcp hgr hBb hca hb1 hop hop2 hAb hDb hEb C6;unfold qA aS at C7;go_wp2_with fail;with_reducible refine C7.out.mono ?_
     rintro e Wg ⟨A2,a2,rfl,-,hgw,hall⟩;have HX3g:=G (HX3f.out.grown hgw (fun e=>by have:=HAB.out _ e.symm;omega));have HBg:=G (HBf.out.trans (Chg.below (Chg.of_grown (S:=fun q=>blk A'=some q) hgw (fun _ e=>e)) (n:=w.heap.size) HBf.out.size (fun k hk=>by have:=HAB.out k hk;omega)));have HALL:=G (fun W'(g:Chg (fun q=>q=w.heap.size+3\/q<w.heap.size) Wg W')=>hall _ W' g (fun q(hq:q=w.heap.size+3\/q<w.heap.size)=>⟨by omega,by omega,fun e=>by have:=HNB.out.1 q e;omega,fun e=>by have:=HNB.out.2.1 q e;omega,fun e=>by have:=HNB.out.2.2 q e;omega⟩));clear hall hgw C7;have f0:=HX3g.out.free 0;have f1:=HX3g.out.free 1;have f2:=HX3g.out.free 2;have f3:=HX3g.out.free 3;have f4:=HX3g.out.free 4;have g0:=HX3g.out.c 0 rfl;have g1:=HX3g.out.c 1 rfl;have g2:=HX3g.out.c 2 rfl;have g3:=HX3g.out.c 3 rfl;have g4:=HX3g.out.c 4 rfl;have ZF:Box (((((Wg.setCell ⟨w.heap.size+3,0,N⟩ (H A2 (putE c.ents ⟨d,es⟩).length a2)).setCell ⟨w.heap.size+3,1,N⟩ (H B' c.grps.length b')).setCell ⟨w.heap.size+3,2,N⟩ (I J c.base)).setCell ⟨w.heap.size+3,3,N⟩ (I J c.second)).setCell ⟨w.heap.size+3,4,N⟩ (I J c.third)) (w.heap.size+3) 32 [H A2 (putE c.ents ⟨d,es⟩).length a2,H B' c.grps.length b',I J c.base,I J c.second,I J c.third]:=(((((HX3g.out.set 0 (H A2 (putE c.ents ⟨d,es⟩).length a2)).set 1 (H B' c.grps.length b')).set 2 (I J c.base)).set 3 (I J c.second)).set 4 (I J c.third));have BF:By w (((((Wg.setCell ⟨w.heap.size+3,0,N⟩ (H A2 (putE c.ents ⟨d,es⟩).length a2)).setCell ⟨w.heap.size+3,1,N⟩ (H B' c.grps.length b')).setCell ⟨w.heap.size+3,2,N⟩ (I J c.base)).setCell ⟨w.heap.size+3,3,N⟩ (I J c.second)).setCell ⟨w.heap.size+3,4,N⟩ (I J c.third)):=(((((HBg.out.setCell (p:=⟨w.heap.size+3,0,N⟩) (by dsimp only;omega) (H A2 (putE c.ents ⟨d,es⟩).length a2)).setCell (p:=⟨w.heap.size+3,1,N⟩) (by dsimp only;omega) (H B' c.grps.length b')).setCell (p:=⟨w.heap.size+3,2,N⟩) (by dsimp only;omega) (I J c.base)).setCell (p:=⟨w.heap.size+3,3,N⟩) (by dsimp only;omega) (I J c.second)).setCell (p:=⟨w.heap.size+3,4,N⟩) (by dsimp only;omega) (I J c.third));have CF:aY (((((Wg.setCell ⟨w.heap.size+3,0,N⟩ (H A2 (putE c.ents ⟨d,es⟩).length a2)).setCell ⟨w.heap.size+3,1,N⟩ (H B' c.grps.length b')).setCell ⟨w.heap.size+3,2,N⟩ (I J c.base)).setCell ⟨w.heap.size+3,3,N⟩ (I J c.second)).setCell ⟨w.heap.size+3,4,N⟩ (I J c.third)) _ _ _ _ _:=HALL.out _ (Chg.of_grown (aG (p:=⟨w.heap.size+3,4,N⟩) (aG (p:=⟨w.heap.size+3,3,N⟩) (aG (p:=⟨w.heap.size+3,2,N⟩) (aG (p:=⟨w.heap.size+3,1,N⟩) (aG (p:=⟨w.heap.size+3,0,N⟩) (aN Wg _) _) _) _) _) _) (fun q e=>.inl (Option.some.inj e).symm));have CFR:∀Z W',Chg Z ((((((Wg.setCell ⟨w.heap.size+3,0,N⟩ (H A2 (putE c.ents ⟨d,es⟩).length a2)).setCell ⟨w.heap.size+3,1,N⟩ (H B' c.grps.length b')).setCell ⟨w.heap.size+3,2,N⟩ (I J c.base)).setCell ⟨w.heap.size+3,3,N⟩ (I J c.second)).setCell ⟨w.heap.size+3,4,N⟩ (I J c.third))) W'->(∀q,Z q->q<w.heap.size)->aY W' _ _ _ _ _:=fun Z W' hc hZ=>HALL.out W' ((Chg.of_grown (aG (p:=⟨w.heap.size+3,4,N⟩) (aG (p:=⟨w.heap.size+3,3,N⟩) (aG (p:=⟨w.heap.size+3,2,N⟩) (aG (p:=⟨w.heap.size+3,1,N⟩) (aG (p:=⟨w.heap.size+3,0,N⟩) (aN Wg _) _) _) _) _) _) (fun q e=>.inl (Option.some.inj e).symm)).trans (hc.mono (fun k _ z=>.inr (hZ k z))))
     have WFE:∃Wf,(((((Wg.setCell ⟨w.heap.size+3,0,N⟩ (H A2 (putE c.ents ⟨d,es⟩).length a2)).setCell ⟨w.heap.size+3,1,N⟩ (H B' c.grps.length b')).setCell ⟨w.heap.size+3,2,N⟩ (I J c.base)).setCell ⟨w.heap.size+3,3,N⟩ (I J c.second)).setCell ⟨w.heap.size+3,4,N⟩ (I J c.third))=Wf:=⟨_,rfl⟩;go_wp2_with fail;obtain⟨Wf,hWf⟩:=WFE;try rw[hWf]at ZF BF CF CFR|-
     clear hWf;have z0:=ZF.c 0 rfl;have z1:=ZF.c 1 rfl;have z2:=ZF.c 2 rfl;have z3:=ZF.c 3 rfl;have z4:=ZF.c 4 rfl;(try simp only[Exit.inBlock,Exit.then]);refine bodyPost_ret (jM rfl _ _ (b:=w.heap.size+3) rfl rfl z0 z1 z2 z3 z4) rfl ?_;rw[HE.out];exact⟨_,_,_,_,rfl,CF,fun Z W' hc hZ=>CFR Z W' hc hZ,BF⟩
    ·have d3:(t.lvl==0)=false:=by simp[q3]
     have hlv:t.lvl=1\/t.lvl=2\/t.lvl=3:=by
      have h:=HG.out.2.2.1;unfold kndT at h;simp only[Bool.and_eq_true,decide_eq_true_eq]at h;omega
     have HLV:=G hlv
     have HR3:=U (r=if lstK t.lvl es es.length=0 then(7,col0)else if 16<lstK t.lvl es es.length then(2,col0)
 else if overC (roomT t es c)=true\/(newL t es c).any bigE=true then(13,col0)
 else(0,{ roomT t es c with ents:=putE (roomT t es c).ents ⟨d,newL t es c⟩ })) (by
      rw[HR2.out]
      by_cases hq:lstK t.lvl es es.length=0
      ·rw[if_pos ⟨by omega,hq⟩,if_pos hq]
      ·rw[if_neg (fun g=>hq g.2),if_neg q3,if_neg hq])
     clear q3 hlv HR2;go_upto_region 14 with(fail)
     clear ce00 ce01 ce02 ce10 ce11 ce12 ce13 ce14 ce20 ce21 ce22 ce23;have hesl:es.length<=1048576:=HESL.out;go_wp2_with fail;go_loopw [11] (fun u wr=>∃i:Nat,i<=es.length/\u=I J ((i:Int)-1)/\lstK t.lvl es es.length=lstK t.lvl es i/\By We wr) (fun u _=>((intOf u)+1).toNat)
     case atStart=>exact⟨es.length,Nat.le_refl _,by go_num,rfl,Below.refl _ _⟩
     case round=>
      obtain⟨i,hi,rfl,hls,hbr⟩:=hrel;have HLS:=G hls;have HBR:=G hbr;clear hls hbr;by_cases h0:i=0
      ·have HE:=U (r=(7,col0)) (by rw[HR3.out,if_pos (by rw[HLS.out,h0];rfl)])
       obtain⟨z,hz⟩:∃z:Int,(i:Int)-1=z:=⟨_,rfl⟩;have hz1:z=-1:=by omega
       rw[hz];clear hz h0 hi HLS HR3;have d5:decide (0<=z)=false:=by simp;omega
       have d6:decide (z<0)=true:=by simp;omega
       have hbd:By We wr.drew:=HBR.out.trans ((show By wr wr.drew from(Below.refl _ _).drew).mono HBR.out.size);have HBw:=G (HBe.out.trans (hbd.mono HBe.out.size));have HX3w:=G (HX3e.out.below hbd HX3e.out.lt);clear hbd;go_wp2_with fail;go_region;obtain⟨wd,hwd⟩:∃x,wr.drew=x:=⟨_,rfl⟩;rw[hwd]at HBw HX3w|-;clear hwd;have f0:=HX3w.out.free 0;have f1:=HX3w.out.free 1;have f2:=HX3w.out.free 2;have f3:=HX3w.out.free 3;have f4:=HX3w.out.free 4;have g0:=HX3w.out.c 0 rfl;have g1:=HX3w.out.c 1 rfl;have g2:=HX3w.out.c 2 rfl;have g3:=HX3w.out.c 3 rfl;have g4:=HX3w.out.c 4 rfl;have ZF:Box (((((wd.setCell ⟨w.heap.size+3,0,N⟩ (H N 0 0)).setCell ⟨w.heap.size+3,1,N⟩ (H N 0 0)).setCell ⟨w.heap.size+3,2,N⟩ (I J 0)).setCell ⟨w.heap.size+3,3,N⟩ (I J 0)).setCell ⟨w.heap.size+3,4,N⟩ (I J 0)) (w.heap.size+3) 32 [H N 0 0,H N 0 0,I J 0,I J 0,I J 0]:=(((((HX3w.out.set 0 (H N 0 0)).set 1 (H N 0 0)).set 2 (I J 0)).set 3 (I J 0)).set 4 (I J 0));have BF:By w (((((wd.setCell ⟨w.heap.size+3,0,N⟩ (H N 0 0)).setCell ⟨w.heap.size+3,1,N⟩ (H N 0 0)).setCell ⟨w.heap.size+3,2,N⟩ (I J 0)).setCell ⟨w.heap.size+3,3,N⟩ (I J 0)).setCell ⟨w.heap.size+3,4,N⟩ (I J 0)):=(((((HBw.out.setCell (p:=⟨w.heap.size+3,0,N⟩) (by dsimp only;omega) (H N 0 0)).setCell (p:=⟨w.heap.size+3,1,N⟩) (by dsimp only;omega) (H N 0 0)).setCell (p:=⟨w.heap.size+3,2,N⟩) (by dsimp only;omega) (I J 0)).setCell (p:=⟨w.heap.size+3,3,N⟩) (by dsimp only;omega) (I J 0)).setCell (p:=⟨w.heap.size+3,4,N⟩) (by dsimp only;omega) (I J 0));have WFE:∃Wf,(((((wd.setCell ⟨w.heap.size+3,0,N⟩ (H N 0 0)).setCell ⟨w.heap.size+3,1,N⟩ (H N 0 0)).setCell ⟨w.heap.size+3,2,N⟩ (I J 0)).setCell ⟨w.heap.size+3,3,N⟩ (I J 0)).setCell ⟨w.heap.size+3,4,N⟩ (I J 0))=Wf:=⟨_,rfl⟩;go_wp2_with fail;obtain⟨Wf,hWf⟩:=WFE;try rw[hWf]at ZF BF|-
       clear hWf;have z0:=ZF.c 0 rfl;have z1:=ZF.c 1 rfl;have z2:=ZF.c 2 rfl;have z3:=ZF.c 3 rfl;have z4:=ZF.c 4 rfl;(try simp only[Exit.inBlock,Exit.then]);refine bodyPost_ret (jM rfl _ _ (b:=w.heap.size+3) rfl rfl z0 z1 z2 z3 z4) rfl ?_;rw[HE.out];exact⟨N,0,N,0,rfl,eX _,fun _ W' _ _=>eX W',BF⟩
      ·obtain⟨j,rfl⟩:∃j,i=j+1:=⟨i-1,by omega⟩
       have hjl:j<es.length:=by omega
       have HL1:=U (lstK t.lvl es (j+1)=if wt t.lvl es[j]≠0 then j+1 else lstK t.lvl es j) (by
        conv=>lhs;unfold lstK
        rw[List.getD_eq_getElem?_getD,List.getElem?_eq_getElem hjl];rfl)
       obtain⟨qel,rfl,hqe1,hqe2⟩:=gY HEe.out (by omega)
       have HEC:=U (∀W',By We W'->W'.cell? ⟨qel,j*4,N⟩=some (I J es[j].p)/\W'.cell? ⟨qel,j*4+1,N⟩=some (I J es[j].s)/\W'.cell? ⟨qel,j*4+2,N⟩=some (I J es[j].t)/\W'.cell? ⟨qel,j*4+3,N⟩=some (.bool es[j].v)) (fun W' hb=>
        have gt:=fun f(hf:f<4)=>((bI HEe.out hb).cellAt (j*4+f) (by omega)).trans (gW Elt.cells 4 (fun _=>rfl) es j f hjl hf)
        ⟨gt 0 (by omega),gt 1 (by omega),gt 2 (by omega),gt 3 (by omega)⟩)
       obtain⟨el,hel⟩:∃el,es[j]=el:=⟨_,rfl⟩;rw[hel]at HL1 HEC;have HEL:=U (es.getD j ⟨0,0,0,false⟩=el) (by rw[List.getD_eq_getElem?_getD,List.getElem?_eq_getElem hjl,hel];rfl);have HELM:=U (el∈es) (hel ▸ List.getElem_mem hjl);clear hel
       have SH:=G (fun(W':Wv) (hb:By wr W')=>show W'.cell? ⟨qel,j*4,N⟩=some (I J el.p)/\W'.cell? ⟨qel,j*4+1,N⟩=some (I J el.s)/\W'.cell? ⟨qel,j*4+2,N⟩=some (I J el.t)/\W'.cell? ⟨qel,j*4+3,N⟩=some (.bool el.v)/\W'.cell? ⟨w.heap.size+2,2,N⟩=some (I J t.lvl)/\By wr W' from by
        have hbw:=HBR.out.trans (hb.mono HBR.out.size)
        obtain⟨e0,e1,e2,e3⟩:=HEC.out W' hbw
        exact⟨e0,e1,e2,e3,(HX2e.out.below hbw HX2e.out.lt).c 2 rfl,hb⟩)
       have KW:=G (fun W=>WQ el t.lvl HLV.out W);unfold bU at KW;have HLV2:=U (wt t.lvl el=wt t.lvl el) rfl;obtain⟨lw,hlw⟩:∃x,wt t.lvl el=x:=⟨_,rfl⟩;rw[hlw]at KW HL1;have HLW:=G hlw;clear hlw h0 HLV2;have hz0:(((j+1:Nat):Int))-1=(j:Int):=by omega
       rw[hz0];have hji:(j:Int)<(es.length:Int):=by omega
       have d9:decide (0<=(j:Int))=true:=by simp
       clear hz0;go_wp2_with fail;refine wp_region_held_drew (S:=fun W'=>W'.cell? ⟨qel,j*4,N⟩=some (I J el.p)/\W'.cell? ⟨qel,j*4+1,N⟩=some (I J el.s)/\W'.cell? ⟨qel,j*4+2,N⟩=some (I J el.t)/\W'.cell? ⟨qel,j*4+3,N⟩=some (.bool el.v)/\W'.cell? ⟨w.heap.size+2,2,N⟩=some (I J t.lvl)/\By wr W') (by kernel_rfl) (SH.out _ ((Below.refl _ _).drew)) (fun hHeld=>?_);refine tK 0 57 ?_;refine tV 1 58 (.bool true) ?_ ?_
       ·intro w hSw;(try dsimp only at hSw);go_split_ands;go_simp
       try simp only[Act.put,sA,sB,sC]
       refine tK 2 59 ?_;refine tK 3 60 ?_;refine tK 4 61 ?_;refine tK 5 62 ?_;refine tK 6 63 ?_;refine tK 7 64 ?_;refine tK 8 65 ?_;refine qK 9 66 ((KW.out _).mono (by rintro e w' ⟨rfl,hb⟩;exact⟨rfl,SH.out _ ((hHeld.2.2.2.2.2).trans (hb.mono (hHeld.2.2.2.2.2).size))⟩)) ?_;clear hHeld;intro W2 hHeld;refine tK 10 67 ?_;refine tK 11 68 ?_;refine wpAnyH_done (by kernel_rfl) ?_ _;have hb2:=hHeld.2.2.2.2.2;have HB2:=G (HBR.out.trans (hb2.mono HBR.out.size));clear hHeld hb2 SH;obtain⟨bq,hbq⟩:∃b,(lw==0)=b:=⟨_,rfl⟩;(try rw[hbq]);have HBQ:=G hbq;clear hbq;cases bq with
       |true=>
        have HLT:=U (lstK t.lvl es es.length=lstK t.lvl es j) (by
         have h0:lw=0:=eq_of_beq HBQ.out
         rw[HLS.out,HL1.out,if_neg (fun h=>h h0)])
        clear HL1 HLS HEC HEL HELM KW HLW;go_wp2_with fail;go_roundw
        case rel=>exact⟨j,by omega,by go_num,HLT.out,HB2.out⟩
        (try simp[intOf])<;>(try omega)
       |false=>
        have HLN:=U (lw≠0) (by have:=HBQ.out;simpa using this);have HK:=U (lstK t.lvl es es.length=j+1) (by rw[HLS.out,HL1.out,if_pos HLN.out])
        have HR4:=U (r=if 16<j+1 then(2,col0)
 else if overC (roomT t es c)=true\/(newL t es c).any bigE=true then(13,col0)
 else(0,{ roomT t es c with ents:=putE (roomT t es c).ents ⟨d,newL t es c⟩ })) (by rw[HR3.out,HK.out,if_neg (by omega)])
        have d6:decide ((j:Int)<0)=false:=by simp
        have HBy:=G (HBe.out.trans (HB2.out.mono HBe.out.size))
        have HX0y:=G (HX0e.out.below HB2.out HX0e.out.lt)
        have HX1y:=G (HX1e.out.below HB2.out HX1e.out.lt)
        have HX2y:=G (HX2e.out.below HB2.out HX2e.out.lt)
        have HX3y:=G (HX3e.out.below HB2.out HX3e.out.lt)
        clear HL1 HLS HR3 HBQ hi
        by_cases q6:16<j+1
        ·have d7:decide ((16:Int)<(j:Int)+1)=true:=by simp;omega
         have HE:=U (r=(2,col0)) (by rw[HR4.out,if_pos q6])
         clear q6 HR4
         have f0:=HX3y.out.free 0
         have f1:=HX3y.out.free 1
         have f2:=HX3y.out.free 2
         have f3:=HX3y.out.free 3
         have f4:=HX3y.out.free 4
         have g0:=HX3y.out.c 0 rfl
         have g1:=HX3y.out.c 1 rfl
         have g2:=HX3y.out.c 2 rfl
         have g3:=HX3y.out.c 3 rfl
         have g4:=HX3y.out.c 4 rfl
         have ZF:Box (((((W2.setCell ⟨w.heap.size+3,0,N⟩ (H N 0 0)).setCell ⟨w.heap.size+3,1,N⟩ (H N 0 0)).setCell ⟨w.heap.size+3,2,N⟩ (I J 0)).setCell ⟨w.heap.size+3,3,N⟩ (I J 0)).setCell ⟨w.heap.size+3,4,N⟩ (I J 0)) (w.heap.size+3) 32 [H N 0 0,H N 0 0,I J 0,I J 0,I J 0]:=(((((HX3y.out.set 0 (H N 0 0)).set 1 (H N 0 0)).set 2 (I J 0)).set 3 (I J 0)).set 4 (I J 0))
         have BF:By w (((((W2.setCell ⟨w.heap.size+3,0,N⟩ (H N 0 0)).setCell ⟨w.heap.size+3,1,N⟩ (H N 0 0)).setCell ⟨w.heap.size+3,2,N⟩ (I J 0)).setCell ⟨w.heap.size+3,3,N⟩ (I J 0)).setCell ⟨w.heap.size+3,4,N⟩ (I J 0)):=(((((HBy.out.setCell (p:=⟨w.heap.size+3,0,N⟩) (by dsimp only;omega) (H N 0 0)).setCell (p:=⟨w.heap.size+3,1,N⟩) (by dsimp only;omega) (H N 0 0)).setCell (p:=⟨w.heap.size+3,2,N⟩) (by dsimp only;omega) (I J 0)).setCell (p:=⟨w.heap.size+3,3,N⟩) (by dsimp only;omega) (I J 0)).setCell (p:=⟨w.heap.size+3,4,N⟩) (by dsimp only;omega) (I J 0))
         have WFE:∃Wf,(((((W2.setCell ⟨w.heap.size+3,0,N⟩ (H N 0 0)).setCell ⟨w.heap.size+3,1,N⟩ (H N 0 0)).setCell ⟨w.heap.size+3,2,N⟩ (I J 0)).setCell ⟨w.heap.size+3,3,N⟩ (I J 0)).setCell ⟨w.heap.size+3,4,N⟩ (I J 0))=Wf:=⟨_,rfl⟩
         go_wp2_with fail
         obtain⟨Wf,hWf⟩:=WFE
         try rw[hWf]at ZF BF|-
         clear hWf
         have z0:=ZF.c 0 rfl
         have z1:=ZF.c 1 rfl
         have z2:=ZF.c 2 rfl
         have z3:=ZF.c 3 rfl
         have z4:=ZF.c 4 rfl
         (try simp only[Exit.inBlock,Exit.then])
         refine bodyPost_ret (jM rfl _ _ (b:=w.heap.size+3) rfl rfl z0 z1 z2 z3 z4) rfl ?_
         rw[HE.out]
         exact⟨N,0,N,0,rfl,eX _,fun _ W' _ _=>eX W',BF⟩
        ·have d7:decide ((16:Int)<(j:Int)+1)=false:=by simp;omega
         have HR5:=U (r=if overC (roomT t es c)=true\/(newL t es c).any bigE=true then(13,col0)
 else(0,{ roomT t es c with ents:=putE (roomT t es c).ents ⟨d,newL t es c⟩ })) (by rw[HR4.out,if_neg q6])
         clear q6 HR4
         have SH2:=G (fun(W':Wv) (hb:By W2 W')=>show W'.cell? ⟨qel,j*4,N⟩=some (I J el.p)/\W'.cell? ⟨qel,j*4+1,N⟩=some (I J el.s)/\W'.cell? ⟨qel,j*4+2,N⟩=some (I J el.t)/\W'.cell? ⟨qel,j*4+3,N⟩=some (.bool el.v)/\W'.cell? ⟨w.heap.size+2,2,N⟩=some (I J t.lvl)/\W'.cell? ⟨w.heap.size+2,3,N⟩=some (.bool t.bef)/\By W2 W' from by
          have hbw:=HB2.out.trans (hb.mono HB2.out.size)
          obtain⟨e0,e1,e2,e3⟩:=HEC.out W' hbw
          have X:=HX2e.out.below hbw HX2e.out.lt
          exact⟨e0,e1,e2,e3,X.c 2 rfl,X.c 3 rfl,hb⟩)
         have hcap:=nM HEe.out
         have hjj:(j:Int)<(j:Int)+1:=by omega
         go_upto_region 22 with(fail)
         go_cut [12] (fun s12 wx=>∃rb,s12=.pointer (some ⟨rb,0,N⟩)/\W2.heap.size<=rb/\Box wx rb 85 [I J lw,.bool t.bef]/\By W2 wx)
         case first=>
          as_aux_lemma=>
          refine wp_region_held_drew (S:=fun W'=>W'.cell? ⟨qel,j*4,N⟩=some (I J el.p)/\W'.cell? ⟨qel,j*4+1,N⟩=some (I J el.s)/\W'.cell? ⟨qel,j*4+2,N⟩=some (I J el.t)/\W'.cell? ⟨qel,j*4+3,N⟩=some (.bool el.v)/\W'.cell? ⟨w.heap.size+2,2,N⟩=some (I J t.lvl)/\W'.cell? ⟨w.heap.size+2,3,N⟩=some (.bool t.bef)/\By W2 W') (by kernel_rfl) (SH2.out _ ((Below.refl _ _).drew)) (fun hHeld=>?_)
          refine tK 0 82 ?_
          refine tK 1 83 ?_
          refine tK 2 84 ?_
          refine tK 3 85 ?_
          refine tK 4 86 ?_
          refine tK 5 87 ?_
          refine tK 7 89 ?_
          refine tK 8 90 ?_
          refine DE (i:=6) (j:=10) rfl rfl (by kernel_rfl) (by rfl) (by rfl) (VL (R:=fun v _=>v=I J lw) (some 88) rfl (by go_simp) ((KW.out _).mono (by rintro e w' ⟨rfl,hb⟩;exact⟨_,rfl,SH2.out _ ((hHeld.2.2.2.2.2.2).trans (hb.mono (hHeld.2.2.2.2.2.2).size)),rfl⟩)) ?_) (VM (w':=W2.drew.alloc (.cells #[I J 0,.bool false] 85)) (v:=.pointer (some ⟨W2.drew.heap.size,0,N⟩)) (some 12) rfl (by go_simp) (SH2.out _ ((hHeld.2.2.2.2.2.2).alloc (hHeld.2.2.2.2.2.2).size _)) ?_)
          ·rintro _ w6 hS6 rfl
           clear hHeld
           have hHeld:=hS6
           clear hS6
           try simp only[Act.put,sA,sB,sC]
           refine tK 9 91 ?_
           have HBD:=G (hHeld.2.2.2.2.2.2)
           have XB:Box (w6.alloc (.cells #[I J 0,.bool false] 85)) w6.heap.size 85 [I J 0,.bool false]:=Box.new w6 85 [I J 0,.bool false] rfl
           refine mR (i:=10) (w':=w6.alloc (.cells #[I J 0,.bool false] 85)) (v:=.pointer (some ⟨w6.heap.size,0,N⟩)) (some 12) rfl rfl (by kernel_rfl) (by rfl) (by go_simp) (SH2.out _ (HBD.out.alloc HBD.out.size _)) ?_
           try simp only[Act.put,sA,sB,sC]
           have y0:=XB.c 0 rfl
           have y1:=XB.c 1 rfl
           have f0:=XB.free 0
           have f1:=XB.free 1
           have BF:By W2 (((w6.alloc (.cells #[I J 0,.bool false] 85)).setCell ⟨w6.heap.size,0,N⟩ (I J lw)).setCell ⟨w6.heap.size,1,N⟩ (.bool t.bef)):=((((HBD.out.alloc HBD.out.size _)).setCell (p:=⟨w6.heap.size,0,N⟩) (by dsimp only;have:=(HBD.out).size;omega) (I J lw)).setCell (p:=⟨w6.heap.size,1,N⟩) (by dsimp only;have:=(HBD.out).size;omega) (.bool t.bef))
           refine jT (i:=11) (w':=((w6.alloc (.cells #[I J 0,.bool false] 85)).setCell ⟨w6.heap.size,0,N⟩ (I J lw)).setCell ⟨w6.heap.size,1,N⟩ (.bool t.bef)) N rfl rfl (by kernel_rfl) (by rfl) (by go_simp) (SH2.out _ BF) ?_
           try simp only[Act.put]
           refine wpAnyH_done (by kernel_rfl) ?_ _
           go_wp2_with fail
           go_meet
           exact⟨_,rfl,HBD.out.size,Box.new w6 85 [I J lw,.bool t.bef] rfl,HBD.out.alloc HBD.out.size _⟩
          have HBD:=G (hHeld.2.2.2.2.2.2)
          have XB0:Box (W2.drew.alloc (.cells #[I J 0,.bool false] 85)) W2.drew.heap.size 85 [I J 0,.bool false]:=Box.new W2.drew 85 [I J 0,.bool false] rfl
          obtain⟨bo,hbo⟩:∃x,W2.drew.heap.size=x:=⟨_,rfl⟩
          have hbg:W2.heap.size<=bo:=by have:=HBD.out.size;omega
          have hHx:=SH2.out _ (HBD.out.alloc HBD.out.size (.cells #[I J 0,.bool false] 85))
          clear hHeld
          have hHeld:=hHx
          clear hHx
          try simp only[Act.put,sA,sB,sC]
          rw[hbo]at XB0|-
          clear hbo
          obtain⟨wz,hwz⟩:∃x,W2.drew.alloc (.cells #[I J 0,.bool false] 85)=x:=⟨_,rfl⟩
          rw[hwz]at XB0 hHeld|-
          clear hwz HBD
          refine oE (R:=fun v W'=>v=I J lw/\By wz W') (i:=6) (some 88) rfl rfl (by kernel_rfl) (by rfl) (by go_simp) ((KW.out _).mono (by rintro e w' ⟨rfl,hb⟩;exact⟨_,rfl,SH2.out _ ((hHeld.2.2.2.2.2.2).trans (hb.mono (hHeld.2.2.2.2.2.2).size)),rfl,hb⟩)) ?_
          rintro _ w6 hS6 ⟨rfl,hb6⟩
          clear hHeld
          have hHeld:=hS6
          clear hS6
          try simp only[Act.put,sA,sB,sC]
          refine tK 9 91 ?_
          have HBD:=G (hHeld.2.2.2.2.2.2)
          have XB:Box w6 bo 85 [I J 0,.bool false]:=XB0.below hb6 XB0.lt
          have y0:=XB.c 0 rfl
          have y1:=XB.c 1 rfl
          have f0:=XB.free 0
          have f1:=XB.free 1
          have BF:By W2 (((w6).setCell ⟨bo,0,N⟩ (I J lw)).setCell ⟨bo,1,N⟩ (.bool t.bef)):=(((HBD.out).setCell (p:=⟨bo,0,N⟩) (by dsimp only;have:=(HBD.out).size;omega) (I J lw)).setCell (p:=⟨bo,1,N⟩) (by dsimp only;have:=(HBD.out).size;omega) (.bool t.bef))
          refine jT (i:=11) (w':=((w6).setCell ⟨bo,0,N⟩ (I J lw)).setCell ⟨bo,1,N⟩ (.bool t.bef)) N rfl rfl (by kernel_rfl) (by rfl) (by go_simp) (SH2.out _ BF) ?_
          try simp only[Act.put]
          refine wpAnyH_done (by kernel_rfl) ?_ _
          go_wp2_with fail
          go_meet
          exact⟨_,rfl,hbg,(XB.set 0 _).set 1 _,BF⟩
         as_aux_lemma=>
         obtain⟨rb,rfl,hrb,hbx,hb6⟩:=hcut
         have hbz:=HB2.out.trans (hb6.mono HB2.out.size)
         have HBv:=G (HBe.out.trans (hbz.mono HBe.out.size))
         have HX0v:=G (HX0e.out.below hbz HX0e.out.lt)
         have HX1v:=G (HX1e.out.below hbz HX1e.out.lt)
         have HX2v:=G (HX2e.out.below hbz HX2e.out.lt)
         have HX3v:=G (HX3e.out.below hbz HX3e.out.lt)
         have cv0:=HX1v.out.c 0 rfl
         have cv1:=HX1v.out.c 1 rfl
         have cv2:=HX1v.out.c 2 rfl
         have cv3:=HX1v.out.c 3 rfl
         have cv4:=HX1v.out.c 4 rfl
         have C6:=G (K6.out wc HBv.out)
         clear SH2
         go_wp2_with fail
         with_reducible refine C6.out.mono ?_
         rintro e Wf ⟨A',a',B',b',base,zz,top,rfl,hcp,hgr,hBb,hca,hz1,hz2,hb1⟩
         clear C6 cv0 cv1 cv2 cv3 cv4
         obtain⟨vs,mm,hop⟩:=hcp.open
         have hwe:=hbz.size
         have hb1s:=hb1.size
         have hrbl:=hbx.lt
         have h2e:=HB2.out.size
         have hx3e:=HX3d.out.lt
         have hop2:=hop.lower (Nat.min_le_left base Wf.heap.size)
         obtain⟨bs,hbs⟩:∃x,min base Wf.heap.size=x:=⟨_,rfl⟩
         rw[hbs]at hop2
         have hbs1:rb<bs:=by omega
         have hbs2:bs<=Wf.heap.size:=by omega
         have HAB:=U (∀q,blk A'=some q->bs<=q) (fun q hq=>(aU hop2.row hq).1)
         have HBL:=U (∀q,blk B'=some q->rb<q/\q<bs) (fun q hq=>by have:=aU hgr hq;have:=hBb q hq;omega)
         have HDL:=U (∀q,blk D=some q->w.heap.size+3<q/\q<rb) (fun q hq=>by have:=aU HDe.out hq;have:=HX3a.out.lt;omega)
         have hEL:w.heap.size+3<qel/\qel<rb:=by omega
         have hwr:w.heap.size+3<rb:=by omega
         have hbzf:=hbz.trans (hb1.mono hbz.size)
         have HBf:=HBv.out.trans (hb1.mono HBv.out.size)
         have X1f:=HX1v.out.below hb1 HX1v.out.lt
         have f0:=X1f.free 0
         have f1:=X1f.free 1
         have f2:=X1f.free 2
         have f3:=X1f.free 3
         have f4:=X1f.free 4
         have g0:=X1f.c 0 rfl
         have g1:=X1f.c 1 rfl
         have g2:=X1f.c 2 rfl
         have g3:=X1f.c 3 rfl
         have g4:=X1f.c 4 rfl
         have CH:Chg (fun q=>q=w.heap.size+1) Wf (((((Wf.setCell ⟨w.heap.size+1,0,N⟩ (H A' c.ents.length a')).setCell ⟨w.heap.size+1,1,N⟩ (H B' c.grps.length b')).setCell ⟨w.heap.size+1,2,N⟩ (I J c.base)).setCell ⟨w.heap.size+1,3,N⟩ (I J c.second)).setCell ⟨w.heap.size+1,4,N⟩ (I J c.third)):=Chg.of_grown (aG (p:=⟨w.heap.size+1,4,N⟩) (aG (p:=⟨w.heap.size+1,3,N⟩) (aG (p:=⟨w.heap.size+1,2,N⟩) (aG (p:=⟨w.heap.size+1,1,N⟩) (aG (p:=⟨w.heap.size+1,0,N⟩) (aN Wf _) _) _) _) _) _) (fun q e=>(Option.some.inj e).symm)
         have SZ:Box (((((Wf.setCell ⟨w.heap.size+1,0,N⟩ (H A' c.ents.length a')).setCell ⟨w.heap.size+1,1,N⟩ (H B' c.grps.length b')).setCell ⟨w.heap.size+1,2,N⟩ (I J c.base)).setCell ⟨w.heap.size+1,3,N⟩ (I J c.second)).setCell ⟨w.heap.size+1,4,N⟩ (I J c.third)) (w.heap.size+1) 32 [H A' c.ents.length a',H B' c.grps.length b',I J c.base,I J c.second,I J c.third]:=(((((X1f.set 0 (H A' c.ents.length a')).set 1 (H B' c.grps.length b')).set 2 (I J c.base)).set 3 (I J c.second)).set 4 (I J c.third))
         have SO:=(((((hop2.low (p:=⟨w.heap.size+1,0,N⟩) (by dsimp only;omega) (H A' c.ents.length a')).low (p:=⟨w.heap.size+1,1,N⟩) (by dsimp only;omega) (H B' c.grps.length b')).low (p:=⟨w.heap.size+1,2,N⟩) (by dsimp only;omega) (I J c.base)).low (p:=⟨w.heap.size+1,3,N⟩) (by dsimp only;omega) (I J c.second)).low (p:=⟨w.heap.size+1,4,N⟩) (by dsimp only;omega) (I J c.third))
         have hE0:=bI (QP Elt.cells (fun _=>rfl) HEe.out rfl (Nat.succ_pos j) hjl) hbzf
         have SE:=iM hE0 CH (fun q hq(e:q=w.heap.size+1)=>by have hq:=Option.some.inj hq;dsimp only at hq;omega)
         have SG:=iM hgr CH (fun q hq(e:q=w.heap.size+1)=>by have:=aU hgr hq;omega)
         have SD:=iM (bI HDe.out hbzf) CH (fun q hq(e:q=w.heap.size+1)=>by have:=HDL.out q hq;omega)
         have SR:=CH.box (hbx.below hb1 hbx.lt) (fun(e:rb=w.heap.size+1)=>by omega)
         have SX3:=CH.box (HX3v.out.below hb1 HX3v.out.lt) (fun(e:w.heap.size+3=w.heap.size+1)=>by omega)
         have SX2:=CH.box (HX2v.out.below hb1 HX2v.out.lt) (fun(e:w.heap.size+2=w.heap.size+1)=>by omega)
         have SB:By w _:=HBf.trans (Chg.below CH (n:=w.heap.size) HBf.size (fun k(hk:k=w.heap.size+1)=>by omega))
         have hW5s:=CH.size
         have htop:=hop.tw
         have HNM:=G hca.hs
         have WE5:∃W5,(((((Wf.setCell ⟨w.heap.size+1,0,N⟩ (H A' c.ents.length a')).setCell ⟨w.heap.size+1,1,N⟩ (H B' c.grps.length b')).setCell ⟨w.heap.size+1,2,N⟩ (I J c.base)).setCell ⟨w.heap.size+1,3,N⟩ (I J c.second)).setCell ⟨w.heap.size+1,4,N⟩ (I J c.third))=W5:=⟨_,rfl⟩
         clear hop hop2 hcp hgr hBb hca hb1 hbx hE0 hbzf CH
         go_upto_region 24 with(fail)
         obtain⟨W5,hW5⟩:=WE5
         rw[hW5]at SZ SO SE SG SD SR SX3 SX2 SB hW5s|-
         clear hW5 f0 f1 f2 f3 f4 g0 g1 g2 g3 g4 X1f HBf
         have hl1:(es.take (j+1)).length=j+1:=by rw[List.length_take];omega
         have hal:atW t.lvl es=lw:=by unfold atW atE;rw[HK.out,Nat.add_sub_cancel,HEL.out,HLW.out]
         have hlp:0<lstK t.lvl es es.length:=by rw[HK.out];omega
         have hRT:roomT t es c=roomC t.lvl lw (lst lw t.bef) c:=by unfold roomT;rw[hal]
         have hNL:newO t.lvl (lst lw t.bef) (roomC t.lvl lw (lst lw t.bef) c) (es.take (j+1))=newL t es c:=by
          have h:=newO_L (c:=c) hlp
          rw[HK.out,hal,hRT]at h
          exact h
         have hLL:(newL t es c).length=j+1:=by rw[new_len hlp,HK.out]
         have hcz0:=HCZ.out
         have hok:=(HKM.out.2 el HELM.out).1
         have hzw:1<=lw/\lw<=65535:=by
          have h:=eok_wt hok t.lvl
          rw[HLW.out]at h
          have:=HLN.out
          omega
         have hfit:=fit_step (w:=lw) (l:=lst lw t.bef) HLV.out HG.out.2.1 (fun e he=>HKM.out.1 e (List.mem_of_mem_take he)) (by rw[hl1];omega:0<(es.take (j+1)).length)
         rw[hNL]at hfit
         have hO:OpO ⟨w.heap.size+1,W5.heap.size,w.heap.size+1,wc.heap.size,Wd.heap.size,bs,zz,top,A',a',B',b',some ⟨qel,0,N⟩,ek,vs,mm,lw,t.bef⟩:={
          ng:=Nat.le_refl _
          nl:=by dsimp only;omega
          ne:=by dsimp only;omega
          nb:=by dsimp only;omega
          gb:=by dsimp only;omega
          bB:=fun q hq=>by have:=HBL.out q hq;dsimp only;omega
          bE:=fun q hq=>by
           have hq:=Option.some.inj hq
           dsimp only at hq|-
           refine⟨by omega,by omega,fun e=>?_⟩
           have:=HBL.out q e
           omega
          rg:=by dsimp only;omega
          rt:=by dsimp only;omega }
         have KO:=QC t.lvl HLV.out ⟨w.heap.size+1,W5.heap.size,w.heap.size+1,wc.heap.size,Wd.heap.size,bs,zz,top,A',a',B',b',some ⟨qel,0,N⟩,ek,vs,mm,lw,t.bef⟩ hO c (es.take (j+1)) W5 rfl HG.out.2.1 hcz0 (fun e he=>eok_wt (HKM.out.2 e (List.mem_of_mem_take he)).1 _) (by rw[hl1];omega) (by rw[hl1];omega) hzw SZ SO SG (by rw[hl1];exact SE)
         dsimp only at KO
         rw[hNL,hl1]at KO
         have HCP:=G (room_pair (k:=t.lvl) (w:=lw) (l:=lst lw t.bef) HG.out.2.1)
         have HCR:=G (S_ hcz0 t.lvl lw (lst lw t.bef))
         have HNR:=G (SY HNM.out t.lvl lw (lst lw t.bef))
         have HR6:=G HR5.out
         rw[hRT]at HR6
         clear hRT hNL hal hlp hcz0 hok hzw hO SZ SO SG SE HR5 HK HLW HEL HELM HEC HLN KW K6 HNM
         generalize newL t es c=L at *
         generalize roomC t.lvl lw (lst lw t.bef) c=R at *
         generalize fitO t.lvl (lst lw t.bef) lw c=fb at *
         have HFIT:=G hfit
         have HLL:=G hLL
         have HSD:=G SD
         have HSX3:=G SX3
         have HSB:=G SB
         have HKO:=G KO
         have r0:=SR.c 0 rfl
         have r1:=SR.c 1 rfl
         have r2:=SX2.c 2 rfl
         clear hfit hLL SD SX3 SB KO SR SX2 hl1
         cases fb with
         |false=>
          have HE:=U (r=(13,col0)) (by rw[HR6.out,if_pos (HFIT.out.2 rfl)])
          clear HR6 HFIT
          go_wp2_with fail
          with_reducible refine HKO.out.mono ?_
          rintro e w6 ⟨rfl,hS⟩
          have HX3o:=G (hS.chg.box HSX3.out (by rintro(e|e|e|e)<;>dsimp only at e;omega;(have:=HBL.out _ e;omega);(have e:=Option.some.inj e;dsimp only at e;omega);omega))
          have HBo:=G (HSB.out.trans (hS.bel.mono (Nat.le_succ _)))
          clear hS HKO r0 r1 r2
          have f0:=HX3o.out.free 0
          have f1:=HX3o.out.free 1
          have f2:=HX3o.out.free 2
          have f3:=HX3o.out.free 3
          have f4:=HX3o.out.free 4
          have g0:=HX3o.out.c 0 rfl
          have g1:=HX3o.out.c 1 rfl
          have g2:=HX3o.out.c 2 rfl
          have g3:=HX3o.out.c 3 rfl
          have g4:=HX3o.out.c 4 rfl
          have ZF:Box (((((w6.setCell ⟨w.heap.size+3,0,N⟩ (H N 0 0)).setCell ⟨w.heap.size+3,1,N⟩ (H N 0 0)).setCell ⟨w.heap.size+3,2,N⟩ (I J 0)).setCell ⟨w.heap.size+3,3,N⟩ (I J 0)).setCell ⟨w.heap.size+3,4,N⟩ (I J 0)) (w.heap.size+3) 32 [H N 0 0,H N 0 0,I J 0,I J 0,I J 0]:=(((((HX3o.out.set 0 (H N 0 0)).set 1 (H N 0 0)).set 2 (I J 0)).set 3 (I J 0)).set 4 (I J 0))
          have BF:By w (((((w6.setCell ⟨w.heap.size+3,0,N⟩ (H N 0 0)).setCell ⟨w.heap.size+3,1,N⟩ (H N 0 0)).setCell ⟨w.heap.size+3,2,N⟩ (I J 0)).setCell ⟨w.heap.size+3,3,N⟩ (I J 0)).setCell ⟨w.heap.size+3,4,N⟩ (I J 0)):=(((((HBo.out.setCell (p:=⟨w.heap.size+3,0,N⟩) (by dsimp only;omega) (H N 0 0)).setCell (p:=⟨w.heap.size+3,1,N⟩) (by dsimp only;omega) (H N 0 0)).setCell (p:=⟨w.heap.size+3,2,N⟩) (by dsimp only;omega) (I J 0)).setCell (p:=⟨w.heap.size+3,3,N⟩) (by dsimp only;omega) (I J 0)).setCell (p:=⟨w.heap.size+3,4,N⟩) (by dsimp only;omega) (I J 0))
          have WFE:∃Wf,(((((w6.setCell ⟨w.heap.size+3,0,N⟩ (H N 0 0)).setCell ⟨w.heap.size+3,1,N⟩ (H N 0 0)).setCell ⟨w.heap.size+3,2,N⟩ (I J 0)).setCell ⟨w.heap.size+3,3,N⟩ (I J 0)).setCell ⟨w.heap.size+3,4,N⟩ (I J 0))=Wf:=⟨_,rfl⟩
          go_wp2_with fail
          obtain⟨Wf,hWf⟩:=WFE
          try rw[hWf]at ZF BF|-
          clear hWf
          have z0:=ZF.c 0 rfl
          have z1:=ZF.c 1 rfl
          have z2:=ZF.c 2 rfl
          have z3:=ZF.c 3 rfl
          have z4:=ZF.c 4 rfl
          (try simp only[Exit.inBlock,Exit.then])
          refine bodyPost_ret (jM rfl _ _ (b:=w.heap.size+3) rfl rfl z0 z1 z2 z3 z4) rfl ?_
          rw[HE.out]
          exact⟨N,0,N,0,rfl,eX _,fun _ W' _ _=>eX W',BF⟩
         |true=>
          have HE:=U (r=(0,{ R with ents:=putE R.ents ⟨d,L⟩ })) (by rw[HR6.out,if_neg (fun h=>by have:=HFIT.out.1 h;cases this)])
          clear HR6 HFIT
          go_wp2_with fail
          with_reducible refine HKO.out.mono ?_
          rintro e w6 ⟨rfl,hS⟩
          have HX3o:=G (hS.chg.box HSX3.out (by rintro(e|e|e|e)<;>dsimp only at e;omega;(have:=HBL.out _ e;omega);(have e:=Option.some.inj e;dsimp only at e;omega);omega))
          have HBo:=G (HSB.out.trans (hS.bel.mono (Nat.le_succ _)))
          have hD6:=iM HSD.out hS.chg (fun q hq=>by
           have h1:=HDL.out q hq
           rintro(e|e|e|e)<;>dsimp only at e
           ·omega
           ·have:=HBL.out _ e;omega
           ·have e:=Option.some.inj e
            dsimp only at e
            have h2:=aU HDd.out hq
            omega
           ·omega)
          have q0:=hS.col.c 0 rfl
          have q1:=hS.col.c 1 rfl
          have q2:=hS.col.c 2 rfl
          have q3:=hS.col.c 3 rfl
          have q4:=hS.col.c 4 rfl
          have hE6:=hS.els
          have hG6:=hS.grps
          have hO6:=hS.ents
          have hs6:=hS.chg.size
          dsimp only at q0 q1 q2 q3 q4 hE6 hG6 hO6 hs6
          have HLL2:=HLL.out
          have C7:=G (yJ bs zz A' a' vs mm top R B' b' D dk d (some ⟨qel,0,N⟩) ek L w6 hO6 (Sl.of_own hG6) (fun _ q hq e=>by have:=HBL.out q hq;have:=HAB.out q e;omega) (Sl.of_own hD6) (fun _ q hq e=>by have:=HDL.out q hq;have:=HAB.out q e;omega) (Sl.of_own hE6) (fun _ q hq e=>by have hq:=Option.some.inj hq;dsimp only at hq;have:=HAB.out q e;omega) HCP.out HCR.out (by have:=HD8.out;omega) HNR.out (by omega))
          unfold qA aS at C7
          rw[HLL2]at C7
          have hx3:=HX3o.out.lt
          clear hS HKO r0 r1 r2 hD6 hE6 hG6 hO6 HLL2
          go_wp2_with fail
          with_reducible refine C7.out.mono ?_
          rintro e Wg ⟨A2,a2,rfl,-,hgw,hall⟩
          have HX3g:=G (HX3o.out.grown hgw (fun e=>by have:=HAB.out _ e.symm;omega))
          have HBg:=G (HBo.out.trans (Chg.below (Chg.of_grown (S:=fun q=>blk A'=some q) hgw (fun _ e=>e)) (n:=w.heap.size) HBo.out.size (fun k hk=>by have:=HAB.out k hk;omega)))
          have HALL:=G (fun W'(g:Chg (fun q=>q=w.heap.size+3\/q<w.heap.size) Wg W')=>hall _ W' g (fun q(hq:q=w.heap.size+3\/q<w.heap.size)=>⟨by omega,by omega,fun e=>by have:=HBL.out q e;omega,fun e=>by have:=HDL.out q e;omega,fun e=>by have e:=Option.some.inj e;dsimp only at e;omega⟩))
          clear hall hgw C7 q0 q1 q2 q3 q4
          have f0:=HX3g.out.free 0
          have f1:=HX3g.out.free 1
          have f2:=HX3g.out.free 2
          have f3:=HX3g.out.free 3
          have f4:=HX3g.out.free 4
          have g0:=HX3g.out.c 0 rfl
          have g1:=HX3g.out.c 1 rfl
          have g2:=HX3g.out.c 2 rfl
          have g3:=HX3g.out.c 3 rfl
          have g4:=HX3g.out.c 4 rfl
          have ZF:Box (((((Wg.setCell ⟨w.heap.size+3,0,N⟩ (H A2 (putE R.ents ⟨d,L⟩).length a2)).setCell ⟨w.heap.size+3,1,N⟩ (H B' R.grps.length b')).setCell ⟨w.heap.size+3,2,N⟩ (I J R.base)).setCell ⟨w.heap.size+3,3,N⟩ (I J R.second)).setCell ⟨w.heap.size+3,4,N⟩ (I J R.third)) (w.heap.size+3) 32 [H A2 (putE R.ents ⟨d,L⟩).length a2,H B' R.grps.length b',I J R.base,I J R.second,I J R.third]:=(((((HX3g.out.set 0 (H A2 (putE R.ents ⟨d,L⟩).length a2)).set 1 (H B' R.grps.length b')).set 2 (I J R.base)).set 3 (I J R.second)).set 4 (I J R.third))
          have BF:By w (((((Wg.setCell ⟨w.heap.size+3,0,N⟩ (H A2 (putE R.ents ⟨d,L⟩).length a2)).setCell ⟨w.heap.size+3,1,N⟩ (H B' R.grps.length b')).setCell ⟨w.heap.size+3,2,N⟩ (I J R.base)).setCell ⟨w.heap.size+3,3,N⟩ (I J R.second)).setCell ⟨w.heap.size+3,4,N⟩ (I J R.third)):=(((((HBg.out.setCell (p:=⟨w.heap.size+3,0,N⟩) (by dsimp only;omega) (H A2 (putE R.ents ⟨d,L⟩).length a2)).setCell (p:=⟨w.heap.size+3,1,N⟩) (by dsimp only;omega) (H B' R.grps.length b')).setCell (p:=⟨w.heap.size+3,2,N⟩) (by dsimp only;omega) (I J R.base)).setCell (p:=⟨w.heap.size+3,3,N⟩) (by dsimp only;omega) (I J R.second)).setCell (p:=⟨w.heap.size+3,4,N⟩) (by dsimp only;omega) (I J R.third))
          have CF:aY (((((Wg.setCell ⟨w.heap.size+3,0,N⟩ (H A2 (putE R.ents ⟨d,L⟩).length a2)).setCell ⟨w.heap.size+3,1,N⟩ (H B' R.grps.length b')).setCell ⟨w.heap.size+3,2,N⟩ (I J R.base)).setCell ⟨w.heap.size+3,3,N⟩ (I J R.second)).setCell ⟨w.heap.size+3,4,N⟩ (I J R.third)) _ _ _ _ _:=HALL.out _ (Chg.of_grown (aG (p:=⟨w.heap.size+3,4,N⟩) (aG (p:=⟨w.heap.size+3,3,N⟩) (aG (p:=⟨w.heap.size+3,2,N⟩) (aG (p:=⟨w.heap.size+3,1,N⟩) (aG (p:=⟨w.heap.size+3,0,N⟩) (aN Wg _) _) _) _) _) _) (fun q e=>.inl (Option.some.inj e).symm))
          have CFR:∀Z W',Chg Z ((((((Wg.setCell ⟨w.heap.size+3,0,N⟩ (H A2 (putE R.ents ⟨d,L⟩).length a2)).setCell ⟨w.heap.size+3,1,N⟩ (H B' R.grps.length b')).setCell ⟨w.heap.size+3,2,N⟩ (I J R.base)).setCell ⟨w.heap.size+3,3,N⟩ (I J R.second)).setCell ⟨w.heap.size+3,4,N⟩ (I J R.third))) W'->(∀q,Z q->q<w.heap.size)->aY W' _ _ _ _ _:=fun Z W' hc hZ=>HALL.out W' ((Chg.of_grown (aG (p:=⟨w.heap.size+3,4,N⟩) (aG (p:=⟨w.heap.size+3,3,N⟩) (aG (p:=⟨w.heap.size+3,2,N⟩) (aG (p:=⟨w.heap.size+3,1,N⟩) (aG (p:=⟨w.heap.size+3,0,N⟩) (aN Wg _) _) _) _) _) _) (fun q e=>.inl (Option.some.inj e).symm)).trans (hc.mono (fun k _ z=>.inr (hZ k z))))
          have WFE:∃Wf,(((((Wg.setCell ⟨w.heap.size+3,0,N⟩ (H A2 (putE R.ents ⟨d,L⟩).length a2)).setCell ⟨w.heap.size+3,1,N⟩ (H B' R.grps.length b')).setCell ⟨w.heap.size+3,2,N⟩ (I J R.base)).setCell ⟨w.heap.size+3,3,N⟩ (I J R.second)).setCell ⟨w.heap.size+3,4,N⟩ (I J R.third))=Wf:=⟨_,rfl⟩
          go_wp2_with fail
          obtain⟨Wf,hWf⟩:=WFE
          try rw[hWf]at ZF BF CF CFR|-
          clear hWf
          have z0:=ZF.c 0 rfl
          have z1:=ZF.c 1 rfl
          have z2:=ZF.c 2 rfl
          have z3:=ZF.c 3 rfl
          have z4:=ZF.c 4 rfl
          (try simp only[Exit.inBlock,Exit.then])
          refine bodyPost_ret (jM rfl _ _ (b:=w.heap.size+3) rfl rfl z0 z1 z2 z3 z4) rfl ?_
          rw[HE.out]
          exact⟨_,_,_,_,rfl,CF,fun Z W' hc hZ=>CFR Z W' hc hZ,BF⟩
 have d1:(ec !=0)=true:=by simp[q1]
 have HE:=U (r=(ec,col0)) (by rw[HR0.out,if_pos q1]);clear q1 HR0 HCK;have f0:=HX3a.out.free 0;have f1:=HX3a.out.free 1;have f2:=HX3a.out.free 2;have f3:=HX3a.out.free 3;have f4:=HX3a.out.free 4;have g0:=HX3a.out.c 0 rfl;have g1:=HX3a.out.c 1 rfl;have g2:=HX3a.out.c 2 rfl;have g3:=HX3a.out.c 3 rfl;have g4:=HX3a.out.c 4 rfl;have ZF:Box (((((Wa.setCell ⟨w.heap.size+3,0,N⟩ (H N 0 0)).setCell ⟨w.heap.size+3,1,N⟩ (H N 0 0)).setCell ⟨w.heap.size+3,2,N⟩ (I J 0)).setCell ⟨w.heap.size+3,3,N⟩ (I J 0)).setCell ⟨w.heap.size+3,4,N⟩ (I J 0)) (w.heap.size+3) 32 [H N 0 0,H N 0 0,I J 0,I J 0,I J 0]:=(((((HX3a.out.set 0 (H N 0 0)).set 1 (H N 0 0)).set 2 (I J 0)).set 3 (I J 0)).set 4 (I J 0));have BF:By w (((((Wa.setCell ⟨w.heap.size+3,0,N⟩ (H N 0 0)).setCell ⟨w.heap.size+3,1,N⟩ (H N 0 0)).setCell ⟨w.heap.size+3,2,N⟩ (I J 0)).setCell ⟨w.heap.size+3,3,N⟩ (I J 0)).setCell ⟨w.heap.size+3,4,N⟩ (I J 0)):=(((((HBa.out.setCell (p:=⟨w.heap.size+3,0,N⟩) (by dsimp only;omega) (H N 0 0)).setCell (p:=⟨w.heap.size+3,1,N⟩) (by dsimp only;omega) (H N 0 0)).setCell (p:=⟨w.heap.size+3,2,N⟩) (by dsimp only;omega) (I J 0)).setCell (p:=⟨w.heap.size+3,3,N⟩) (by dsimp only;omega) (I J 0)).setCell (p:=⟨w.heap.size+3,4,N⟩) (by dsimp only;omega) (I J 0));have WFE:∃Wf,(((((Wa.setCell ⟨w.heap.size+3,0,N⟩ (H N 0 0)).setCell ⟨w.heap.size+3,1,N⟩ (H N 0 0)).setCell ⟨w.heap.size+3,2,N⟩ (I J 0)).setCell ⟨w.heap.size+3,3,N⟩ (I J 0)).setCell ⟨w.heap.size+3,4,N⟩ (I J 0))=Wf:=⟨_,rfl⟩;go_wp2_with fail;obtain⟨Wf,hWf⟩:=WFE;try rw[hWf]at ZF BF|-
 clear hWf;have z0:=ZF.c 0 rfl;have z1:=ZF.c 1 rfl;have z2:=ZF.c 2 rfl;have z3:=ZF.c 3 rfl;have z4:=ZF.c 4 rfl;(try simp only[Exit.inBlock,Exit.then]);refine bodyPost_ret (jM rfl _ _ (b:=w.heap.size+3) rfl rfl z0 z1 z2 z3 z4) rfl ?_;rw[HE.out];exact⟨N,0,N,0,rfl,eX _,fun _ W' _ _=>eX W',BF⟩
end
end Go.Proofs.YtkhmjidaeliccaaGreatDoor
