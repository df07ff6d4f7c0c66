import Derived.Test.YtkhmjidaeliccaaGreatDoorS22
set_option maxRecDepth 100000
set_option maxHeartbeats 51200000
namespace Go.Proofs.YtkhmjidaeliccaaGreatDoor
open Option renaming none->N,some->Z
open Value renaming int->I,slice->H
open IntKind renaming i64->J
open Go.Proofs.Tryz
section
open Go.RowKit Go.Maps Go.WideMaps Tl
def cO(x:Nrm)(c:Col)(t:Tlr):Int×Col:=if kM x c t≠0 then(kM x c t,col0)else stepB (dtx x false t.cds) (dO x c t.anc) (aT x c t.anc) c t
theorem jZ{k j:Nat}{fn:Func}(hr:fn.results=#[.cell k 32,.tmp j])(tmps:Array Value)(w:Wv){b:Nat}{v0 v1 v2 v3 v4 v:Value}(ha:tmps.getD k undef=.pointer (Z ⟨b,0,N⟩))(hv:tmps[j]?.getD undef=v)
  (c0:w.cell? ⟨b,0,N⟩=Z v0) (c1:w.cell? ⟨b,1,N⟩=Z v1) (c2:w.cell? ⟨b,2,N⟩=Z v2) (c3:w.cell? ⟨b,3,N⟩=Z v3) (c4:w.cell? ⟨b,4,N⟩=Z v4) :
  (results fn tmps).run prog w=.ok (.tuple #[.agg #[v0,v1,v2,v3,v4],v]) w:=by
 unfold results;rw[hr];simp only[ha,List.mapM_toArray,List.mapM_cons,List.mapM_nil,asAddr];go_simp
def rG(r:Int×Col)(w:Wv)(e:Ending)(w':Wv):Prop:=∃A a B b,e=.returned (.tuple #[aJ A r.2.ents.length a B r.2.grps.length b r.2,I J r.1])/\aO w' A r.2.ents.length B r.2.grps.length r.2/\(∀Z W',Chg Z w' W'->(∀q,Z q->q<w.heap.size)->aO W' A r.2.ents.length B r.2.grps.length r.2)/\By w w'
theorem fX(w:Wv):aO w N 0 N 0 col0:=⟨⟨[],rfl,Sl.nil _ _,λi hi=>absurd hi (by simp[col0])⟩,Sl.nil _ _,rfl,rfl,λg hg=>by simp[col0]at hg⟩
theorem gZ{k j:Nat}{fn:Func}{T:TypeId}(hr:fn.results=#[.cell k 32,.tmp j])(tmps:Array Value)(w:Wv){b:Nat}{v0 v1 v2 v3 v4 v:Value}(ha:tmps.getD k undef=.pointer (Z ⟨b,0,N⟩))(hv:tmps[j]?.getD undef=v)(h:Box w b T [v0,v1,v2,v3,v4]):
  (results fn tmps).run prog w=.ok (.tuple #[.agg #[v0,v1,v2,v3,v4],v]) w:=jZ hr tmps w ha hv (h.cell rfl) (h.cell rfl) (h.cell rfl) (h.cell rfl) (h.cell rfl)
theorem lsE{r:Int×Col}{k:Int}{w W V:Wv}(h:r=(k,col0))(hb:By w W)(hc:Chg (λq=>q=w.heap.size+3) W V):rG r w (.returned (.tuple #[.agg #[H N 0 0,H N 0 0,I J 0,I J 0,I J 0],I J k])) V:=by
 subst h;exact⟨N,0,N,0,rfl,fX _,λ_ W' _ _=>fX W',gN hb hc O⟩
theorem dsE{r:Int×Col}{R:Col}{A B:Oa}{a b:Nat}{w W V:Wv}(h:r=(0,R))(hb:By w W)(hc:Chg (λq=>q=w.heap.size+3) W V)(HA:∀W',Chg (λq=>q=w.heap.size+3\/q<w.heap.size) W W'->aO W' A R.ents.length B R.grps.length R):
  rG r w (.returned (.tuple #[.agg #[H A R.ents.length a,H B R.grps.length b,I J R.base,I J R.second,I J R.third],I J 0])) V:=by
 subst h;exact⟨A,a,B,b,rfl,HA _ (hc.mono (λ_ _ e=>.inl e)),λZ W' g hZ=>HA W' ((hc.mono (λ_ _ e=>.inl e)).trans (g.mono (λk _ z=>.inr (hZ k z)))),gN hb hc O⟩
theorem OpV.lower{w:Wv}{base base' z:Nat}{A:Oa}{cap:Nat}{vs:List (Value×Value)}{m:Nat->Nat}{top:Nat}{xs:List Ent}(h:OpV w base z A cap vs m top xs)(hb:base'<=base):OpV w base' z A cap vs m top xs:=
 ⟨h.len,eR h.row hb,h.mono,h.mt,h.tw,h.bm,h.zm,h.rows⟩
theorem vO{x:Nrm}{c:Col}{u:Li}(h:aK c=0)(hk:dO x c u=true):AncM c (aT x c u)/\AncOk c.base (aT x c u):=by
 have e:aW c=c:=if_pos h;have a:aT x c u=Mtc.elems (cls (usN x).cls) (aF c.ents) (aZ c) (dtx x false u):=by unfold aT;rw[e]
 unfold dO at hk;rw[e]at hk;rw[a];exact⟨known_mem hk,known_ok h hk⟩
theorem DX(A0:Oa)(n0 k0:Nat)(A1:Oa)(n1 k1:Nat)(A2:Oa)(n2 k2:Nat)(x:Nrm)(C:Oa)(n a:Nat)(B:Oa)(m b:Nat)(c:Col)(P:Oa)(pk:Nat)(Q:Oa)(qk:Nat)(t:Tlr)(w:Wv)(hN:cB w A0 n0 A1 n1 A2 n2 x)(hz:cZ x)(hL:dX w)(hC:aO w C n B m c)(hcz:aQ c)(hP:aA w P t.anc)(hQ:aA w Q t.cds)(hpl:t.anc.length<=16384)(hql:t.cds.length<=16384)(hpi:∀z∈t.anc,iok z)(hqi:∀z∈t.cds,iok z)(hes:(aT x c t.anc).length<=1048576):
  Calls prog 13 #[.agg #[H A0 n0 k0,H A1 n1 k1,H A2 n2 k2],aJ C n a B m b c,.agg #[H P t.anc.length pk,H Q t.cds.length qk,I J t.lvl,.bool t.bef]] w (rG (cO x c t) w):=by
 have h9:=al4 w 28 [H A0 n0 k0,H A1 n1 k1,H A2 n2 k2] 32 [H C n a,H B m b,I J c.base,I J c.second,I J c.third] 35 [H P t.anc.length pk,H Q t.cds.length qk,I J t.lvl,.bool t.bef] 32 [H N 0 0,H N 0 0,I J 0,I J 0,I J 0];have K1:=G (λW(hb:By w W)=>KQ A0 n0 k0 A1 n1 k1 A2 n2 k2 x C n a B m b c P pk Q qk t W (hN.below hb) hz (hL.below hb) (hC.below hb) hcz (hP.below hb) (hQ.below hb) O O);have K2:=G (λW(hb:By w W)=>sI A0 n0 k0 A1 n1 k1 A2 n2 k2 x Q t.cds.length qk t.cds false W (hN.below hb) hz (hL.below hb) (hQ.below hb) rfl hql hqi);have K3:=G (λW(hb:By w W)=>QV A0 n0 k0 A1 n1 k1 A2 n2 k2 x C n a B m b c P t.anc.length pk t.anc W (hN.below hb) hz (hL.below hb) (hC.below hb) hcz (hP.below hb) rfl hpl hpi);have K4:=G (λW(hb:By w W)=>ND A0 n0 k0 A1 n1 k1 A2 n2 k2 x C n a B m b c P t.anc.length pk t.anc W (hN.below hb) hz (hL.below hb) (hC.below hb) hcz (hP.below hb) rfl hpl hpi);have K5:=G (λA k W(h:cM W A (aT x c t.anc))=>wT A (aT x c t.anc).length k (aT x c t.anc) W h rfl hes);have K6:=G (λW(hb:By w W)=>xB C n a B m b c W (hC.below hb) hcz);unfold aU at K1;unfold fR at K2;unfold c_ at K3;unfold jO at K4 K5;unfold oO at K6;unfold aJ at K1 K3 K4 K6|-;have dy:=G hcz;have d0:=G hes;have jp:=G hN;have jn:=G hC;obtain⟨ec,cj⟩:=exQ (kM x c t);obtain⟨r,hr⟩:=exQ (cO x c t);have cd:=U (r=if ec≠0 then(ec,col0)else stepB (dtx x false t.cds) (dO x c t.anc) (aT x c t.anc) c t) (by rw[<-hr,<-cj];rfl)
 have cv:=U (ec=0->bW x=0/\aK c=0/\kndT t=true/\rngT t.anc=true/\rngT t.cds=true) (λh=>by
  rw[<-cj]at h
  unfold kM at h
  split at h
  ·exact absurd h oA_
  ·split at h
   ·exact absurd h oA_
   ·split at h
    ·next h1 h2 h3=>
     split at h
     ·next h4=>exact⟨Classical.not_not.1 h1,Classical.not_not.1 h2,h3,by simp only[Bool.and_eq_true]at h4;exact h4.1,by simp only[Bool.and_eq_true]at h4;exact h4.2⟩
     cases h
    ·cases h)
 rw[cj]at K1;rw[hr];clear hr cj hN hC hL hP hQ hz hcz hpi hqi hpl hql hes;generalize t.anc.length=pn at *;generalize t.cds.length=qn at *;go_enter func13,ntmps13;go_upto_region 1 with(fail)
 obtain⟨W0,gy,F0⟩:=h9;try rw[gy]
 clear gy;have l3:=F0.x3.lt;have cq:=G F0;clear F0;obtain⟨ei,ej,em,en,eo,ep,eq,er,et,eu,ev,ew⟩:=cq.o.cs;have C1:=G (K1.o W0 cq.o.B);clear K1;go_wp2_with fail;refine C1.o.mono ?_
 rintro e Wa ⟨rfl,s⟩;have am:=G (cq.o.go s);clear s C1 ei ej em en eo ep eq er et eu ev ew;by_cases q1:ec=0
 ·obtain⟨h1,h2,h3,h4,h5⟩:=cv.o q1
  have HG:=G (And.intro h1 (And.intro h2 (And.intro h3 (And.intro h4 h5))));have ce:=G (cd.o.trans (if_neg (by simp[q1])));have d1:(ec !=0)=false:=by simp[q1]
  clear q1 h1 h2 h3 h4 h5 cv cd;obtain⟨ex,ey,ez,e4,e5,e6,e7,e8,e9,fa,fc,fd⟩:=am.o.cs;have C2:=G (K2.o Wa am.o.B);clear K2;go_wp2_with fail;refine C2.o.mono ?_
  rintro e Wb ⟨D,dk,rfl,gs,s⟩;have a8:=G (am.o.go s);have HD:=G gs;clear s gs C2 ex ey ez e4 e5 e6 e7 e8 e9 fa fc fd;generalize dtx x false t.cds=d at *;by_cases q2:8<d.length
  ·have d2:decide ((8:Int)<(d.length:Int))=true:=oU_
   have HE:=U (r=(2,col0)) (by rw[ce.o];unfold stepB;rw[if_pos q2]);clear q2;obtain⟨f0,f1,f2,f3,f4,g0,g1,g2,g3,g4,WE⟩:=zl5 a8.o.x3;go_wp2_with fail;obtain⟨Wf,y,ZF,CF⟩:=WE;try rw[y]
   clear y;(try simp only[Exit.inBlock,Exit.then]);refine bodyPost_ret (gZ rfl _ _ rfl rfl ZF) rfl ?_;exact lsE HE.o a8.o.B CF
  ·have d2:decide ((8:Int)<(d.length:Int))=false:=oU_
   have b9:=G q2;clear q2;obtain⟨fe,ff,fg,fh,fi,fj,fk,fl,fm,fn,fo,fp⟩:=a8.o.cs;have C3:=G (K3.o Wb a8.o.B);clear K3;go_wp2_with fail;refine C3.o.mono ?_
   rintro e Wc ⟨rfl,s⟩;have a9:=G (a8.o.go s);have ht:=G (aG HD.o s);clear s C3 fe ff fg fh fi fj fk fl fm fn fo fp;cases hkn:dO x c t.anc with
   |false=>
    have HE:=U (r=(7,col0)) (by rw[ce.o];unfold stepB;rw[if_neg b9.o,if_pos (.inl hkn)]);clear hkn;obtain⟨f0,f1,f2,f3,f4,g0,g1,g2,g3,g4,WE⟩:=zl5 a9.o.x3;go_wp2_with fail;obtain⟨Wf,y,ZF,CF⟩:=WE;try rw[y]
    clear y;(try simp only[Exit.inBlock,Exit.then]);refine bodyPost_ret (gZ rfl _ _ rfl rfl ZF) rfl ?_;exact lsE HE.o a9.o.B CF
   |true=>
    have cf:=U (r=if 0<t.lvl/\lstK t.lvl (aT x c t.anc) (aT x c t.anc).length=0 then(7,col0)else if t.lvl=0 then(if 16<(aT x c t.anc).length then(2,col0)else(0,{ c with ents:=putE c.ents ⟨d,aT x c t.anc⟩ }))else if 16<lstK t.lvl (aT x c t.anc) (aT x c t.anc).length then(2,col0)
 else if overC (roomT t (aT x c t.anc) c)=true\/(newL t (aT x c t.anc) c).any bigE=true then(13,col0)
 else(0,{ roomT t (aT x c t.anc) c with ents:=putE (roomT t (aT x c t.anc) c).ents ⟨d,newL t (aT x c t.anc) c⟩ })) (by
     rw[ce.o,hkn]
     unfold stepB
     rw[if_neg b9.o]
     by_cases hq:0<t.lvl/\lstK t.lvl (aT x c t.anc) (aT x c t.anc).length=0
     ·rw[if_pos hq,if_pos (.inr hq)]
     ·rw[if_neg hq,if_neg (by rintro(h|h);exact absurd h V;exact hq h)])
    have cx:=G (vO HG.o.2.1 hkn);clear hkn ce;obtain⟨fq,fr,fs,ft,fu,fv,fw,fx,fy,fz,f5,f6⟩:=a9.o.cs;have C4:=G (K4.o Wc a9.o.B);clear K4;go_wp2_with fail;refine C4.o.mono ?_
    rintro e Wd ⟨E1,e1,rfl,bk,s⟩;have cr:=G (a9.o.go s);have dz:=G (aG ht.o s);have C5:=G (K5.o E1 e1 Wd (Sl.of_own bk));clear s C4 bk K5;go_wp2_with fail;refine C5.o.mono ?_
    rintro e We ⟨E,ek,rfl,bk,s⟩;have M:=G (cr.o.go s);have bd:=G (aG dz.o s);have ao:=G bk;clear s C5 bk fq fr fs ft fu fv fw fx fy fz f5 f6;generalize aT x c t.anc=es at *;obtain⟨f7,f8,f9,ga,gc,gd,ge,gf,gg,gh,gj,gk⟩:=M.o.cs;by_cases q3:t.lvl=0
    ·have d3:(t.lvl==0)=true:=by simp[q3]
     have ai:=G (cf.o.trans ((if_neg O).trans (if_pos q3)));clear q3 cf;by_cases q4:16<es.length
     ·have d4:decide ((16:Int)<(es.length:Int))=true:=oU_
      have HE:=G (ai.o.trans (if_pos q4));clear q4;obtain⟨f0,f1,f2,f3,f4,g0,g1,g2,g3,g4,WE⟩:=zl5 M.o.x3;go_wp2_with fail;obtain⟨Wf,y,ZF,CF⟩:=WE;try rw[y]
      clear y;(try simp only[Exit.inBlock,Exit.then]);refine bodyPost_ret (gZ rfl _ _ rfl rfl ZF) rfl ?_;exact lsE HE.o M.o.B CF
     have d4:decide ((16:Int)<(es.length:Int))=false:=oU_;have HE:=G (ai.o.trans (if_neg q4));clear q4 ai;have C6:=G (K6.o We M.o.B);clear K6;go_wp2_with fail;refine C6.o.mono ?_
     rintro e Wf ⟨A',a',B',b',base,zz,bu,rfl,bn,aa,bj,a1,hg,it,s⟩;have b6:=G (M.o.go s);obtain⟨vs,mm,ar⟩:=bn.open;have bi:∀q,blk A'=Z q->base<=q:=λq hq=>(aN ar.row hq).1
     have gr:∀q,blk D=Z q->q<We.heap.size:=λq hq=>(aN bd.o hq).2
     have gv:∀q,blk E=Z q->q<We.heap.size:=λq hq=>(aN ao.o hq).2
     have dg:min base Wf.heap.size<=Wf.heap.size:=Nat.min_le_right _ _;have T:=ar.lower (Nat.min_le_left base Wf.heap.size);have C7:=G (BL (min base Wf.heap.size) zz A' a' vs mm bu c B' b' D dk d E ek es Wf T a1.grps (λ_ q hq e=>by have:=bj q hq;have:=bi q e;omega) (Sl.of_own (aG bd.o s)) (λ_ q hq e=>by have:=gr q hq;have:=bi q e;omega) (Sl.of_own (aG ao.o s)) (λ_ q hq e=>by have:=gv q hq;have:=bi q e;omega) (mC (fC HG.o.2.1)).1 dy.o (by have:=b9.o;omega) a1.hs dg);have ag:=G bi;have j7:=M.o.B.size;have ir:=b6.o.x3.lt;have dl:w.heap.size+3<base:=by have:=M.o.x3.lt;omega
     have c0:=U ((∀q,blk B'=Z q->w.heap.size+3<q)/\(∀q,blk D=Z q->w.heap.size+3<q)/\(∀q,blk E=Z q->w.heap.size+3<q)) (⟨λq e=>by have:=(aN aa e).1;have:=M.o.x3.lt;omega,λq e=>by have:=(aN bd.o e).1;have:=am.o.x3.lt;omega,λq e=>by have:=(aN ao.o e).1;have:=cr.o.x3.lt;omega⟩);clear bn aa bj a1 s ar T bi gr gv C6;unfold rB aJ at C7;go_wp2_with fail;refine C7.o.mono ?_
     rintro e Wg ⟨A2,a2,rfl,-,aq,al⟩;have bh:=G (b6.o.x3.grown aq (λe=>by have:=ag.o _ e.symm;omega));have cu:=G (b6.o.B.trans (Chg.below (Chg.of_grown (S:=λq=>blk A'=Z q) aq (λ_ e=>e)) (n:=w.heap.size) b6.o.B.size (λk hk=>by have:=ag.o k hk;omega)));have ba:=G (λW'(g:Chg (λq=>q=w.heap.size+3\/q<w.heap.size) Wg W')=>al _ W' g (λq(hq:q=w.heap.size+3\/q<w.heap.size)=>⟨O,O,λe=>by have:=c0.o.1 q e;omega,λe=>by have:=c0.o.2.1 q e;omega,λe=>by have:=c0.o.2.2 q e;omega⟩));clear al aq C7;obtain⟨f0,f1,f2,f3,f4,g0,g1,g2,g3,g4,WE⟩:=sl5 (H A2 (putE c.ents ⟨d,es⟩).length a2) (H B' c.grps.length b') (I J c.base) (I J c.second) (I J c.third) bh.o;go_wp2_with fail;obtain⟨Wf,y,ZF,CF⟩:=WE;try rw[y]
     clear y;(try simp only[Exit.inBlock,Exit.then]);refine bodyPost_ret (gZ rfl _ _ rfl rfl ZF) rfl ?_;exact dsE HE.o cu.o CF ba.o
    ·have d3:(t.lvl==0)=false:=by simp[q3]
     have g9:t.lvl=1\/t.lvl=2\/t.lvl=3:=by
      have h:=HG.o.2.2.1;unfold kndT at h;simp only[Bool.and_eq_true,decide_eq_true_eq]at h;omega
     have cz:=G g9
     have ai:=U (r=if lstK t.lvl es es.length=0 then(7,col0)else if 16<lstK t.lvl es es.length then(2,col0)
 else if overC (roomT t es c)=true\/(newL t es c).any bigE=true then(13,col0)
 else(0,{ roomT t es c with ents:=putE (roomT t es c).ents ⟨d,newL t es c⟩ })) (by
      rw[cf.o]
      by_cases hq:lstK t.lvl es es.length=0
      ·rw[if_pos ⟨O,hq⟩,if_pos hq]
      ·rw[if_neg (λg=>hq g.2),if_neg q3,if_neg hq])
     clear q3 g9 cf;go_upto_region 14 with(fail)
     clear f7 f8 f9 ga gc gd ge gf gg gh gj gk;have jc:es.length<=1048576:=d0.o;go_wp2;go_loopw [11] (λu wr=>∃i:Nat,i<=es.length/\u=I J ((i:Int)-1)/\lstK t.lvl es es.length=lstK t.lvl es i/\By We wr) (λu _=>((intOf u)+1).toNat)
     case atStart=>exact⟨es.length,Nat.le_refl _,oN_,rfl,Below.refl _ _⟩
     obtain⟨i,hi,rfl,g8,g7⟩:=hrel;have ay:=G g8;have b7:=G g7;clear g8 g7;by_cases h0:i=0
     ·have HE:=G (ai.o.trans (if_pos (by rw[ay.o,h0];rfl)))
      obtain⟨z,hz⟩:∃z:Int,(i:Int)-1=z:=⟨_,rfl⟩;have hg:z=-1:=O;rw[hz];clear hz h0 hi ay ai;have d5:decide (0<=z)=false:=oU_;have d6:decide (z<0)=true:=oU_;have de:By We wr.drew:=b7.o.trans ((show By wr wr.drew from(Below.refl _ _).drew).mono b7.o.size);have dx:=G (M.o.B.trans (de.mono M.o.B.size));have cp:=G (M.o.x3.below de M.o.x3.lt);clear de;go_wp2_with fail;go_region;obtain⟨wd,hc⟩:=exQ (wr.drew);rw[hc]at dx cp|-;clear hc;obtain⟨f0,f1,f2,f3,f4,g0,g1,g2,g3,g4,WE⟩:=zl5 cp.o;go_wp2_with fail;obtain⟨Wf,y,ZF,CF⟩:=WE;try rw[y]
      clear y;(try simp only[Exit.inBlock,Exit.then]);refine bodyPost_ret (gZ rfl _ _ rfl rfl ZF) rfl ?_;exact lsE HE.o dx.o CF
     obtain⟨j,rfl⟩:∃j,i=j+1:=⟨i-1,O⟩;have bt:j<es.length:=O
     have ax:=U (lstK t.lvl es (j+1)=if wt t.lvl es[j]≠0 then j+1 else lstK t.lvl es j) (by
      conv=>lhs;unfold lstK
      rw[List.getD_eq_getElem?_getD,List.getElem?_eq_getElem bt];rfl)
     obtain⟨F,rfl,jd,je⟩:=jF ao.o O
     have be:=U (∀W',By We W'->W'.cell? ⟨F,j*4,N⟩=Z (I J es[j].p)/\W'.cell? ⟨F,j*4+1,N⟩=Z (I J es[j].s)/\W'.cell? ⟨F,j*4+2,N⟩=Z (I J es[j].t)/\W'.cell? ⟨F,j*4+3,N⟩=Z (.bool es[j].v)) (λW' hb=>
      have gt:=λf(hf:f<4)=>((aG ao.o hb).cellAt (j*4+f) O).trans (gR Elt.cells 4 (λ_=>rfl) es j f bt hf)
      ⟨gt 0 O,gt 1 O,gt 2 O,gt 3 O⟩)
     obtain⟨el,ck⟩:=exQ (es[j]);rw[ck]at ax be;have cw:=U (es.getD j ⟨0,0,0,false⟩=el) (by rw[List.getD_eq_getElem?_getD,List.getElem?_eq_getElem bt,ck];rfl);have bf:=U (el∈es) (ck ▸ List.getElem_mem bt);clear ck
     have SH:=G (λ(W':Wv) (hb:By wr W')=>show W'.cell? ⟨F,j*4,N⟩=Z (I J el.p)/\W'.cell? ⟨F,j*4+1,N⟩=Z (I J el.s)/\W'.cell? ⟨F,j*4+2,N⟩=Z (I J el.t)/\W'.cell? ⟨F,j*4+3,N⟩=Z (.bool el.v)/\W'.cell? ⟨w.heap.size+2,2,N⟩=Z (I J t.lvl)/\By wr W' from by
      have bm:=tb b7.o hb
      obtain⟨e0,e1,e2,e3⟩:=be.o W' bm
      exact⟨e0,e1,e2,e3,(M.o.x2.below bm M.o.x2.lt).c 2 rfl,hb⟩)
     have KW:=G (λW=>zAx el t.lvl cz.o W);unfold aU at KW;have d8:=U (wt t.lvl el=wt t.lvl el) rfl;obtain⟨lw,di⟩:=exQ (wt t.lvl el);rw[di]at KW ax;have cc:=G di;clear di h0 d8;have hd:(((j+1:Nat):Int))-1=(j:Int):=O;rw[hd];have j2:(j:Int)<(es.length:Int):=O;have d9:decide (0<=(j:Int))=true:=oL_;clear hd;go_wp2_with fail;refine wp_region_held_drew (S:=λW'=>W'.cell? ⟨F,j*4,N⟩=Z (I J el.p)/\W'.cell? ⟨F,j*4+1,N⟩=Z (I J el.s)/\W'.cell? ⟨F,j*4+2,N⟩=Z (I J el.t)/\W'.cell? ⟨F,j*4+3,N⟩=Z (.bool el.v)/\W'.cell? ⟨w.heap.size+2,2,N⟩=Z (I J t.lvl)/\By wr W') oK_ (SH.o _ ((Below.refl _ _).drew)) (λo=>?_);refine tK 0 57 ?_;refine tV 1 58 (.bool true) ?_ ?_
     ·intro w io;(try dsimp only at io);go_split_ands;go_simp
     try simp only[Act.put,sA,sB,sC]
     refine tK 2 59 ?_;refine tK 3 60 ?_;refine tK 4 61 ?_;refine tK 5 62 ?_;refine tK 6 63 ?_;refine tK 7 64 ?_;refine tK 8 65 ?_;refine qK 9 66 ((KW.o _).mono (by rintro e w' ⟨rfl,hb⟩;exact⟨rfl,SH.o _ ((o.2.2.2.2.2).trans (hb.mono (o.2.2.2.2.2).size))⟩)) ?_;clear o;intro W2 o;refine tK 10 67 ?_;refine tK 11 68 ?_;refine wpAnyH_done oK_ ?_ _;have g5:=o.2.2.2.2.2;have bc:=G (tb b7.o g5);clear o g5 SH;obtain⟨bq,df⟩:=exQ ((lw==0));(try rw[df]);have cs:=G df;clear df;cases bq with
     |true=>
      have hv:=U (lstK t.lvl es es.length=lstK t.lvl es j) (by
       have h0:lw=0:=eq_of_beq cs.o
       rw[ay.o,ax.o,if_neg (λh=>h h0)])
      clear ax ay be cw bf KW cc;go_wp2;go_roundw
      case rel=>exact⟨j,O,oN_,hv.o,bc.o⟩
      (try simp[intOf])<;>(try omega)
     |false=>
      have cy:=U (lw≠0) (by have:=cs.o;simpa using this);have HK:=U (lstK t.lvl es es.length=j+1) (by rw[ay.o,ax.o,if_pos cy.o]);have dj:=ai.o;rw[HK.o,if_neg O]at dj;have cg:=G dj;clear dj;have d6:decide ((j:Int)<0)=false:=oL_;have dw:=G (M.o.go bc.o);clear ax ay ai cs hi;by_cases q6:16<j+1
      ·have d7:decide ((16:Int)<(j:Int)+1)=true:=oU_
       have HE:=G (cg.o.trans (if_pos q6));clear q6 cg;obtain⟨f0,f1,f2,f3,f4,g0,g1,g2,g3,g4,WE⟩:=zl5 dw.o.x3;go_wp2_with fail;obtain⟨Wf,y,ZF,CF⟩:=WE;try rw[y]
       clear y;(try simp only[Exit.inBlock,Exit.then]);refine bodyPost_ret (gZ rfl _ _ rfl rfl ZF) rfl ?_;exact lsE HE.o dw.o.B CF
      have d7:decide ((16:Int)<(j:Int)+1)=false:=oU_;have ed:=G (cg.o.trans (if_neg q6));clear q6 cg
      have ad:=G (λ(W':Wv) (hb:By W2 W')=>show W'.cell? ⟨F,j*4,N⟩=Z (I J el.p)/\W'.cell? ⟨F,j*4+1,N⟩=Z (I J el.s)/\W'.cell? ⟨F,j*4+2,N⟩=Z (I J el.t)/\W'.cell? ⟨F,j*4+3,N⟩=Z (.bool el.v)/\W'.cell? ⟨w.heap.size+2,2,N⟩=Z (I J t.lvl)/\W'.cell? ⟨w.heap.size+2,3,N⟩=Z (.bool t.bef)/\By W2 W' from by
       have bm:=tb bc.o hb
       obtain⟨e0,e1,e2,e3⟩:=be.o W' bm
       have X:=M.o.x2.below bm M.o.x2.lt
       exact⟨e0,e1,e2,e3,X.c 2 rfl,X.c 3 rfl,hb⟩)
      have jb:=oE ao.o;have j3:(j:Int)<(j:Int)+1:=O;go_upto_region 22 with(fail)
      go_cut [12] (λs12 wx=>∃rb,s12=.pointer (Z ⟨rb,0,N⟩)/\W2.heap.size<=rb/\Box wx rb 85 [I J lw,.bool t.bef]/\By W2 wx)
      case first=>
       as_aux_lemma=>
       refine wp_region_held_drew (S:=λW'=>W'.cell? ⟨F,j*4,N⟩=Z (I J el.p)/\W'.cell? ⟨F,j*4+1,N⟩=Z (I J el.s)/\W'.cell? ⟨F,j*4+2,N⟩=Z (I J el.t)/\W'.cell? ⟨F,j*4+3,N⟩=Z (.bool el.v)/\W'.cell? ⟨w.heap.size+2,2,N⟩=Z (I J t.lvl)/\W'.cell? ⟨w.heap.size+2,3,N⟩=Z (.bool t.bef)/\By W2 W') oK_ (ad.o _ ((Below.refl _ _).drew)) (λo=>?_);refine tK 0 82 ?_;refine tK 1 83 ?_;refine tK 2 84 ?_;refine tK 3 85 ?_;refine tK 4 86 ?_;refine tK 5 87 ?_;refine tK 7 89 ?_;refine tK 8 90 ?_;refine iO (i:=6) (j:=10) rfl rfl oK_ oR_ oR_ (mJ (R:=λv _=>v=I J lw) (Z 88) rfl oS_ ((KW.o _).mono (by rintro e w' ⟨rfl,hb⟩;exact⟨_,rfl,ad.o _ ((o.2.2.2.2.2.2).trans (hb.mono (o.2.2.2.2.2.2).size)),rfl⟩)) ?_) (fN (w':=W2.drew.alloc (.cells #[I J 0,.bool false] 85)) (v:=.pointer (Z ⟨W2.drew.heap.size,0,N⟩)) (Z 12) rfl oS_ (ad.o _ ((o.2.2.2.2.2.2).alloc (o.2.2.2.2.2.2).size _)) ?_)
       ·rintro _ w6 bl rfl
        clear o;have o:=bl;clear bl;try simp only[Act.put,sA,sB,sC]
        refine tK 9 91 ?_;have K:=G (o.2.2.2.2.2.2);have XB:Box (w6.alloc (.cells #[I J 0,.bool false] 85)) w6.heap.size 85 [I J 0,.bool false]:=Box.new w6 85 [I J 0,.bool false] rfl;refine fK (i:=10) (w':=w6.alloc (.cells #[I J 0,.bool false] 85)) (v:=.pointer (Z ⟨w6.heap.size,0,N⟩)) (Z 12) rfl rfl oK_ oR_ oS_ (ad.o _ (K.o.alloc K.o.size _)) ?_;try simp only[Act.put,sA,sB,sC]
        obtain⟨y0,y1⟩:=XB.k2;obtain⟨f0,f1⟩:=XB.f2;have BF:By W2 (((w6.alloc (.cells #[I J 0,.bool false] 85)).setCell ⟨w6.heap.size,0,N⟩ (I J lw)).setCell ⟨w6.heap.size,1,N⟩ (.bool t.bef)):=((((K.o.alloc K.o.size _)).setCell (p:=⟨w6.heap.size,0,N⟩) (by dsimp only;have:=(K.o).size;omega) (I J lw)).setCell (p:=⟨w6.heap.size,1,N⟩) (by dsimp only;have:=(K.o).size;omega) (.bool t.bef));refine dJ (i:=11) (w':=((w6.alloc (.cells #[I J 0,.bool false] 85)).setCell ⟨w6.heap.size,0,N⟩ (I J lw)).setCell ⟨w6.heap.size,1,N⟩ (.bool t.bef)) N rfl rfl oK_ oR_ oS_ (ad.o _ BF) ?_;try simp only[Act.put]
        refine wpAnyH_done oK_ ?_ _;go_wp2;go_meet;first|exact⟨_,rfl,K.o.size,(XB.set 0 _).set 1 _,BF⟩|exact⟨_,rfl,K.o.size,Box.new w6 85 [I J lw,.bool t.bef] rfl,K.o.alloc K.o.size _⟩
       have K:=G (o.2.2.2.2.2.2);have c4:Box (W2.drew.alloc (.cells #[I J 0,.bool false] 85)) W2.drew.heap.size 85 [I J 0,.bool false]:=Box.new W2.drew 85 [I J 0,.bool false] rfl;obtain⟨bo,g6⟩:=exQ (W2.drew.heap.size);have ip:W2.heap.size<=bo:=by have:=K.o.size;omega
       have gw:=ad.o _ (K.o.alloc K.o.size (.cells #[I J 0,.bool false] 85));clear o;have o:=gw;clear gw;try simp only[Act.put,sA,sB,sC]
       rw[g6]at c4|-;clear g6;obtain⟨wz,dl⟩:=exQ (W2.drew.alloc (.cells #[I J 0,.bool false] 85));rw[dl]at c4 o|-;clear dl K;refine iN (R:=λv W'=>v=I J lw/\By wz W') (i:=6) (Z 88) rfl rfl oK_ oR_ oS_ ((KW.o _).mono (by rintro e w' ⟨rfl,hb⟩;exact⟨_,rfl,ad.o _ ((o.2.2.2.2.2.2).trans (hb.mono (o.2.2.2.2.2.2).size)),rfl,hb⟩)) ?_;rintro _ w6 bl ⟨rfl,dd⟩;clear o;have o:=bl;clear bl;try simp only[Act.put,sA,sB,sC]
       refine tK 9 91 ?_;have K:=G (o.2.2.2.2.2.2);have XB:Box w6 bo 85 [I J 0,.bool false]:=bb c4 dd;obtain⟨y0,y1⟩:=XB.k2;obtain⟨f0,f1⟩:=XB.f2;have BF:By W2 (((w6).setCell ⟨bo,0,N⟩ (I J lw)).setCell ⟨bo,1,N⟩ (.bool t.bef)):=(((K.o).setCell (p:=⟨bo,0,N⟩) (by dsimp only;have:=(K.o).size;omega) (I J lw)).setCell (p:=⟨bo,1,N⟩) (by dsimp only;have:=(K.o).size;omega) (.bool t.bef));refine dJ (i:=11) (w':=((w6).setCell ⟨bo,0,N⟩ (I J lw)).setCell ⟨bo,1,N⟩ (.bool t.bef)) N rfl rfl oK_ oR_ oS_ (ad.o _ BF) ?_;try simp only[Act.put]
       refine wpAnyH_done oK_ ?_ _;go_wp2;go_meet;exact⟨_,rfl,ip,(XB.set 0 _).set 1 _,BF⟩
      as_aux_lemma=>
      obtain⟨rb,rfl,j4,a0,dd⟩:=hcut;have ci:=tb bc.o dd;have Y:=G (M.o.go ci);obtain⟨ie,ig,ih,ii,ij⟩:=Y.o.x1.k5;have C6:=G (K6.o wc Y.o.B);clear ad;go_wp2_with fail;refine C6.o.mono ?_
      rintro e Wf ⟨A',a',B',b',base,zz,bu,rfl,bn,aa,bj,a1,hg,it,s⟩;clear C6 ie ig ih ii ij;obtain⟨vs,mm,ar⟩:=bn.open;have j5:=ci.size;have i8:=s.size;have jf:=a0.lt;have j0:=bc.o.size;have jh:=cr.o.x3.lt;have T:=ar.lower (Nat.min_le_left base Wf.heap.size);obtain⟨bs,dg⟩:=exQ (min base Wf.heap.size);rw[dg]at T;have i9:rb<bs:=O;have ja:bs<=Wf.heap.size:=O;have ag:=U (∀q,blk A'=Z q->bs<=q) (λq hq=>(aN T.row hq).1);have an:=U (∀q,blk B'=Z q->rb<q/\q<bs) (λq hq=>by have:=aN aa hq;have:=bj q hq;omega);have ca:=U (∀q,blk D=Z q->w.heap.size+3<q/\q<rb) (λq hq=>by have:=aN bd.o hq;have:=am.o.x3.lt;omega);have j1:w.heap.size+3<F/\F<rb:=O;have j6:w.heap.size+3<rb:=O;have aw:=tb ci s;have c2:=sl5 (H A' c.ents.length a') (H B' c.grps.length b') (I J c.base) (I J c.second) (I J c.third) (Y.o.x1.below s Y.o.x1.lt);obtain⟨f0,f1,f2,f3,f4,g0,g1,g2,g3,g4,c2⟩:=c2;have eb:=G (And.intro T (And.intro aa (And.intro s a0)));have jg:=ar.tw;have ea:=G a1.hs;clear ar T bn aa bj a1 s a0;go_upto_region 24 with(fail)
      obtain⟨W5,gz,SZ,CH⟩:=c2;obtain⟨T,aa,s,a0⟩:=eb.o;have aw:=tb ci s;have ct:=Y.o.B.trans (s.mono Y.o.B.size);have SO:=T.low5 (q:=w.heap.size+1) O (H A' c.ents.length a') (H B' c.grps.length b') (I J c.base) (I J c.second) (I J c.third);rw[gz]at SO|-;have gu:=aG (UO Elt.cells (λ_=>rfl) ao.o rfl (Nat.succ_pos j) bt) aw;have SE:=eQ gu CH (λq hq(e:q=w.heap.size+1)=>by have hq:=Option.some.inj hq;dsimp only at hq;omega);have SG:=eQ aa CH (λq hq(e:q=w.heap.size+1)=>by have:=aN aa hq;omega);have SD:=eQ (aG bd.o aw) CH (λq hq(e:q=w.heap.size+1)=>by have:=ca.o q hq;omega);have SR:=CH.box (bb a0 s) (λ(e:rb=w.heap.size+1)=>O);have eh:=CH.box (Y.o.x3.below s Y.o.x3.lt) (λ(e:w.heap.size+3=w.heap.size+1)=>O);have eg:=CH.box (Y.o.x2.below s Y.o.x2.lt) (λ(e:w.heap.size+2=w.heap.size+1)=>O);have SB:By w _:=ct.trans (Chg.below CH (n:=w.heap.size) ct.size (λk(hk:k=w.heap.size+1)=>O));have i7:=CH.size;clear gz f0 f1 f2 f3 f4 g0 g1 g2 g3 g4 ct T aa s a0 gu aw CH eb;have a3:(es.take (j+1)).length=j+1:=by rw[List.length_take];omega
      have dc:atW t.lvl es=lw:=by unfold atW atE;rw[HK.o,Nat.add_sub_cancel,cw.o,cc.o]
      have dh:0<lstK t.lvl es es.length:=by rw[HK.o];omega
      have db:roomT t es c=roomC t.lvl lw (lst lw t.bef) c:=by unfold roomT;rw[dc]
      have c9:newO t.lvl (lst lw t.bef) (roomC t.lvl lw (lst lw t.bef) c) (es.take (j+1))=newL t es c:=by
       have h:=newO_L (c:=c) dh;rw[HK.o,dc,db]at h;exact h
      have gx:(newL t es c).length=j+1:=by rw[new_len dh,HK.o]
      have bp:=dy.o;have ha:=(cx.o.2 el bf.o).1;have hh:1<=lw/\lw<=65535:=by
       have h:=eok_wt ha t.lvl;rw[cc.o]at h;have:=cy.o;omega
      have br:=fit_step (w:=lw) (l:=lst lw t.bef) cz.o HG.o.2.1 (λe he=>cx.o.1 e (List.mem_of_mem_take he)) (by rw[a3];omega:0<(es.take (j+1)).length);rw[c9]at br
      have hO:OpO ⟨w.heap.size+1,W5.heap.size,w.heap.size+1,wc.heap.size,Wd.heap.size,bs,zz,bu,A',a',B',b',Z ⟨F,0,N⟩,ek,vs,mm,lw,t.bef⟩:={
       ng:=Nat.le_refl _
       nl:=oD_
       ne:=oD_
       nb:=oD_
       gb:=oD_
       bB:=λq hq=>by have:=an.o q hq;dsimp only;omega
       bE:=λq hq=>by
        have hq:=Option.some.inj hq
        dsimp only at hq|-
        refine⟨O,O,λe=>?_⟩
        have:=an.o q e
        omega
       rg:=oD_
       rt:=by dsimp only;omega }
      have KO:=UH t.lvl cz.o ⟨w.heap.size+1,W5.heap.size,w.heap.size+1,wc.heap.size,Wd.heap.size,bs,zz,bu,A',a',B',b',Z ⟨F,0,N⟩,ek,vs,mm,lw,t.bef⟩ hO c (es.take (j+1)) W5 rfl HG.o.2.1 bp (λe he=>eok_wt (cx.o.2 e (List.mem_of_mem_take he)).1 _) (by rw[a3];omega) (by rw[a3];omega) hh SZ SO SG (by rw[a3];exact SE);dsimp only at KO;rw[c9,a3]at KO;have hp:=G (room_pair (k:=t.lvl) (w:=lw) (l:=lst lw t.bef) HG.o.2.1);have hs:=G (DE bp t.lvl lw (lst lw t.bef));have hw:=G (XZ ea.o t.lvl lw (lst lw t.bef));have bg:=G ed.o;rw[db]at bg;clear db c9 dc dh bp ha hh hO SZ SO SG SE ed HK cc cw bf be cy KW K6 ea;generalize newL t es c=L at *;generalize roomC t.lvl lw (lst lw t.bef) c=R at *;generalize fitO t.lvl (lst lw t.bef) lw c=fb at *;have au:=G br;have hu:=G gx;have hx:=G SD;have co:=G eh;have ee:=G SB;have cb:=G KO;obtain⟨r0,r1⟩:=SR.k2;have r2:=eg.c 2 rfl;clear br gx SD eh SB KO SR eg a3;cases fb with
      |false=>
       have HE:=G (bg.o.trans (if_pos (au.o.2 rfl)));clear bg au;go_wp2_with fail;refine cb.o.mono ?_
       rintro e w6 ⟨rfl,hS⟩;have av:=G (hS.chg.box co.o (by rintro(e|e|e|e)<;>dsimp only at e;omega;(have:=an.o _ e;omega);(have e:=Option.some.inj e;dsimp only at e;omega);omega));have b8:=G (ee.o.trans (hS.bel.mono (Nat.le_succ _)));clear hS cb r0 r1 r2;obtain⟨f0,f1,f2,f3,f4,g0,g1,g2,g3,g4,WE⟩:=zl5 av.o;go_wp2_with fail;obtain⟨Wf,y,ZF,CF⟩:=WE;try rw[y]
       clear y;(try simp only[Exit.inBlock,Exit.then]);refine bodyPost_ret (gZ rfl _ _ rfl rfl ZF) rfl ?_;exact lsE HE.o b8.o CF
      |true=>
       have HE:=G (bg.o.trans (if_neg (λh=>by have:=au.o.1 h;cases this)));clear bg au;go_wp2_with fail;refine cb.o.mono ?_
       rintro e w6 ⟨rfl,hS⟩;have av:=G (hS.chg.box co.o (by rintro(e|e|e|e)<;>dsimp only at e;omega;(have:=an.o _ e;omega);(have e:=Option.some.inj e;dsimp only at e;omega);omega));have b8:=G (ee.o.trans (hS.bel.mono (Nat.le_succ _)))
       have gq:=eQ hx.o hS.chg (λq hq=>by
        have h1:=ca.o q hq
        rintro(e|e|e|e)<;>dsimp only at e
        ·omega
        ·have:=an.o _ e;omega
        ·have e:=Option.some.inj e
         dsimp only at e
         have h2:=aN dz.o hq
         omega
        ·omega)
       obtain⟨q0,q1,q2,q3,q4⟩:=hS.col.k5;have c7:=hS.els;have c8:=hS.grps;have da:=hS.ents;have iq:=hS.chg.size;dsimp only at q0 q1 q2 q3 q4 c7 c8 da iq;have cn:=hu.o;have C7:=G (BL bs zz A' a' vs mm bu R B' b' D dk d (Z ⟨F,0,N⟩) ek L w6 da (Sl.of_own c8) (λ_ q hq e=>by have:=an.o q hq;have:=ag.o q e;omega) (Sl.of_own gq) (λ_ q hq e=>by have:=ca.o q hq;have:=ag.o q e;omega) (Sl.of_own c7) (λ_ q hq e=>by have hq:=Option.some.inj hq;dsimp only at hq;have:=ag.o q e;omega) hp.o hs.o (by have:=b9.o;omega) hw.o O);unfold rB aJ at C7;rw[cn]at C7;have ir:=av.o.lt;clear hS cb r0 r1 r2 gq c7 c8 da cn;go_wp2_with fail;refine C7.o.mono ?_
       rintro e Wg ⟨A2,a2,rfl,-,aq,al⟩;have bh:=G (av.o.grown aq (λe=>by have:=ag.o _ e.symm;omega));have cu:=G (b8.o.trans (Chg.below (Chg.of_grown (S:=λq=>blk A'=Z q) aq (λ_ e=>e)) (n:=w.heap.size) b8.o.size (λk hk=>by have:=ag.o k hk;omega)));have ba:=G (λW'(g:Chg (λq=>q=w.heap.size+3\/q<w.heap.size) Wg W')=>al _ W' g (λq(hq:q=w.heap.size+3\/q<w.heap.size)=>⟨O,O,λe=>by have:=an.o q e;omega,λe=>by have:=ca.o q e;omega,λe=>by have e:=Option.some.inj e;dsimp only at e;omega⟩));clear al aq C7 q0 q1 q2 q3 q4;obtain⟨f0,f1,f2,f3,f4,g0,g1,g2,g3,g4,WE⟩:=sl5 (H A2 (putE R.ents ⟨d,L⟩).length a2) (H B' R.grps.length b') (I J R.base) (I J R.second) (I J R.third) bh.o;go_wp2_with fail;obtain⟨Wf,y,ZF,CF⟩:=WE;try rw[y]
       clear y;(try simp only[Exit.inBlock,Exit.then]);refine bodyPost_ret (gZ rfl _ _ rfl rfl ZF) rfl ?_;exact dsE HE.o cu.o CF ba.o
 have d1:(ec !=0)=true:=by simp[q1]
 have HE:=G (cd.o.trans (if_pos q1));clear q1 cd cv;obtain⟨f0,f1,f2,f3,f4,g0,g1,g2,g3,g4,WE⟩:=zl5 am.o.x3;go_wp2_with fail;obtain⟨Wf,y,ZF,CF⟩:=WE;try rw[y]
 clear y;(try simp only[Exit.inBlock,Exit.then]);refine bodyPost_ret (gZ rfl _ _ rfl rfl ZF) rfl ?_;exact lsE HE.o am.o.B CF
end
end Go.Proofs.YtkhmjidaeliccaaGreatDoor
