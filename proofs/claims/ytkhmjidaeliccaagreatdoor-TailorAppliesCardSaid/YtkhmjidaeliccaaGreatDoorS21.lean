import Derived.Test.YtkhmjidaeliccaaGreatDoorS20
set_option maxRecDepth 100000
set_option maxHeartbeats 51200000
namespace Go.Proofs.YtkhmjidaeliccaaGreatDoor
open Option renaming none->N,some->Z
open Value renaming int->I,slice->H
open IntKind renaming i64->J
open Go.Proofs.Tryz
section
open Go.RowKit Go.Maps Go.WideMaps Tl
theorem TZ(K:Opd)(o:OpO K)(c:Col)(es:List Elt)(w:Wv)(hrb:K.rb=w.heap.size)(hc:aK c=0)(hcz:aQ c)(hes:∀e∈es,0<=wt 2 e/\wt 2 e<=65535)(hn:0<es.length)(hsz:es.length<=1099511627776)(hz:1<=K.z/\K.z<=65535)
  (hcol:Box w K.g 32 [H K.A c.ents.length K.a,H K.B c.grps.length K.bb,I J c.base,I J c.second,I J c.third]) (hents:OpV w K.base K.zz K.A K.a K.vs K.m K.top c.ents) (hgrps:w.ownsRow K.lg 98 3 (H K.B c.grps.length K.bb) c.grps.length (aB Grp.cells c.grps)) (hels:w.ownsRow K.le 77 4 (H K.E es.length K.ec) es.length (aB Elt.cells es)) :
  Calls prog 40 #[.agg #[I J K.z,.bool K.b],.pointer (Z ⟨K.g,0,none⟩),H K.E es.length K.ec,I J 2] w λe w'=>
   e=.returned (.bool (fitO 2 (lst K.z K.b) K.z c))/\OpS K w w' (roomC 2 K.z (lst K.z K.b) c).ents (roomC 2 K.z (lst K.z K.b) c).grps (newO 2 (lst K.z K.b) (roomC 2 K.z (lst K.z K.b) c) es) (roomC 2 K.z (lst K.z K.b) c).base (roomC 2 K.z (lst K.z K.b) c).second (roomC 2 K.z (lst K.z K.b) c).third:=by
 have B0:By w (w.alloc (.cells #[I J K.z,.bool K.b] 85)):=ba _ _;have X0:Box (w.alloc (.cells #[I J K.z,.bool K.b] 85)) w.heap.size 85 [I J K.z,.bool K.b]:=Box.new _ _ _ rfl;have hN:K.N<=w.heap.size:=Nat.le_trans o.ng (Nat.le_of_lt hcol.lt);have S0:OpS K w (w.alloc (.cells #[I J K.z,.bool K.b] 85)) c.ents c.grps es c.base c.second c.third:=⟨by rw[hrb];exact X0,bb hcol B0,hents.below B0,aG hgrps B0,aG hels B0,(Below.refl _ _).trans (B0.mono hN),Chg.of_below B0⟩;have df:∃W0,(w.alloc (.cells #[I J K.z,.bool K.b] 85))=W0:=⟨_,rfl⟩;have CF:=G (colw hc);have ES:=G hes;have L:=G o;obtain⟨e4,e5⟩:=hz;have KR:=G (λx W(hx:0<=x/\x<=65535)=>nC K.z K.b x W ⟨hx.1,O⟩);have KO:=G (λW=>uA K.z K.b W ⟨O,O⟩);have KC:=G (λd o x W(hx:0<=x/\x<=65535)hc hf=>YL K.z K.b d o x W ⟨hx.1,O⟩ hc hf);unfold aU at KR KO;obtain⟨l,hl⟩:=exQ (lst K.z K.b);have ee:=U (l=K.z\/l=K.z+1) (hl ▸ lst_c K.z K.b);rw[hl]at KR KO KC|-;have z:=G hrb;have da:=G hcz.e;have et:=hcz.n;have er:=hcz.m;clear hl hrb hc hes hcol hents hgrps hels X0 o hcz;(try dsimp only at KR KO KC);go_enter func40,ntmps40;go_upto_region 1 with(fail)
 go_step;go_step;go_step;go_step;go_step;go_step;go_step;go_step;go_step;go_step;go_step;go_step;go_step;go_step;obtain⟨W0,cj⟩:=df;try rw[cj]at S0 B0|-
 clear cj;have b5:=G S0;have c0:W0.cell? ⟨w.heap.size,0,none⟩=Z (I J K.z):=by rw[<-z.o];exact S0.room.cell rfl
 have c1:W0.cell? ⟨w.heap.size,1,none⟩=Z (.bool K.b):=by rw[<-z.o];exact S0.room.cell rfl
 have c2:=S0.col.c 3 rfl;have f2:=S0.col.free 3;have cp:=S0.col.lt;have hb:=S0.n L.o;have ax:=G (λW=>KR.o c.second W CF.o.s);obtain⟨pv,bq⟩:=exQ (mvd l c.second);rw[bq]at ax;have b4:=G bq;clear bq S0 KR B0;go_cut [9] (λs9 wx=>s9=.func (.func 93) #[.agg #[I J K.z,.bool K.b]] #[]/\OpS K w wx c.ents c.grps es c.base pv c.third)
 case first=>
  go_upto_region 15 with(fail)
  go_region_with (go_at_call 92;refine(ax.o _).mono ?_;rintro e w2 ⟨rfl,s⟩;have g2:=(s.cell (p:=⟨K.g,3,none⟩) cp).trans c2;have g3:=(s.frozen (p:=⟨K.g,3,none⟩) cp).trans f2)
  all_goals(
   have X:=(show By W0 W0.drew from(Below.refl _ _).drew).trans s
   have HF:=G ((b5.o.below hb X).col_set L.o 3 (I J pv) c.base pv c.third rfl)
   clear s g2 g3 c0 c1 c2 f2 ax X
   go_wp2
   go_meet
   exact⟨rfl,HF.o⟩)
 obtain⟨rfl,b⟩:=hcut;obtain⟨f0,aa⟩:=exQ ((decide (c.base<=65502)&&decide (pv<=65535)&&decide (c.third<=65535)&&decide (l<=65535)));have ag:=G aa;clear aa c0 c1 c2 f2 ax b5;go_upto_region 19 with(fail)
 have aj:=G b;have c2:=b.col.c 2 rfl;have c3:=b.col.c 3 rfl;have c4:=b.col.c 4 rfl;have r0:wc.cell? ⟨w.heap.size,0,none⟩=Z (I J K.z):=by rw[<-z.o];exact b.room.cell rfl
 have r1:wc.cell? ⟨w.heap.size,1,none⟩=Z (.bool K.b):=by rw[<-z.o];exact b.room.cell rfl
 have bj:=b.n L.o;clear b;go_cut [12] (λs12 wx=>s12=.bool f0/\OpS K w wx c.ents c.grps es c.base pv c.third)
 case first=>
  by_cases q0:c.base<=65502
  ·have d0:decide (c.base<=65502)=true:=decide_eq_true q0
   by_cases q1:pv<=65535
   ·have d1:decide (pv<=65535)=true:=decide_eq_true q1
    by_cases q2:c.third<=65535
    ·have d2:decide (c.third<=65535)=true:=decide_eq_true q2
     have HK:=U (decide (l<=65535)=f0) (by rw[<-ag.o,decide_eq_true q0,decide_eq_true q1,decide_eq_true q2];simp);clear q0 q1 q2;go_wp2_with fail;refine(KO.o _).mono ?_
     rintro e W2 ⟨rfl,s⟩;have av:=G (aj.o.below bj s);clear s;go_wp2;go_meet;exact⟨by rw[HK.o],av.o⟩
    have d2:decide (c.third<=65535)=false:=decide_eq_false q2;have HK:=U (false=f0) (by rw[<-ag.o,d2];simp);clear q0 q1 q2;go_wp2;go_meet;exact⟨by rw[HK.o],aj.o⟩
   have d1:decide (pv<=65535)=false:=decide_eq_false q1;have HK:=U (false=f0) (by rw[<-ag.o,d1];simp);clear q0 q1;go_wp2;go_meet;exact⟨by rw[HK.o],aj.o⟩
  have d0:decide (c.base<=65502)=false:=decide_eq_false q0;have HK:=U (false=f0) (by rw[<-ag.o,d0];simp);clear q0;go_wp2;go_meet;exact⟨by rw[HK.o],aj.o⟩
 case rest=>
 obtain⟨rfl,b⟩:=hcut;have av:=G b;have bj:=b.n L.o;have e0:=b.col.c 0 rfl;have b7:=G b.ents.len;clear b c2 c3 c4 r0 r1 aj;go_wp2;go_loopw [12,132] (λv u wr=>∃i:Nat,i<=c.ents.length/\u=I J i/\v=.bool (f0&&okX 2 l c.ents i)/\OpS K w wr (aI (rsEnt 2 l) c.ents i) c.grps es c.base pv c.third) (λ_ u _=>c.ents.length-(intOf u).toNat)
 case atStart=>exact⟨0,Nat.zero_le _,rfl,by rw[okX_0,Bool.and_true],by rw[kE];exact av.o⟩
 obtain⟨i,hi,rfl,rfl,b⟩:=hrel;by_cases hlt:i<c.ents.length
 ·have b2:=U ((f0&&okX 2 l c.ents (i+1))=((f0&&okX 2 l c.ents i)&&okE 2 l c.ents[i].elems c.ents[i].elems.length)) (by rw[okX_succ 2 l c.ents hlt,Bool.and_assoc])
  obtain⟨fb,aq⟩:=exQ ((f0&&okX 2 l c.ents i));rw[aq]at b2|-;clear aq;have cl:=b.n L.o;have bt:=gF (rsEnt 2 l) c.ents i;have a0:i<(aI (rsEnt 2 l) c.ents i).length:=O;have bv:i<K.vs.length:=by have:=b7.o;omega
  obtain⟨gA,C,cc,E,ec,hA,eu,ev,bu,ca,cb⟩:=b.ents.at a0 bv;have br:=iI (rsEnt 2 l) c.ents hlt a0;rw[br]at bu ca cb;have dq:gA<wr.heap.size:=World.block_lt_of_cell? wr ⟨gA,i*2,none⟩ ca;have dc:=G (CF.o.e _ (List.getElem_mem hlt));have au:(aI (rsEnt 2 l) c.ents i).set i c.ents[i]=aI (rsEnt 2 l) c.ents i:=by
   conv=>lhs;rw[<-br]
   exact List.set_getElem_self a0
  have bf:=G au;have b3:=U ((aI (rsEnt 2 l) c.ents i).set i ⟨c.ents[i].codes,c.ents[i].elems.map (rsE 2 l)⟩=aI (rsEnt 2 l) c.ents (i+1)) (kF (rsEnt 2 l) c.ents hlt);have db:=G bt;have b6:=G bu;have e1:=da.o i hlt;clear au bu br a0 bt;generalize c.ents[i]=en at *;obtain⟨cd,el⟩:=en;dsimp only at *;rw[hA];have cr:¬gA=wr.heap.size:=O;have di:wr.cell? ⟨gA,0+i*2,none⟩=Z (H C cd.length cc):=by rw[Nat.zero_add];exact ca
  have BA:By wr (wr.alloc (.cells #[H C cd.length cc,H E el.length ec] 75)):=ba _ _;have XA:Box (wr.alloc (.cells #[H C cd.length cc,H E el.length ec] 75)) wr.heap.size 75 [H C cd.length cc,H E el.length ec]:=Box.new wr 75 [H C cd.length cc,H E el.length ec] rfl;have SA:=G (b.below cl BA);have ds:=b.ents.tw;have dh:∃Wa,(wr.alloc (.cells #[H C cd.length cc,H E el.length ec] 75))=Wa:=⟨_,rfl⟩;clear b;go_upto_region 23 with(fail)
  obtain⟨Wa,ck⟩:=dh;try rw[ck]at BA XA SA|-
  clear ck ca di cb;have b9:=G XA;have k1:=XA.c 1 rfl;clear XA;have eq:K.N<=Wa.heap.size:=Nat.le_trans cl BA.size;obtain⟨xb,cv⟩:=exQ (wr.heap.size);rw[cv]at b9 k1 ds|-;clear cv BA cr dq;go_wp2;go_loopw [12,139] (λv u wr2=>∃j:Nat,j<=el.length/\u=I J j/\v=.bool (fb&&okE 2 l el j)/\OpS K w wr2 ((aI (rsEnt 2 l) c.ents i).set i ⟨cd,aI (rsE 2 l) el j⟩) c.grps es c.base pv c.third/\Box wr2 xb 75 [H C cd.length cc,H E el.length ec]) (λ_ u _=>el.length-(intOf u).toNat)
  case atStart=>exact⟨0,Nat.zero_le _,rfl,by rw[okE_0,Bool.and_true],by rw[kE,bf.o];exact SA.o,b9.o⟩
  obtain⟨j,hj,rfl,rfl,b,hX⟩:=hrel;by_cases hlj:j<el.length
  ·have bc:=U ((fb&&okE 2 l el (j+1))=((fb&&okE 2 l el j)&&!bigE (rsE 2 l el[j]))) (by rw[okE_succ 2 l el hlj,Bool.and_assoc])
   obtain⟨fe,co⟩:=exQ ((fb&&okE 2 l el j));rw[co]at bc|-;clear co;have Q:=b.n L.o;have bs:=gF (rsE 2 l) el j;have a8:i<((aI (rsEnt 2 l) c.ents i).set i ⟨cd,aI (rsE 2 l) el j⟩).length:=by have bt:=db.o;rw[List.length_set];omega
   have bm:((aI (rsEnt 2 l) c.ents i).set i ⟨cd,aI (rsE 2 l) el j⟩)[i]=⟨cd,aI (rsE 2 l) el j⟩:=List.getElem_set_self _;have A:=iI (rsE 2 l) el hlj O;have ak:=G (kF (rsE 2 l) el hlj);have ae:=dc.o _ (List.getElem_mem hlj);have cu:=rsE_nn 2 l (λk=>(ae k).1);have y:=λW(h:OpS K w W ((aI (rsEnt 2 l) c.ents i).set i ⟨cd,aI (rsE 2 l) el j⟩) c.grps es c.base pv c.third)=>h.ent L.o a8 bv b6.o (j:=j) (by rw[bm];dsimp only;omega)
   simp only[bm,A,List.set_set]at y;have af:=G y;obtain⟨q,dn,ex,ey,r,t,-⟩:=y wr b;clear y A bm;generalize el[j]=e at *;subst dn;have e2:=hX.c 1 rfl;have cz:wr.cell? ⟨q,j*4+1,none⟩=Z (I J e.s):=r 1 O;have fz:wr.frozen? ⟨q,j*4+1,none⟩=false:=t _;have aw:=G b;have b8:=G hX;have al:=G (KC.o q (j*4) e.s wr (ae 2) cz fz);clear b hX r t ae cz fz;go_wp2_with fail;refine al.o.mono ?_
   rintro e' W3 ⟨rfl,w1,T,rfl⟩;have ch:=aw.o.below Q T;obtain⟨q',a2,-,-,-,-,f⟩:=af.o w1 ch;obtain rfl:q=q':=by injection a2 with a2;injection a2
   have D:=f 1 (I J (mvd l e.s)) (rsE 2 l e) O rfl;have cn:=D.ent L.o (i:=i) (j:=j) (by simpa using a8) bv b6.o (by simp[bs];omega);simp only[List.getElem_set_self]at cn;obtain⟨q',R,-,-,az,-,-⟩:=cn;obtain rfl:q=q':=by injection R with R;injection R
   have bi:=dS (bb b8.o T) ⟨q,j*4+1,none⟩ oD_ (I J (mvd l e.s));have y0:(w1.setCell ⟨q,j*4+1,none⟩ (I J (mvd l e.s))).cell? ⟨q,j*4,none⟩=Z (I J (rsE 2 l e).p):=az 0 O;have y1:(w1.setCell ⟨q,j*4+1,none⟩ (I J (mvd l e.s))).cell? ⟨q,j*4+1,none⟩=Z (I J (rsE 2 l e).s):=az 1 O;have y2:(w1.setCell ⟨q,j*4+1,none⟩ (I J (mvd l e.s))).cell? ⟨q,j*4+2,none⟩=Z (I J (rsE 2 l e).t):=az 2 O;simp only[ak.o]at D;have bh:OpS K w (w1.setCell ⟨q,j*4+1,none⟩ (I J (mvd l e.s))) ((aI (rsEnt 2 l) c.ents i).set i ⟨cd,aI (rsE 2 l) el (j+1)⟩) c.grps es c.base pv c.third:=D;have HT:=G (bh.below (bh.n L.o) (Below.refl _ _).drew);have HX:=G (bi.below (B:=_) (Below.refl _ _).drew bi.lt);clear D bh bi az f ch a2 R T ak af aw b8 al;have an:=bigE_eq _ cu;generalize rsE 2 l e=e3 at *;generalize w1.setCell ⟨q,j*4+1,none⟩ (I J (mvd l e.s))=W3 at *;obtain⟨mm,bp⟩:=exQ (max (max e3.p e3.s) e3.t);rw[bp]at an;have b1:=G an;have ew:=λ(W:Wv) (ts:Array TypeId) (ty:TypeId)=>tR W ts ty e3.p e3.s e3.t mm bp
   clear bp an cu;cases fe with
   |false=>
    go_wp2_with fail;go_region;go_wp2;go_roundw
    case rel=>exact⟨j+1,O,oN_,by rw[bc.o];rfl,HT.o,HX.o⟩
    exact oI_
   |true=>
    have c9:=U ((fb&&okE 2 l el (j+1))=decide (mm<=65535)) (by rw[bc.o,b1.o,Bool.not_not,Bool.true_and]);go_wp2_with fail;go_region;go_wp2;go_roundw
    case rel=>exact⟨j+1,O,oN_,by rw[c9.o],HT.o,HX.o⟩
    exact oI_
  obtain rfl:j=el.length:=O;have M:=U (OpS K w wr ((aI (rsEnt 2 l) c.ents i).set i ⟨cd,el.map (rsE 2 l)⟩) c.grps es c.base pv c.third) (by rw[<-mK (rsE 2 l) el (Nat.le_refl _)];exact b);clear b hX;go_wp2;go_roundw
  case rel=>exact⟨i+1,O,oN_,by rw[b2.o],by have:=M.o;rw[b3.o]at this;exact this⟩
  exact oI_
 obtain rfl:i=c.ents.length:=O
 have a4:=U ((f0&&okX 2 l c.ents c.ents.length)=fitO 2 l K.z c) (by
  rw[fit_eq,<-ag.o,<-b4.o];rfl)
 obtain⟨fb,aq⟩:=exQ ((f0&&okX 2 l c.ents c.ents.length));rw[aq]at a4|-;clear aq;rw[mK (rsEnt 2 l) c.ents (Nat.le_refl _)]at b;obtain⟨nl,a1⟩:∃nl,es.length=nl+1:=⟨es.length-1,O⟩;have F:=G a1;have cm:=oE b.els;have ci:=b;obtain⟨a,bg,-,-,ez,dr,-⟩:=ci.el L.o (i:=0) O;have ai:=G bg;have aw:=G b;rw[bg,a1];rw[a1]at hsz cm;have dp:nl<=K.ec:=O;clear a1 ci b hn bg av e0 bj b7;go_wp2;go_loopw [175] (λu wr2=>∃j:Nat,j<=nl/\u=I J j/\OpS K w wr2 (c.ents.map (rsEnt 2 l)) c.grps (aI (rsE 2 l) es j) c.base pv c.third) (λu _=>nl-(intOf u).toNat)
 case atStart=>exact⟨0,Nat.zero_le _,rfl,by rw[kE];exact aw.o⟩
 obtain⟨j,hj,rfl,b⟩:=hrel;have Q:=b.n L.o;by_cases hlj:j<nl
 ·have bn:j<es.length:=by have:=F.o;omega
  have bs:=gF (rsE 2 l) es j;have A:=iI (rsE 2 l) es bn O;have ak:=G (kF (rsE 2 l) es bn);have ae:=ES.o _ (List.getElem_mem bn);have y:=λW(h:OpS K w W (c.ents.map (rsEnt 2 l)) c.grps (aI (rsE 2 l) es j) c.base pv c.third)=>h.el L.o (i:=j) O
  simp only[A]at y;have af:=G y;obtain⟨q,hq,r,t,-⟩:=y wr b;obtain rfl:a=q:=by have hq:=ai.o.symm.trans hq;injection hq with hq;injection hq
  clear y A bs hq;generalize es[j]=e at *;have cz:wr.cell? ⟨a,j*4+1,none⟩=Z (I J e.s):=r 1 O;have fz:wr.frozen? ⟨a,j*4+1,none⟩=false:=t _;have M:=G b;have al:=G (KC.o a (j*4) e.s wr ae cz fz);clear b r t ae cz fz;go_wp2_with fail;refine al.o.mono ?_
  rintro e' W3 ⟨rfl,w1,T,rfl⟩;obtain⟨q,hq,-,-,-,-,f⟩:=af.o w1 (M.o.below Q T);obtain rfl:a=q:=by have hq:=ai.o.symm.trans hq;injection hq with hq;injection hq
  have D:=f 1 (I J (mvd l e.s)) (rsE 2 l e) O rfl;rw[ak.o]at D;have HT:=G D;clear D f hq T af ak al M;go_wp2;go_roundw
  case rel=>exact⟨j+1,O,oN_,HT.o⟩
  exact oI_
 obtain rfl:j=nl:=O;have M:=G b;have r0:wr.cell? ⟨w.heap.size,0,none⟩=Z (I J K.z):=by rw[<-z.o];exact b.room.cell rfl
 have r1:wr.cell? ⟨w.heap.size,1,none⟩=Z (.bool K.b):=by rw[<-z.o];exact b.room.cell rfl
 have s3:=b.col.c 3 rfl;have s4:=b.col.c 4 rfl;have cs:=b.col.lt;have bo:(aI (rsE 2 l) es j).length=es.length:=gF _ _ _;obtain⟨q,hq,r,t,-⟩:=b.el L.o (i:=j) (by have:=F.o;omega);obtain rfl:a=q:=by have hq:=ai.o.symm.trans hq;injection hq with hq;injection hq
 have ad:a<wr.heap.size:=World.block_lt_of_cell? wr ⟨a,j*4+0,none⟩ (r 0 O);have ab:j<(aI (rsE 2 l) es j).length:=by rw[bo];have:=F.o;omega
 have aa:wr.frozen? ⟨a,j*4,none⟩=false:=t _;have bk:wr.frozen? ⟨a,j*4+1,none⟩=false:=t _;have bl:wr.frozen? ⟨a,j*4+2,none⟩=false:=t _;have Y:=r 0 O;have ao:=r 1 O;have ap:=r 2 O;simp only[Nat.add_zero]at Y;replace Y:=Y.trans (show _=Z (Value.int .i64 ((aI (rsE 2 l) es j)[j]'ab).p)from rfl);replace ao:=ao.trans (show _=Z (Value.int .i64 ((aI (rsE 2 l) es j)[j]'ab).s)from rfl);replace ap:=ap.trans (show _=Z (Value.int .i64 ((aI (rsE 2 l) es j)[j]'ab).t)from rfl);have ef:=G bo;have be:=G (λW=>KO.o W);have bw:=b.room.lt;rw[z.o]at bw;have a5:w.heap.size≠a:=by have:=z.o;omega
 have a6:K.g≠a:=λe=>dr e.symm
 clear b r t hq bo KC KO;go_upto_block 9 with(fail);go_cut [] (λwx=>OpS K w wx (c.ents.map (rsEnt 2 l)) c.grps (newO 2 l (roomC 2 K.z l c) es) c.base pv c.third)
 case first=>
  go_upto_region 42 with(fail)
  have SH:=G (λm(n:By wr m)=>show m.cell? ⟨w.heap.size,0,none⟩=Z (I J K.z)/\m.cell? ⟨w.heap.size,1,none⟩=Z (.bool K.b)/\m.cell? ⟨K.g,3,none⟩=Z (I J pv)/\m.cell? ⟨K.g,4,none⟩=Z (I J c.third)/\m.frozen? ⟨a,j*4,none⟩=false/\m.frozen? ⟨a,j*4+1,none⟩=false/\m.frozen? ⟨a,j*4+2,none⟩=false from⟨(n.cell (p:=⟨w.heap.size,0,none⟩) bw).trans r0,(n.cell (p:=⟨w.heap.size,1,none⟩) bw).trans r1,(n.cell (p:=⟨K.g,3,none⟩) cs).trans s3,(n.cell (p:=⟨K.g,4,none⟩) cs).trans s4,(n.frozen (p:=⟨a,j*4,none⟩) ad).trans aa,(n.frozen (p:=⟨a,j*4+1,none⟩) ad).trans bk,(n.frozen (p:=⟨a,j*4+2,none⟩) ad).trans bl⟩);have SP:=G (λ(W:Wv) (o:Nat) (v:Value) (h:W.cell? ⟨w.heap.size,0,none⟩=Z (I J K.z)/\W.cell? ⟨w.heap.size,1,none⟩=Z (.bool K.b)/\W.cell? ⟨K.g,3,none⟩=Z (I J pv)/\W.cell? ⟨K.g,4,none⟩=Z (I J c.third)/\W.frozen? ⟨a,j*4,none⟩=false/\W.frozen? ⟨a,j*4+1,none⟩=false/\W.frozen? ⟨a,j*4+2,none⟩=false)=>show(W.setCell ⟨a,o,none⟩ v).cell? ⟨w.heap.size,0,none⟩=Z (I J K.z)/\(W.setCell ⟨a,o,none⟩ v).cell? ⟨w.heap.size,1,none⟩=Z (.bool K.b)/\(W.setCell ⟨a,o,none⟩ v).cell? ⟨K.g,3,none⟩=Z (I J pv)/\(W.setCell ⟨a,o,none⟩ v).cell? ⟨K.g,4,none⟩=Z (I J c.third)/\(W.setCell ⟨a,o,none⟩ v).frozen? ⟨a,j*4,none⟩=false/\(W.setCell ⟨a,o,none⟩ v).frozen? ⟨a,j*4+1,none⟩=false/\(W.setCell ⟨a,o,none⟩ v).frozen? ⟨a,j*4+2,none⟩=false from⟨lC h.1 a5 v,lC h.2.1 a5 v,lC h.2.2.1 a6 v,lC h.2.2.2.1 a6 v,mV h.2.2.2.2.1 v,mV h.2.2.2.2.2.1 v,mV h.2.2.2.2.2.2 v⟩);have TO:=G (λW(hb:By wr W)=>(be.o W).mono (R':=λe m=>∃v,e=.returned v/\(m.cell? ⟨w.heap.size,0,none⟩=Z (I J K.z)/\m.cell? ⟨w.heap.size,1,none⟩=Z (.bool K.b)/\m.cell? ⟨K.g,3,none⟩=Z (I J pv)/\m.cell? ⟨K.g,4,none⟩=Z (I J c.third)/\m.frozen? ⟨a,j*4,none⟩=false/\m.frozen? ⟨a,j*4+1,none⟩=false/\m.frozen? ⟨a,j*4+2,none⟩=false)/\v=I J l/\By wr m) (by rintro e m ⟨rfl,n⟩;have s:=tb hb n;exact⟨_,rfl,SH.o m s,rfl,s⟩));have HC:=G (λm(n:By wr m)=>show(∃v,m.cell? ⟨a,j*4,none⟩=Z v)/\(∃v,m.cell? ⟨a,j*4+1,none⟩=Z v)/\(∃v,m.cell? ⟨a,j*4+2,none⟩=Z v)from⟨⟨_,(n.cell (p:=⟨a,j*4,none⟩) ad).trans Y⟩,⟨_,(n.cell (p:=⟨a,j*4+1,none⟩) ad).trans ao⟩,⟨_,(n.cell (p:=⟨a,j*4+2,none⟩) ad).trans ap⟩⟩);clear r0 r1 s3 s4 aa bk bl Y ao ap;refine wp_region_held_drew (S:=λm=>m.cell? ⟨w.heap.size,0,none⟩=Z (I J K.z)/\m.cell? ⟨w.heap.size,1,none⟩=Z (.bool K.b)/\m.cell? ⟨K.g,3,none⟩=Z (I J pv)/\m.cell? ⟨K.g,4,none⟩=Z (I J c.third)/\m.frozen? ⟨a,j*4,none⟩=false/\m.frozen? ⟨a,j*4+1,none⟩=false/\m.frozen? ⟨a,j*4+2,none⟩=false) oK_ (SH.o _ ((Below.refl _ _).drew)) (λg=>?_);refine tK 0 211 ?_;refine tK 1 212 ?_;refine tK 2 213 ?_;refine tK 4 215 ?_;refine tK 5 216 ?_;refine tK 6 217 ?_;refine tK 7 218 ?_;refine qE 3 214 (TO.o _ (Below.refl _ _).drew) ?_;clear g;rintro _ w2 g ⟨rfl,X⟩;obtain⟨⟨v0,dj⟩,⟨v1,dk⟩,⟨v2,dl⟩⟩:=HC.o w2 X;refine tK 8 219 ?_;refine tK 9 220 ?_;have P:=SP.o w2 (j*4+1) (I J l) g;refine dJ (w':=w2.setCell ⟨a,j*4+1,none⟩ (I J l)) (i:=10) none rfl rfl oK_ oR_ (by go_split_ands;go_simp) P ?_;clear g;have g:=P;clear P;try simp only[Act.put]
  refine tK 11 221 ?_;refine tK 12 222 ?_;have P:=SP.o (w2.setCell ⟨a,j*4+1,none⟩ (I J l)) (j*4+2) (I J c.third) g;refine dJ (w':=(w2.setCell ⟨a,j*4+1,none⟩ (I J l)).setCell ⟨a,j*4+2,none⟩ (I J c.third)) (i:=13) none rfl rfl oK_ oR_ (by go_split_ands;go_simp) P ?_;clear g;have g:=P;clear P;try simp only[Act.put]
  refine wpAnyH_done oK_ ?_ _;clear SH SP TO HC g dj dk dl
  all_goals(
   have D:=M.o.below Q X
   have ct:j<es.length:=by have:=F.o;omega
   have A:(aI (rsE 2 l) es j)[j]=es[j]:=iI (rsE 2 l) es ct ab
   have cq:es.getD (es.length-1) ⟨0,0,0,false⟩=es[j]:=by
    rw[show es.length-1=j by have:=F.o;omega,List.getD_eq_getElem?_getD,List.getElem?_eq_getElem ct];rfl
   have ar:=uV (rsE 2 l) es j F.o
   clear be M X
   obtain⟨q,hq,-,-,-,-,f⟩:=D.el L.o (i:=j) ab
   obtain rfl:a=q:=by have hq:=ai.o.symm.trans hq;injection hq with hq;injection hq
   rw[A]at f
   have D:=f 1 (I J l) ⟨es[j].p,l,es[j].t,es[j].v⟩ O rfl
   clear f hq
   obtain⟨q,hq,-,-,-,-,f⟩:=D.el L.o (i:=j) (by simp only[List.length_set];exact ab)
   obtain rfl:a=q:=by have hq:=ai.o.symm.trans hq;injection hq with hq;injection hq
   simp only[List.getElem_set_self,List.set_set]at f
   have D:=f 2 (I J c.third) ⟨es[j].p,l,c.third,es[j].v⟩ O rfl
   clear f hq
   have a7:newO 2 l (roomC 2 K.z l c) es=(es.take j).map (rsE 2 l)++[⟨es[j].p,l,c.third,es[j].v⟩]:=by
    unfold newO
    rw[cq,show es.length-1=j by have:=F.o;omega]
    rfl
   rw[ar,<-a7]at D
   have ah:=G D
   clear D a7 A cq ar
   go_wp2
   go_meet
   exact ah.o)
 case rest=>
 have ah:=G hcut;clear hcut Y ao ap aa bk bl r0 r1 s3 s4 be;go_wp2;go_ret;refine⟨by rw[a4.o];rfl,?_⟩;rw[show(roomC 2 K.z l c).second=pv from b4.o,show(roomC 2 K.z l c).third=c.third from rfl,show(roomC 2 K.z l c).base=c.base from rfl,show(roomC 2 K.z l c).grps=c.grps from rsG_id V _ _];exact ah.o
end
end Go.Proofs.YtkhmjidaeliccaaGreatDoor
