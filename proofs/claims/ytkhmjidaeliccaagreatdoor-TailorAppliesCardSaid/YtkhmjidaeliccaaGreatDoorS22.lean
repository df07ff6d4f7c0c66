import Derived.Test.YtkhmjidaeliccaaGreatDoorS21
set_option maxRecDepth 100000
set_option maxHeartbeats 51200000
namespace Go.Proofs.YtkhmjidaeliccaaGreatDoor
open Option renaming none->N,some->Z
open Value renaming int->I,slice->H
open IntKind renaming i64->J
open Go.Proofs.Tryz
section
open Go.RowKit Go.Maps Go.WideMaps Tl
theorem T_(K:Opd)(o:OpO K)(c:Col)(es:List Elt)(w:Wv)(hrb:K.rb=w.heap.size)(hc:aK c=0)(hcz:aQ c)(hes:∀e∈es,0<=wt 3 e/\wt 3 e<=65535)(hn:0<es.length)(hsz:es.length<=1099511627776)(hz:1<=K.z/\K.z<=65535)
  (hcol:Box w K.g 32 [H K.A c.ents.length K.a,H K.B c.grps.length K.bb,I J c.base,I J c.second,I J c.third]) (hents:OpV w K.base K.zz K.A K.a K.vs K.m K.top c.ents) (hgrps:w.ownsRow K.lg 98 3 (H K.B c.grps.length K.bb) c.grps.length (aB Grp.cells c.grps)) (hels:w.ownsRow K.le 77 4 (H K.E es.length K.ec) es.length (aB Elt.cells es)) :
  Calls prog 40 #[.agg #[I J K.z,.bool K.b],.pointer (Z ⟨K.g,0,none⟩),H K.E es.length K.ec,I J 3] w λe w'=>
   e=.returned (.bool (fitO 3 (lst K.z K.b) K.z c))/\OpS K w w' (roomC 3 K.z (lst K.z K.b) c).ents (roomC 3 K.z (lst K.z K.b) c).grps (newO 3 (lst K.z K.b) (roomC 3 K.z (lst K.z K.b) c) es) (roomC 3 K.z (lst K.z K.b) c).base (roomC 3 K.z (lst K.z K.b) c).second (roomC 3 K.z (lst K.z K.b) c).third:=by
 have B0:By w (w.alloc (.cells #[I J K.z,.bool K.b] 85)):=ba _ _;have X0:Box (w.alloc (.cells #[I J K.z,.bool K.b] 85)) w.heap.size 85 [I J K.z,.bool K.b]:=Box.new _ _ _ rfl;have hN:K.N<=w.heap.size:=Nat.le_trans o.ng (Nat.le_of_lt hcol.lt);have S0:OpS K w (w.alloc (.cells #[I J K.z,.bool K.b] 85)) c.ents c.grps es c.base c.second c.third:=⟨by rw[hrb];exact X0,bb hcol B0,hents.below B0,aG hgrps B0,aG hels B0,(Below.refl _ _).trans (B0.mono hN),Chg.of_below B0⟩;have cx:∃W0,(w.alloc (.cells #[I J K.z,.bool K.b] 85))=W0:=⟨_,rfl⟩;have CF:=G (colw hc);have ES:=G hes;have D:=G o;obtain⟨eq,er⟩:=hz;have KR:=G (λx W(hx:0<=x/\x<=65535)=>nC K.z K.b x W ⟨hx.1,O⟩);have KO:=G (λW=>uA K.z K.b W ⟨O,O⟩);have KC:=G (λd o x W(hx:0<=x/\x<=65535)hc hf=>zAm K.z K.b d o x W ⟨hx.1,O⟩ hc hf);unfold aU at KR KO;obtain⟨l,hl⟩:=exQ (lst K.z K.b);have dw:=U (l=K.z\/l=K.z+1) (hl ▸ lst_c K.z K.b);rw[hl]at KR KO KC|-;have r:=G hrb;have cu:=G hcz.e;have ee:=hcz.n;have ed:=hcz.m;clear hl hrb hc hes hcol hents hgrps hels X0 o hcz;(try dsimp only at KR KO KC);go_enter func40,ntmps40;go_upto_region 1 with(fail)
 go_step;go_step;go_step;go_step;go_step;go_step;go_step;go_step;go_step;go_step;go_step;go_step;go_step;go_step;obtain⟨W0,b4⟩:=cx;try rw[b4]at S0 B0|-
 clear b4;have bt:=G S0;have c0:W0.cell? ⟨w.heap.size,0,none⟩=Z (I J K.z):=by rw[<-r.o];exact S0.room.cell rfl
 have c1:W0.cell? ⟨w.heap.size,1,none⟩=Z (.bool K.b):=by rw[<-r.o];exact S0.room.cell rfl
 have c2:=S0.col.c 4 rfl;have f2:=S0.col.free 4;have cf:=S0.col.lt;have hb:=S0.n D.o;have ao:=G (λW=>KR.o c.third W CF.o.t);obtain⟨pv,bh⟩:=exQ (mvd l c.third);rw[bh]at ao;have bs:=G bh;clear bh S0 KR B0;go_cut [9] (λs9 wx=>s9=.func (.func 94) #[.agg #[I J K.z,.bool K.b]] #[]/\OpS K w wx c.ents c.grps es c.base c.second pv)
 case first=>
  go_upto_region 18 with(fail)
  go_region_with (go_at_call 92;refine(ao.o _).mono ?_;rintro e w2 ⟨rfl,z⟩;have g2:=(z.cell (p:=⟨K.g,4,none⟩) cf).trans c2;have g3:=(z.frozen (p:=⟨K.g,4,none⟩) cf).trans f2)
  all_goals(
   have A:=(show By W0 W0.drew from(Below.refl _ _).drew).trans z
   have HF:=G ((bt.o.below hb A).col_set D.o 4 (I J pv) c.base c.second pv rfl)
   clear z g2 g3 c0 c1 c2 f2 ao A
   go_wp2
   go_meet
   exact⟨rfl,HF.o⟩)
 obtain⟨rfl,a⟩:=hcut;obtain⟨f0,ag⟩:=exQ ((decide (c.base<=65502)&&decide (c.second<=65535)&&decide (pv<=65535)&&decide (l<=65535)));have S:=G ag;clear ag c0 c1 c2 f2 ao bt;go_upto_region 19 with(fail)
 have X:=G a;have c2:=a.col.c 2 rfl;have c3:=a.col.c 3 rfl;have c4:=a.col.c 4 rfl;have r0:wc.cell? ⟨w.heap.size,0,none⟩=Z (I J K.z):=by rw[<-r.o];exact a.room.cell rfl
 have r1:wc.cell? ⟨w.heap.size,1,none⟩=Z (.bool K.b):=by rw[<-r.o];exact a.room.cell rfl
 have a9:=a.n D.o;clear a;go_cut [12] (λs12 wx=>s12=.bool f0/\OpS K w wx c.ents c.grps es c.base c.second pv)
 case first=>
  by_cases q0:c.base<=65502
  ·have d0:decide (c.base<=65502)=true:=decide_eq_true q0
   by_cases q1:c.second<=65535
   ·have d1:decide (c.second<=65535)=true:=decide_eq_true q1
    by_cases q2:pv<=65535
    ·have d2:decide (pv<=65535)=true:=decide_eq_true q2
     have HK:=U (decide (l<=65535)=f0) (by rw[<-S.o,decide_eq_true q0,decide_eq_true q1,decide_eq_true q2];simp);clear q0 q1 q2;go_wp2_with fail;refine(KO.o _).mono ?_
     rintro e W2 ⟨rfl,z⟩;have am:=G (X.o.below a9 z);clear z;go_wp2;go_meet;exact⟨by rw[HK.o],am.o⟩
    have d2:decide (pv<=65535)=false:=decide_eq_false q2;have HK:=U (false=f0) (by rw[<-S.o,d2];simp);clear q0 q1 q2;go_wp2;go_meet;exact⟨by rw[HK.o],X.o⟩
   have d1:decide (c.second<=65535)=false:=decide_eq_false q1;have HK:=U (false=f0) (by rw[<-S.o,d1];simp);clear q0 q1;go_wp2;go_meet;exact⟨by rw[HK.o],X.o⟩
  have d0:decide (c.base<=65502)=false:=decide_eq_false q0;have HK:=U (false=f0) (by rw[<-S.o,d0];simp);clear q0;go_wp2;go_meet;exact⟨by rw[HK.o],X.o⟩
 case rest=>
 obtain⟨rfl,a⟩:=hcut;have am:=G a;have a9:=a.n D.o;have e0:=a.col.c 0 rfl;have bv:=G a.ents.len;clear a c2 c3 c4 r0 r1 X;go_wp2;go_loopw [12,132] (λv u wr=>∃i:Nat,i<=c.ents.length/\u=I J i/\v=.bool (f0&&okX 3 l c.ents i)/\OpS K w wr (aI (rsEnt 3 l) c.ents i) c.grps es c.base c.second pv) (λ_ u _=>c.ents.length-(intOf u).toNat)
 case atStart=>exact⟨0,Nat.zero_le _,rfl,by rw[okX_0,Bool.and_true],by rw[kE];exact am.o⟩
 obtain⟨i,hi,rfl,rfl,a⟩:=hrel;by_cases hlt:i<c.ents.length
 ·have bq:=U ((f0&&okX 3 l c.ents (i+1))=((f0&&okX 3 l c.ents i)&&okE 3 l c.ents[i].elems c.ents[i].elems.length)) (by rw[okX_succ 3 l c.ents hlt,Bool.and_assoc])
  obtain⟨fb,ah⟩:=exQ ((f0&&okX 3 l c.ents i));rw[ah]at bq|-;clear ah;have b6:=a.n D.o;have bk:=gF (rsEnt 3 l) c.ents i;have au:i<(aI (rsEnt 3 l) c.ents i).length:=O;have bm:i<K.vs.length:=by have:=bv.o;omega
  obtain⟨gA,C,cc,E,ec,hA,ef,eg,bl,ca,cb⟩:=a.ents.at au bm;have bi:=iI (rsEnt 3 l) c.ents hlt au;rw[bi]at bl ca cb;have da:gA<wr.heap.size:=World.block_lt_of_cell? wr ⟨gA,i*2,none⟩ ca;have cw:=G (CF.o.e _ (List.getElem_mem hlt));have ak:(aI (rsEnt 3 l) c.ents i).set i c.ents[i]=aI (rsEnt 3 l) c.ents i:=by
   conv=>lhs;rw[<-bi]
   exact List.set_getElem_self au
  have a5:=G ak;have br:=U ((aI (rsEnt 3 l) c.ents i).set i ⟨c.ents[i].codes,c.ents[i].elems.map (rsE 3 l)⟩=aI (rsEnt 3 l) c.ents (i+1)) (kF (rsEnt 3 l) c.ents hlt);have cv:=G bk;have bu:=G bl;have eo:=cu.o i hlt;clear ak bl bi au bk;generalize c.ents[i]=en at *;obtain⟨cd,el⟩:=en;dsimp only at *;rw[hA];have ch:¬gA=wr.heap.size:=O;have c6:wr.cell? ⟨gA,0+i*2,none⟩=Z (H C cd.length cc):=by rw[Nat.zero_add];exact ca
  have BA:By wr (wr.alloc (.cells #[H C cd.length cc,H E el.length ec] 75)):=ba _ _;have XA:Box (wr.alloc (.cells #[H C cd.length cc,H E el.length ec] 75)) wr.heap.size 75 [H C cd.length cc,H E el.length ec]:=Box.new wr 75 [H C cd.length cc,H E el.length ec] rfl;have SA:=G (a.below b6 BA);have dc:=a.ents.tw;have c5:∃Wa,(wr.alloc (.cells #[H C cd.length cc,H E el.length ec] 75))=Wa:=⟨_,rfl⟩;clear a;go_upto_region 23 with(fail)
  obtain⟨Wa,b5⟩:=c5;try rw[b5]at BA XA SA|-
  clear b5 ca c6 cb;have bx:=G XA;have k1:=XA.c 1 rfl;clear XA;have eb:K.N<=Wa.heap.size:=Nat.le_trans b6 BA.size;obtain⟨xb,cl⟩:=exQ (wr.heap.size);rw[cl]at bx k1 dc|-;clear cl BA ch da;go_wp2;go_loopw [12,139] (λv u wr2=>∃j:Nat,j<=el.length/\u=I J j/\v=.bool (fb&&okE 3 l el j)/\OpS K w wr2 ((aI (rsEnt 3 l) c.ents i).set i ⟨cd,aI (rsE 3 l) el j⟩) c.grps es c.base c.second pv/\Box wr2 xb 75 [H C cd.length cc,H E el.length ec]) (λ_ u _=>el.length-(intOf u).toNat)
  case atStart=>exact⟨0,Nat.zero_le _,rfl,by rw[okE_0,Bool.and_true],by rw[kE,a5.o];exact SA.o,bx.o⟩
  obtain⟨j,hj,rfl,rfl,a,hX⟩:=hrel;by_cases hlj:j<el.length
  ·have a2:=U ((fb&&okE 3 l el (j+1))=((fb&&okE 3 l el j)&&!bigE (rsE 3 l el[j]))) (by rw[okE_succ 3 l el hlj,Bool.and_assoc])
   obtain⟨fe,ce⟩:=exQ ((fb&&okE 3 l el j));rw[ce]at a2|-;clear ce;have L:=a.n D.o;have bj:=gF (rsE 3 l) el j;have a0:i<((aI (rsEnt 3 l) c.ents i).set i ⟨cd,aI (rsE 3 l) el j⟩).length:=by have bk:=cv.o;rw[List.length_set];omega
   have bd:((aI (rsEnt 3 l) c.ents i).set i ⟨cd,aI (rsE 3 l) el j⟩)[i]=⟨cd,aI (rsE 3 l) el j⟩:=List.getElem_set_self _;have s:=iI (rsE 3 l) el hlj O;have Y:=G (kF (rsE 3 l) el hlj);have Q:=cw.o _ (List.getElem_mem hlj);have cj:=rsE_nn 3 l (λk=>(Q k).1);have n:=λW(h:OpS K w W ((aI (rsEnt 3 l) c.ents i).set i ⟨cd,aI (rsE 3 l) el j⟩) c.grps es c.base c.second pv)=>h.ent D.o a0 bm bu.o (j:=j) (by rw[bd];dsimp only;omega)
   simp only[bd,s,List.set_set]at n;have R:=G n;obtain⟨q,c8,ej,ek,g,m,-⟩:=n wr a;clear n s bd;generalize el[j]=e at *;subst c8;have ep:=hX.c 1 rfl;have cz:wr.cell? ⟨q,j*4+2,none⟩=Z (I J e.t):=g 2 O;have fz:wr.frozen? ⟨q,j*4+2,none⟩=false:=m _;have an:=G a;have bw:=G hX;have aa:=G (KC.o q (j*4) e.t wr (Q 3) cz fz);clear a hX g m Q cz fz;go_wp2_with fail;refine aa.o.mono ?_
   rintro e' W3 ⟨rfl,w1,P,rfl⟩;have b2:=an.o.below L P;obtain⟨q',aw,-,-,-,-,f⟩:=R.o w1 b2;obtain rfl:q=q':=by injection aw with aw;injection aw
   have F:=f 2 (I J (mvd l e.t)) (rsE 3 l e) O rfl;have b8:=F.ent D.o (i:=i) (j:=j) (by simpa using a0) bm bu.o (by simp[bj];omega);simp only[List.getElem_set_self]at b8;obtain⟨q',M,-,-,ar,-,-⟩:=b8;obtain rfl:q=q':=by injection M with M;injection M
   have a8:=dS (bb bw.o P) ⟨q,j*4+2,none⟩ oD_ (I J (mvd l e.t));have y0:(w1.setCell ⟨q,j*4+2,none⟩ (I J (mvd l e.t))).cell? ⟨q,j*4,none⟩=Z (I J (rsE 3 l e).p):=ar 0 O;have y1:(w1.setCell ⟨q,j*4+2,none⟩ (I J (mvd l e.t))).cell? ⟨q,j*4+1,none⟩=Z (I J (rsE 3 l e).s):=ar 1 O;have y2:(w1.setCell ⟨q,j*4+2,none⟩ (I J (mvd l e.t))).cell? ⟨q,j*4+2,none⟩=Z (I J (rsE 3 l e).t):=ar 2 O;simp only[Y.o]at F;have a7:OpS K w (w1.setCell ⟨q,j*4+2,none⟩ (I J (mvd l e.t))) ((aI (rsEnt 3 l) c.ents i).set i ⟨cd,aI (rsE 3 l) el (j+1)⟩) c.grps es c.base c.second pv:=F;have HT:=G (a7.below (a7.n D.o) (Below.refl _ _).drew);have HX:=G (a8.below (B:=_) (Below.refl _ _).drew a8.lt);clear F a7 a8 ar f b2 aw M P Y R an bw aa;have ad:=bigE_eq _ cj;generalize rsE 3 l e=e3 at *;generalize w1.setCell ⟨q,j*4+2,none⟩ (I J (mvd l e.t))=W3 at *;obtain⟨mm,bg⟩:=exQ (max (max e3.p e3.s) e3.t);rw[bg]at ad;have bp:=G ad;have ei:=λ(W:Wv) (ts:Array TypeId) (ty:TypeId)=>tR W ts ty e3.p e3.s e3.t mm bg
   clear bg ad cj;cases fe with
   |false=>
    go_wp2_with fail;go_region;go_wp2;go_roundw
    case rel=>exact⟨j+1,O,oN_,by rw[a2.o];rfl,HT.o,HX.o⟩
    exact oI_
   |true=>
    have ct:=U ((fb&&okE 3 l el (j+1))=decide (mm<=65535)) (by rw[a2.o,bp.o,Bool.not_not,Bool.true_and]);go_wp2_with fail;go_region;go_wp2;go_roundw
    case rel=>exact⟨j+1,O,oN_,by rw[ct.o],HT.o,HX.o⟩
    exact oI_
  obtain rfl:j=el.length:=O;have y:=U (OpS K w wr ((aI (rsEnt 3 l) c.ents i).set i ⟨cd,el.map (rsE 3 l)⟩) c.grps es c.base c.second pv) (by rw[<-mK (rsE 3 l) el (Nat.le_refl _)];exact a);clear a hX;go_wp2;go_roundw
  case rel=>exact⟨i+1,O,oN_,by rw[bq.o],by have:=y.o;rw[br.o]at this;exact this⟩
  exact oI_
 obtain rfl:i=c.ents.length:=O
 have ay:=U ((f0&&okX 3 l c.ents c.ents.length)=fitO 3 l K.z c) (by
  rw[fit_eq,<-S.o,<-bs.o];rfl)
 obtain⟨fb,ah⟩:=exQ ((f0&&okX 3 l c.ents c.ents.length));rw[ah]at ay|-;clear ah;rw[mK (rsEnt 3 l) c.ents (Nat.le_refl _)]at a;obtain⟨nl,av⟩:∃nl,es.length=nl+1:=⟨es.length-1,O⟩;have t:=G av;have b7:=oE a.els;have b3:=a;obtain⟨b,a6,-,-,em,db,-⟩:=b3.el D.o (i:=0) O;have al:=G a6;have an:=G a;rw[a6,av];rw[av]at hsz b7;have c9:nl<=K.ec:=O;clear av b3 a hn a6 am e0 a9 bv;go_wp2;go_loopw [175] (λu wr2=>∃j:Nat,j<=nl/\u=I J j/\OpS K w wr2 (c.ents.map (rsEnt 3 l)) c.grps (aI (rsE 3 l) es j) c.base c.second pv) (λu _=>nl-(intOf u).toNat)
 case atStart=>exact⟨0,Nat.zero_le _,rfl,by rw[kE];exact an.o⟩
 obtain⟨j,hj,rfl,a⟩:=hrel;have L:=a.n D.o;by_cases hlj:j<nl
 ·have be:j<es.length:=by have:=t.o;omega
  have bj:=gF (rsE 3 l) es j;have s:=iI (rsE 3 l) es be O;have Y:=G (kF (rsE 3 l) es be);have Q:=ES.o _ (List.getElem_mem be);have n:=λW(h:OpS K w W (c.ents.map (rsEnt 3 l)) c.grps (aI (rsE 3 l) es j) c.base c.second pv)=>h.el D.o (i:=j) O
  simp only[s]at n;have R:=G n;obtain⟨q,hq,g,m,-⟩:=n wr a;obtain rfl:b=q:=by have hq:=al.o.symm.trans hq;injection hq with hq;injection hq
  clear n s bj hq;generalize es[j]=e at *;have cz:wr.cell? ⟨b,j*4+2,none⟩=Z (I J e.t):=g 2 O;have fz:wr.frozen? ⟨b,j*4+2,none⟩=false:=m _;have y:=G a;have aa:=G (KC.o b (j*4) e.t wr Q cz fz);clear a g m Q cz fz;go_wp2_with fail;refine aa.o.mono ?_
  rintro e' W3 ⟨rfl,w1,P,rfl⟩;obtain⟨q,hq,-,-,-,-,f⟩:=R.o w1 (y.o.below L P);obtain rfl:b=q:=by have hq:=al.o.symm.trans hq;injection hq with hq;injection hq
  have F:=f 2 (I J (mvd l e.t)) (rsE 3 l e) O rfl;rw[Y.o]at F;have HT:=G F;clear F f hq P R Y aa y;go_wp2;go_roundw
  case rel=>exact⟨j+1,O,oN_,HT.o⟩
  exact oI_
 obtain rfl:j=nl:=O;have y:=G a;have r0:wr.cell? ⟨w.heap.size,0,none⟩=Z (I J K.z):=by rw[<-r.o];exact a.room.cell rfl
 have r1:wr.cell? ⟨w.heap.size,1,none⟩=Z (.bool K.b):=by rw[<-r.o];exact a.room.cell rfl
 have s3:=a.col.c 3 rfl;have s4:=a.col.c 4 rfl;have eh:=a.col.lt;have bf:(aI (rsE 3 l) es j).length=es.length:=gF _ _ _;obtain⟨q,hq,g,m,-⟩:=a.el D.o (i:=j) (by have:=t.o;omega);obtain rfl:b=q:=by have hq:=al.o.symm.trans hq;injection hq with hq;injection hq
 have ck:b<wr.heap.size:=World.block_lt_of_cell? wr ⟨b,j*4+0,none⟩ (g 0 O);have ai:j<(aI (rsE 3 l) es j).length:=by rw[bf];have:=t.o;omega
 have ag:wr.frozen? ⟨b,j*4,none⟩=false:=m _;have b9:wr.frozen? ⟨b,j*4+1,none⟩=false:=m _;have bc:wr.frozen? ⟨b,j*4+2,none⟩=false:=m _;have ae:=g 0 O;have aq:=g 1 O;have af:=g 2 O;simp only[Nat.add_zero]at ae;replace ae:=ae.trans (show _=Z (Value.int .i64 ((aI (rsE 3 l) es j)[j]'ai).p)from rfl);replace aq:=aq.trans (show _=Z (Value.int .i64 ((aI (rsE 3 l) es j)[j]'ai).s)from rfl);replace af:=af.trans (show _=Z (Value.int .i64 ((aI (rsE 3 l) es j)[j]'ai).t)from rfl);have dx:=G bf;have a4:=G (λW=>KO.o W);have dd:=a.room.lt;rw[r.o]at dd;have dq:w.heap.size≠b:=by have:=r.o;omega
 have dr:K.g≠b:=λe=>db e.symm
 clear a g m hq bf KC KO;go_upto_block 9 with(fail);go_cut [] (λwx=>OpS K w wx (c.ents.map (rsEnt 3 l)) c.grps (newO 3 l (roomC 3 K.z l c) es) c.base c.second pv)
 case first=>
  go_wp2_with fail;refine(a4.o _).mono ?_
  rintro e w2 ⟨rfl,A⟩;have d6:=(A.frozen (p:=⟨b,j*4+2,none⟩) ck).trans bc;have d3:=(A.cell (p:=⟨b,j*4+2,none⟩) ck).trans af
  all_goals(
   have F:=y.o.below L A
   have ci:j<es.length:=by have:=t.o;omega
   have s:(aI (rsE 3 l) es j)[j]=es[j]:=iI (rsE 3 l) es ci ai
   have cg:es.getD (es.length-1) ⟨0,0,0,false⟩=es[j]:=by
    rw[show es.length-1=j by have:=t.o;omega,List.getD_eq_getElem?_getD,List.getElem?_eq_getElem ci];rfl
   have aj:=uV (rsE 3 l) es j t.o
   clear a4 y A s3 s4 ag b9 bc ae aq af r0 r1
   obtain⟨q,hq,-,-,-,-,f⟩:=F.el D.o (i:=j) ai
   obtain rfl:b=q:=by have hq:=al.o.symm.trans hq;injection hq with hq;injection hq
   rw[s]at f
   have F:=f 2 (I J l) ⟨es[j].p,es[j].s,l,es[j].v⟩ O rfl
   clear f hq
   have az:newO 3 l (roomC 3 K.z l c) es=(es.take j).map (rsE 3 l)++[⟨es[j].p,es[j].s,l,es[j].v⟩]:=by
    unfold newO
    rw[cg,show es.length-1=j by have:=t.o;omega]
    rfl
   rw[aj,<-az]at F
   have T:=G F
   clear F az s cg aj
   go_wp2
   go_meet
   exact T.o)
 case rest=>
 have T:=G hcut;clear hcut ae aq af ag b9 bc r0 r1 s3 s4 a4;go_wp2;go_ret;refine⟨by rw[ay.o];rfl,?_⟩;rw[show(roomC 3 K.z l c).second=c.second from rfl,show(roomC 3 K.z l c).third=pv from bs.o,show(roomC 3 K.z l c).base=c.base from rfl,show(roomC 3 K.z l c).grps=c.grps from rsG_id V _ _];exact T.o
theorem UO{α:Type}(enc:α->Lv){k:Nat}(hk:∀x,(enc x).length=k){w:Wv}{base:Nat}{e:TypeId}{n c:Nat}{A:Oa}{xs:List α}(h:w.ownsRow base e k (H A n c) n (aB enc xs))(hn:xs.length=n){i:Nat}(h0:0<i)(hi:i<=n):
  w.ownsRow base e k (H A i c) i (aB enc (xs.take i)):=by
 refine⟨by rw[fY enc k hk,List.length_take,Nat.min_eq_left O],?_⟩;rcases h.2 with⟨_,d⟩|⟨g,a,b,f,d,j,p,l,m,o⟩
 ·omega
 injection f with q1 q2 q3;refine .inr ⟨g,a,b,by rw[q1,q3],d,j,O,l,m,?_⟩;rw[<-(yF enc k hk xs i O).1,<-o,List.take_take,Nat.min_eq_left (Nat.mul_le_mul_right k hi)]
theorem DE{c:Col}(h:aQ c)(k w l:Int):aQ (roomC k w l c):=by
 refine⟨λi hi=>?_,by unfold roomC;simpa using h.n,by unfold roomC;simpa using h.m⟩;unfold roomC at hi|-;have a:i<c.ents.length:=by simpa using hi
 have:=h.e i a;simp only[List.getElem_map,rsEnt,List.length_map];exact this
theorem XZ{c:Col}(h:∀g∈c.grps,g.name.size<=9223372036854775807)(k w l:Int):∀g∈(roomC k w l c).grps,g.name.size<=9223372036854775807:=by
 intro g hg;obtain⟨a,b,rfl⟩:=List.mem_map.1 (show g∈c.grps.map (rsG k w)from hg);rw[rsG_name];exact h a b
theorem UH(k:Int)(hk:k=1\/k=2\/k=3)(K:Opd)(o:OpO K)(c:Col)(es:List Elt)(w:Wv)(hrb:K.rb=w.heap.size)(hc:aK c=0)(hcz:aQ c)(hes:∀e∈es,0<=wt k e/\wt k e<=65535)(hn:0<es.length)(hsz:es.length<=1099511627776)(hz:1<=K.z/\K.z<=65535)
  (hcol:Box w K.g 32 [H K.A c.ents.length K.a,H K.B c.grps.length K.bb,I J c.base,I J c.second,I J c.third]) (hents:OpV w K.base K.zz K.A K.a K.vs K.m K.top c.ents) (hgrps:w.ownsRow K.lg 98 3 (H K.B c.grps.length K.bb) c.grps.length (aB Grp.cells c.grps)) (hels:w.ownsRow K.le 77 4 (H K.E es.length K.ec) es.length (aB Elt.cells es)) :
  Calls prog 40 #[.agg #[I J K.z,.bool K.b],.pointer (Z ⟨K.g,0,N⟩),H K.E es.length K.ec,I J k] w λe w'=>
   e=.returned (.bool (fitO k (lst K.z K.b) K.z c))/\OpS K w w' (roomC k K.z (lst K.z K.b) c).ents (roomC k K.z (lst K.z K.b) c).grps (newO k (lst K.z K.b) (roomC k K.z (lst K.z K.b) c) es) (roomC k K.z (lst K.z K.b) c).base (roomC k K.z (lst K.z K.b) c).second (roomC k K.z (lst K.z K.b) c).third:=by
 rcases hk with rfl|rfl|rfl
 ·exact TY K o c es w hrb hc hcz hes hn hsz hz hcol hents hgrps hels
 ·exact TZ K o c es w hrb hc hcz hes hn hsz hz hcol hents hgrps hels
 exact T_ K o c es w hrb hc hcz hes hn hsz hz hcol hents hgrps hels
end
section
open Go.RowKit Go.Maps Go.WideMaps
section
variable {P:Program}{ops:Array Oper}{Q:Exit->Act->Wv->Prop}{md:Region.Mode}{S:Wv->Prop}
def k_(P:Program)(md:Region.Mode)(ops:Array Oper)(Q:Exit->Act->Wv->Prop)(S:Wv->Prop)(fuel:Nat)(listed:Array Bool)(i:Nat)(oi:Oper)(a:Act)(w:Wv):Prop:=
 ∀K:Act->Wv->Prop,Shut (∀a w,S w->(S w->wpAnyH P md ops Q S fuel (listed.setIfInBounds i true) a w)->K a w)->Oper.wp P oi a w K Q
theorem mJ{R:Value->Wv->Prop}{i:Nat}{oi:Oper}{fuel:Nat}{listed:Array Bool}{a:Act}{w:Wv}(d:Option Tmp){f:FuncId}{args:Array Value}(hd:oi.dst=d)(he:(execOp a.eval oi).run P w=.ok (.enter f args) w)
  (hc:Calls P f args w (λe w'=>∃v,e=.returned v/\S w'/\R v w'))
  (h:∀v w',S w'->R v w'->wpAnyH P md ops Q S fuel (listed.setIfInBounds i true) (a.put d v) w'):k_ P md ops Q S fuel listed i oi a w:=by
 subst hd;intro K g;unfold Oper.wp;rw[he];simp only[Oper.upon];refine hc.mono ?_;rintro e w' ⟨v,rfl,c,b⟩;exact g.out _ _ c (λhh=>h v w' hh b)
theorem fN{i:Nat}{oi:Oper}{fuel:Nat}{listed:Array Bool}{a:Act}{w w':Wv}{v:Value}(d:Option Tmp)(hd:oi.dst=d)(he:(execOp a.eval oi).run P w=.ok (.value v) w')(hS:S w')
  (h:wpAnyH P md ops Q S fuel (listed.setIfInBounds i true) (a.put d v) w'):k_ P md ops Q S fuel listed i oi a w:=by
 subst hd;intro K b;unfold Oper.wp;rw[he];simp only[Oper.upon];exact b.out _ _ hS (λ_=>h)
theorem iO{i j:Nat}{oi oj:Oper}{fuel:Nat}{listed:Array Bool}{a:Act}{w:Wv}(hi:ops[i]?=Z oi)(hj:ops[j]?=Z oj)(hr:Region.ready md ops listed=[i,j])
  (hwi:Region.wanted oi (yielded ops a.tmps)=true) (hwj:Region.wanted oj (yielded ops a.tmps)=true) (Hi:k_ P md ops Q S fuel listed i oi a w) (Hj:k_ P md ops Q S fuel listed j oj a w):wpAnyH P md ops Q S (fuel+1) listed a w:=by
 refine wpAnyH_ready hr L (AllReadyH.cons hi (λK hK=>?_) (AllReadyH.cons hj (λK hK=>?_) AllReadyH.nil))
 ·rw[if_pos hwi];exact Hi K hK
 rw[if_pos hwj];exact Hj K hK
end
end
section
open Go.RowKit Go.Maps Go.WideMaps Tl
theorem st5{W:Wv}{z:Nat}{T:TypeId}{o0 o1 o2 o3 o4:Value}(v0 v1 v2 v3 v4:Value)(h:Box W z T [o0,o1,o2,o3,o4]):
  ∃Wf,(((((W.setCell ⟨z,0,N⟩ v0).setCell ⟨z,1,N⟩ v1).setCell ⟨z,2,N⟩ v2).setCell ⟨z,3,N⟩ v3).setCell ⟨z,4,N⟩ v4)=Wf/\Box Wf z T [v0,v1,v2,v3,v4]/\Chg (λq=>q=z) W Wf:=
 ⟨_,rfl,((((h.set 0 v0).set 1 v1).set 2 v2).set 3 v3).set 4 v4,Chg.of_grown (aC (p:=⟨z,4,N⟩) (aC (p:=⟨z,3,N⟩) (aC (p:=⟨z,2,N⟩) (aC (p:=⟨z,1,N⟩) (aC (p:=⟨z,0,N⟩) (aP W _) _) _) _) _) _) (λ_ e=>(Option.some.inj e).symm)⟩
theorem gN{w W V:Wv}{z:Nat}(hb:By w W)(hc:Chg (λq=>q=z) W V)(hz:w.heap.size<=z):By w V:=hb.trans (hc.below hb.size (λ_ e=>e ▸ hz))
structure F4(w W:Wv)(T0 T1 T2 T3:TypeId)(L0 L1 L2 L3:Lv):Prop where
 B:By w W
 x0:Box W w.heap.size T0 L0
 x1:Box W (w.heap.size+1) T1 L1
 x2:Box W (w.heap.size+2) T2 L2
 x3:Box W (w.heap.size+3) T3 L3
theorem F4.go{w W W':Wv}{T0 T1 T2 T3:TypeId}{L0 L1 L2 L3:Lv}(h:F4 w W T0 T1 T2 T3 L0 L1 L2 L3)(hb:By W W'):F4 w W' T0 T1 T2 T3 L0 L1 L2 L3:=
 ⟨h.B.trans (hb.mono h.B.size),h.x0.below hb h.x0.lt,h.x1.below hb h.x1.lt,h.x2.below hb h.x2.lt,h.x3.below hb h.x3.lt⟩
theorem F4.cs{w W:Wv}{T0 T1 T2 T3:TypeId}{a0 a1 a2 b0 b1 b2 b3 b4 c0 c1 c2 c3:Value}{L3:Lv}(h:F4 w W T0 T1 T2 T3 [a0,a1,a2] [b0,b1,b2,b3,b4] [c0,c1,c2,c3] L3):
  W.cell? ⟨w.heap.size,0,N⟩=Z a0/\W.cell? ⟨w.heap.size,1,N⟩=Z a1/\W.cell? ⟨w.heap.size,2,N⟩=Z a2/\W.cell? ⟨w.heap.size+1,0,N⟩=Z b0/\W.cell? ⟨w.heap.size+1,1,N⟩=Z b1/\W.cell? ⟨w.heap.size+1,2,N⟩=Z b2/\W.cell? ⟨w.heap.size+1,3,N⟩=Z b3/\W.cell? ⟨w.heap.size+1,4,N⟩=Z b4/\W.cell? ⟨w.heap.size+2,0,N⟩=Z c0/\W.cell? ⟨w.heap.size+2,1,N⟩=Z c1/\W.cell? ⟨w.heap.size+2,2,N⟩=Z c2/\W.cell? ⟨w.heap.size+2,3,N⟩=Z c3:=
 ⟨h.x0.cell rfl,h.x0.cell rfl,h.x0.cell rfl,h.x1.cell rfl,h.x1.cell rfl,h.x1.cell rfl,h.x1.cell rfl,h.x1.cell rfl,h.x2.cell rfl,h.x2.cell rfl,h.x2.cell rfl,h.x2.cell rfl⟩
theorem al4(w:Wv)(T0:TypeId)(L0:Lv)(T1:TypeId)(L1:Lv)(T2:TypeId)(L2:Lv)(T3:TypeId)(L3:Lv):∃W,(((w.alloc (.cells L0.toArray T0)).alloc (.cells L1.toArray T1)).alloc (.cells L2.toArray T2)).alloc (.cells L3.toArray T3)=W/\F4 w W T0 T1 T2 T3 L0 L1 L2 L3:=
 ⟨_,rfl,(((ba _ _).alloc L _).alloc oT_ _).alloc oT_ _,
  fB (fB (fB (Box.new w T0 L0 rfl) _) _) _,fB (fB (Box.new _ T1 L1 L) _) _,fB (Box.new _ T2 L2 L) _,Box.new _ T3 L3 L⟩
theorem sl5{W:Wv}{z:Nat}{T:TypeId}{o0 o1 o2 o3 o4:Value}(v0 v1 v2 v3 v4:Value)(h:Box W z T [o0,o1,o2,o3,o4]):
  W.frozen? ⟨z,0,N⟩=false/\W.frozen? ⟨z,1,N⟩=false/\W.frozen? ⟨z,2,N⟩=false/\W.frozen? ⟨z,3,N⟩=false/\W.frozen? ⟨z,4,N⟩=false/\W.cell? ⟨z,0,N⟩=Z o0/\W.cell? ⟨z,1,N⟩=Z o1/\W.cell? ⟨z,2,N⟩=Z o2/\W.cell? ⟨z,3,N⟩=Z o3/\W.cell? ⟨z,4,N⟩=Z o4/\
  ∃Wf,(((((W.setCell ⟨z,0,N⟩ v0).setCell ⟨z,1,N⟩ v1).setCell ⟨z,2,N⟩ v2).setCell ⟨z,3,N⟩ v3).setCell ⟨z,4,N⟩ v4)=Wf/\Box Wf z T [v0,v1,v2,v3,v4]/\Chg (λq=>q=z) W Wf:=
 ⟨h.free 0,h.free 1,h.free 2,h.free 3,h.free 4,h.cell rfl,h.cell rfl,h.cell rfl,h.cell rfl,h.cell rfl,st5 v0 v1 v2 v3 v4 h⟩
theorem zl5{W:Wv}{z:Nat}{T:TypeId}{o0 o1 o2 o3 o4:Value}(h:Box W z T [o0,o1,o2,o3,o4]):
  W.frozen? ⟨z,0,N⟩=false/\W.frozen? ⟨z,1,N⟩=false/\W.frozen? ⟨z,2,N⟩=false/\W.frozen? ⟨z,3,N⟩=false/\W.frozen? ⟨z,4,N⟩=false/\W.cell? ⟨z,0,N⟩=Z o0/\W.cell? ⟨z,1,N⟩=Z o1/\W.cell? ⟨z,2,N⟩=Z o2/\W.cell? ⟨z,3,N⟩=Z o3/\W.cell? ⟨z,4,N⟩=Z o4/\
  ∃Wf,(((((W.setCell ⟨z,0,N⟩ (H N 0 0)).setCell ⟨z,1,N⟩ (H N 0 0)).setCell ⟨z,2,N⟩ (I J 0)).setCell ⟨z,3,N⟩ (I J 0)).setCell ⟨z,4,N⟩ (I J 0))=Wf/\Box Wf z T [H N 0 0,H N 0 0,I J 0,I J 0,I J 0]/\Chg (λq=>q=z) W Wf:=sl5 _ _ _ _ _ h
theorem OpV.low5{w:Wv}{base z:Nat}{A:Oa}{cap:Nat}{vs:List (Value×Value)}{m:Nat->Nat}{top:Nat}{xs:List Ent}(h:OpV w base z A cap vs m top xs){q:Nat}(hq:q<base)(v0 v1 v2 v3 v4:Value):
  OpV (((((w.setCell ⟨q,0,N⟩ v0).setCell ⟨q,1,N⟩ v1).setCell ⟨q,2,N⟩ v2).setCell ⟨q,3,N⟩ v3).setCell ⟨q,4,N⟩ v4) base z A cap vs m top xs:=
 ((((h.low (p:=⟨q,0,N⟩) hq v0).low (p:=⟨q,1,N⟩) hq v1).low (p:=⟨q,2,N⟩) hq v2).low (p:=⟨q,3,N⟩) hq v3).low (p:=⟨q,4,N⟩) hq v4
end
end Go.Proofs.YtkhmjidaeliccaaGreatDoor
