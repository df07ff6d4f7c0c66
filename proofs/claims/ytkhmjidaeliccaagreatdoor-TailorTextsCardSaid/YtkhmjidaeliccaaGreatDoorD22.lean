import Derived.Test.YtkhmjidaeliccaaGreatDoorD00
import Derived.Test.YtkhmjidaeliccaaGreatDoorD08
import Derived.Test.YtkhmjidaeliccaaGreatDoorD16
import Derived.Test.YtkhmjidaeliccaaGreatDoorD17
import Derived.Test.YtkhmjidaeliccaaGreatDoorD20
import Derived.Test.YtkhmjidaeliccaaGreatDoorD21
import Derived.Deep.Cut
import Derived.Deep.DeepCutAuto
import Derived.Deep.CutBlock
import Derived.Laws.Cover1
set_option maxRecDepth 100000
set_option maxHeartbeats 51200000
namespace Go.Proofs.YtkhmjidaeliccaaGreatDoor
open Option renaming none->N,some->Z
open Value renaming int->I,slice->H
open IntKind renaming i64->J
open Go.Proofs.Tryz
section
open Go.RowKit Go.Maps Go.WideMaps Tl
theorem PW(K:Opd)(o:OpO K)(c:Col)(es:List Elt)(w:Wv)(hrb:K.rb=w.heap.size)(hc:aH c=0)(hcz:aZ c)(hes:∀e∈es,0<=wt 3 e/\wt 3 e<=65535)(hn:0<es.length)(hsz:es.length<=1099511627776)(hz:1<=K.z/\K.z<=65535)
  (hcol:Box w K.g 32 [H K.A c.ents.length K.a,H K.B c.grps.length K.bb,I J c.base,I J c.second,I J c.third]) (hents:OpV w K.base K.zz K.A K.a K.vs K.m K.top c.ents) (hgrps:w.ownsRow K.lg 98 3 (H K.B c.grps.length K.bb) c.grps.length (aE Grp.cells c.grps)) (hels:w.ownsRow K.le 77 4 (H K.E es.length K.ec) es.length (aE Elt.cells es)) :
  Calls prog 40 #[.agg #[I J K.z,.bool K.b],.pointer (Z ⟨K.g,0,none⟩),H K.E es.length K.ec,I J 3] w fun e w'=>
   e=.returned (.bool (fitO 3 (lst K.z K.b) K.z c))/\OpS K w w' (roomC 3 K.z (lst K.z K.b) c).ents (roomC 3 K.z (lst K.z K.b) c).grps (newO 3 (lst K.z K.b) (roomC 3 K.z (lst K.z K.b) c) es) (roomC 3 K.z (lst K.z K.b) c).base (roomC 3 K.z (lst K.z K.b) c).second (roomC 3 K.z (lst K.z K.b) c).third:=by
 have B0:By w (w.alloc (.cells #[I J K.z,.bool K.b] 85)):=ba _ _;have X0:Box (w.alloc (.cells #[I J K.z,.bool K.b] 85)) w.heap.size 85 [I J K.z,.bool K.b]:=Box.new _ _ _ rfl;have hN:K.N<=w.heap.size:=Nat.le_trans o.ng (Nat.le_of_lt hcol.lt);have S0:OpS K w (w.alloc (.cells #[I J K.z,.bool K.b] 85)) c.ents c.grps es c.base c.second c.third:=⟨by rw[hrb];exact X0,hcol.below B0 hcol.lt,hents.below B0,bI hgrps B0,bI hels B0,(Below.refl _ _).trans (B0.mono hN),Chg.of_below B0⟩;have W0E:∃W0,(w.alloc (.cells #[I J K.z,.bool K.b] 85))=W0:=⟨_,rfl⟩;have CF:=G (colw hc);have ES:=G hes;have HO:=G o;obtain⟨hz1,hz2⟩:=hz;have KR:=G (fun x W(hx:0<=x/\x<=65535)=>mD K.z K.b x W ⟨hx.1,by omega⟩);have KO:=G (fun W=>sN K.z K.b W ⟨by omega,by omega⟩);have KC:=G (fun d o x W(hx:0<=x/\x<=65535)hc hf=>WB K.z K.b d o x W ⟨hx.1,by omega⟩ hc hf);unfold bU at KR KO;obtain⟨l,hl⟩:∃l,lst K.z K.b=l:=⟨_,rfl⟩;have HLC:=U (l=K.z\/l=K.z+1) (hl ▸ lst_c K.z K.b);rw[hl]at KR KO KC|-;have HRB:=G hrb;have HCZ:=G hcz.e;have hcn:=hcz.n;have hcm:=hcz.m;clear hl hrb hc hes hcol hents hgrps hels X0 o hcz;(try dsimp only at KR KO KC);go_enter func40,ntmps40;go_upto_region 1 with(fail)
 go_step;go_step;go_step;go_step;go_step;go_step;go_step;go_step;go_step;go_step;go_step;go_step;go_step;go_step;obtain⟨W0,hW0⟩:=W0E;try rw[hW0]at S0 B0|-
 clear hW0;have HS0:=G S0;have c0:W0.cell? ⟨w.heap.size,0,none⟩=Z (I J K.z):=by rw[<-HRB.out];exact S0.room.cell rfl
 have c1:W0.cell? ⟨w.heap.size,1,none⟩=Z (.bool K.b):=by rw[<-HRB.out];exact S0.room.cell rfl
 have c2:=S0.col.c 4 rfl;have f2:=S0.col.free 4;have hg0:=S0.col.lt;have hb:=S0.n HO.out;have KR2:=G (fun W=>KR.out c.third W CF.out.t);obtain⟨pv,hpv⟩:∃pv,mvd l c.third=pv:=⟨_,rfl⟩;rw[hpv]at KR2;have HPV:=G hpv;clear hpv S0 KR B0;go_cut [9] (fun s9 wx=>s9=.func (.func 94) #[.agg #[I J K.z,.bool K.b]] #[]/\OpS K w wx c.ents c.grps es c.base c.second pv)
 case first=>
  go_upto_region 18 with(fail)
  go_region_with (go_at_call 92;refine(KR2.out _).mono ?_;rintro e w2 ⟨rfl,hb2⟩;have g2:=(hb2.cell (p:=⟨K.g,4,none⟩) hg0).trans c2;have g3:=(hb2.frozen (p:=⟨K.g,4,none⟩) hg0).trans f2)
  all_goals(
   have hbf:=(show By W0 W0.drew from(Below.refl _ _).drew).trans hb2
   have HF:=G ((HS0.out.below hb hbf).col_set HO.out 4 (I J pv) c.base c.second pv rfl)
   clear hb2 g2 g3 c0 c1 c2 f2 KR2 hbf
   go_wp2_with fail
   go_meet
   exact⟨rfl,HF.out⟩)
 obtain⟨rfl,hS⟩:=hcut;obtain⟨f0,hf0⟩:∃f0,(decide (c.base<=65502)&&decide (c.second<=65535)&&decide (pv<=65535)&&decide (l<=65535))=f0:=⟨_,rfl⟩;have HF0:=G hf0;clear hf0 c0 c1 c2 f2 KR2 HS0;go_upto_region 19 with(fail)
 have HS1:=G hS;have c2:=hS.col.c 2 rfl;have c3:=hS.col.c 3 rfl;have c4:=hS.col.c 4 rfl;have r0:wc.cell? ⟨w.heap.size,0,none⟩=Z (I J K.z):=by rw[<-HRB.out];exact hS.room.cell rfl
 have r1:wc.cell? ⟨w.heap.size,1,none⟩=Z (.bool K.b):=by rw[<-HRB.out];exact hS.room.cell rfl
 have hbn:=hS.n HO.out;clear hS;go_cut [12] (fun s12 wx=>s12=.bool f0/\OpS K w wx c.ents c.grps es c.base c.second pv)
 case first=>
  by_cases q0:c.base<=65502
  ·have d0:decide (c.base<=65502)=true:=decide_eq_true q0
   by_cases q1:c.second<=65535
   ·have d1:decide (c.second<=65535)=true:=decide_eq_true q1
    by_cases q2:pv<=65535
    ·have d2:decide (pv<=65535)=true:=decide_eq_true q2
     have HK:=U (decide (l<=65535)=f0) (by rw[<-HF0.out,decide_eq_true q0,decide_eq_true q1,decide_eq_true q2];simp);clear q0 q1 q2;go_wp2_with fail;with_reducible refine(KO.out _).mono ?_
     rintro e W2 ⟨rfl,hb2⟩;have HS2:=G (HS1.out.below hbn hb2);clear hb2;go_wp2_with fail;go_meet;exact⟨by rw[HK.out],HS2.out⟩
    have d2:decide (pv<=65535)=false:=decide_eq_false q2;have HK:=U (false=f0) (by rw[<-HF0.out,d2];simp);clear q0 q1 q2;go_wp2_with fail;go_meet;exact⟨by rw[HK.out],HS1.out⟩
   have d1:decide (c.second<=65535)=false:=decide_eq_false q1;have HK:=U (false=f0) (by rw[<-HF0.out,d1];simp);clear q0 q1;go_wp2_with fail;go_meet;exact⟨by rw[HK.out],HS1.out⟩
  have d0:decide (c.base<=65502)=false:=decide_eq_false q0;have HK:=U (false=f0) (by rw[<-HF0.out,d0];simp);clear q0;go_wp2_with fail;go_meet;exact⟨by rw[HK.out],HS1.out⟩
 case rest=>
 obtain⟨rfl,hS⟩:=hcut;have HS2:=G hS;have hbn:=hS.n HO.out;have e0:=hS.col.c 0 rfl;have HVL:=G hS.ents.len;clear hS c2 c3 c4 r0 r1 HS1;go_wp2_with fail;go_loopw [12,132] (fun v u wr=>∃i:Nat,i<=c.ents.length/\u=I J i/\v=.bool (f0&&okX 3 l c.ents i)/\OpS K w wr (aD (rsEnt 3 l) c.ents i) c.grps es c.base c.second pv) (fun _ u _=>c.ents.length-(intOf u).toNat)
 case atStart=>exact⟨0,Nat.zero_le _,rfl,by rw[okX_0,Bool.and_true],by rw[iR];exact HS2.out⟩
 obtain⟨i,hi,rfl,rfl,hS⟩:=hrel;by_cases hlt:i<c.ents.length
 ·have HFB:=U ((f0&&okX 3 l c.ents (i+1))=((f0&&okX 3 l c.ents i)&&okE 3 l c.ents[i].elems c.ents[i].elems.length)) (by rw[okX_succ 3 l c.ents hlt,Bool.and_assoc])
  obtain⟨fb,hfb⟩:∃fb,(f0&&okX 3 l c.ents i)=fb:=⟨_,rfl⟩;rw[hfb]at HFB|-;clear hfb;have hbr:=hS.n HO.out;have hup:=fJ (rsEnt 3 l) c.ents i;have hi':i<(aD (rsEnt 3 l) c.ents i).length:=by omega
  have hvi:i<K.vs.length:=by have:=HVL.out;omega
  obtain⟨gA,C,cc,E,ec,hA,hg1,hg2,hve,ca,cb⟩:=hS.ents.at hi' hvi;have hua:=gG (rsEnt 3 l) c.ents hlt hi';rw[hua]at hve ca cb;have hgw:gA<wr.heap.size:=World.block_lt_of_cell? wr ⟨gA,i*2,none⟩ ca;have HWE:=G (CF.out.e _ (List.getElem_mem hlt));have hself:(aD (rsEnt 3 l) c.ents i).set i c.ents[i]=aD (rsEnt 3 l) c.ents i:=by
   conv=>lhs;rw[<-hua]
   exact List.set_getElem_self hi'
  have HSELF:=G hself;have HNXT:=U ((aD (rsEnt 3 l) c.ents i).set i ⟨c.ents[i].codes,c.ents[i].elems.map (rsE 3 l)⟩=aD (rsEnt 3 l) c.ents (i+1)) (iS (rsEnt 3 l) c.ents hlt);have HUP:=G hup;have HVE:=G hve;have hsl:=HCZ.out i hlt;clear hself hve hua hi' hup;generalize c.ents[i]=en at *;obtain⟨cd,el⟩:=en;dsimp only at *;rw[hA];have hgne:¬gA=wr.heap.size:=by omega
  have ca':wr.cell? ⟨gA,0+i*2,none⟩=Z (H C cd.length cc):=by rw[Nat.zero_add];exact ca
  have BA:By wr (wr.alloc (.cells #[H C cd.length cc,H E el.length ec] 75)):=ba _ _;have XA:Box (wr.alloc (.cells #[H C cd.length cc,H E el.length ec] 75)) wr.heap.size 75 [H C cd.length cc,H E el.length ec]:=Box.new wr 75 [H C cd.length cc,H E el.length ec] rfl;have SA:=G (hS.below hbr BA);have htp:=hS.ents.tw;have WaE:∃Wa,(wr.alloc (.cells #[H C cd.length cc,H E el.length ec] 75))=Wa:=⟨_,rfl⟩;clear hS;go_upto_region 23 with(fail)
  obtain⟨Wa,hWa⟩:=WaE;try rw[hWa]at BA XA SA|-
  clear hWa ca ca' cb;have HXA:=G XA;have k1:=XA.c 1 rfl;clear XA;have hbA:K.N<=Wa.heap.size:=Nat.le_trans hbr BA.size;obtain⟨xb,hxb⟩:∃xb,wr.heap.size=xb:=⟨_,rfl⟩;rw[hxb]at HXA k1 htp|-;clear hxb BA hgne hgw;go_wp2_with fail;go_loopw [12,139] (fun v u wr2=>∃j:Nat,j<=el.length/\u=I J j/\v=.bool (fb&&okE 3 l el j)/\OpS K w wr2 ((aD (rsEnt 3 l) c.ents i).set i ⟨cd,aD (rsE 3 l) el j⟩) c.grps es c.base c.second pv/\Box wr2 xb 75 [H C cd.length cc,H E el.length ec]) (fun _ u _=>el.length-(intOf u).toNat)
  case atStart=>exact⟨0,Nat.zero_le _,rfl,by rw[okE_0,Bool.and_true],by rw[iR,HSELF.out];exact SA.out,HXA.out⟩
  obtain⟨j,hj,rfl,rfl,hS,hX⟩:=hrel;by_cases hlj:j<el.length
  ·have HFE:=U ((fb&&okE 3 l el (j+1))=((fb&&okE 3 l el j)&&!bigE (rsE 3 l el[j]))) (by rw[okE_succ 3 l el hlj,Bool.and_assoc])
   obtain⟨fe,hfe⟩:∃fe,(fb&&okE 3 l el j)=fe:=⟨_,rfl⟩;rw[hfe]at HFE|-;clear hfe;have hbr2:=hS.n HO.out;have hul:=fJ (rsE 3 l) el j;have hsl2:i<((aD (rsEnt 3 l) c.ents i).set i ⟨cd,aD (rsE 3 l) el j⟩).length:=by have hup:=HUP.out;rw[List.length_set];omega
   have hgt:((aD (rsEnt 3 l) c.ents i).set i ⟨cd,aD (rsE 3 l) el j⟩)[i]=⟨cd,aD (rsE 3 l) el j⟩:=List.getElem_set_self _;have hue:=gG (rsE 3 l) el hlj (by omega);have HUS:=G (iS (rsE 3 l) el hlj);have hwe:=HWE.out _ (List.getElem_mem hlj);have hnn:=rsE_nn 3 l (fun k=>(hwe k).1);have hEN:=fun W(h:OpS K w W ((aD (rsEnt 3 l) c.ents i).set i ⟨cd,aD (rsE 3 l) el j⟩) c.grps es c.base c.second pv)=>h.ent HO.out hsl2 hvi HVE.out (j:=j) (by rw[hgt];dsimp only;omega)
   simp only[hgt,hue,List.set_set]at hEN;have HEN:=G hEN;obtain⟨q,hEq,hq1,hq2,hcl,hfr,-⟩:=hEN wr hS;clear hEN hue hgt;generalize el[j]=e at *;subst hEq;have hx0:=hX.c 1 rfl;have cz:wr.cell? ⟨q,j*4+2,none⟩=Z (I J e.t):=hcl 2 (by omega);have fz:wr.frozen? ⟨q,j*4+2,none⟩=false:=hfr _;have HS3:=G hS;have HX3:=G hX;have KC2:=G (KC.out q (j*4) e.t wr (hwe 3) cz fz);clear hS hX hcl hfr hwe cz fz;go_wp2_with fail;with_reducible refine KC2.out.mono ?_
   rintro e' W3 ⟨rfl,w1,hb1,rfl⟩;have hS1:=HS3.out.below hbr2 hb1;obtain⟨q',hq',-,-,-,-,hset⟩:=HEN.out w1 hS1;obtain rfl:q=q':=by injection hq' with hq';injection hq'
   have hT:=hset 2 (I J (mvd l e.t)) (rsE 3 l e) (by omega) rfl;have hce:=hT.ent HO.out (i:=i) (j:=j) (by simpa using hsl2) hvi HVE.out (by simp[hul];omega);simp only[List.getElem_set_self]at hce;obtain⟨q',hq2',-,-,hc3,-,-⟩:=hce;obtain rfl:q=q':=by injection hq2' with hq2';injection hq2'
   have hX1:=aW (HX3.out.below hb1 HX3.out.lt) ⟨q,j*4+2,none⟩ (by dsimp only;omega) (I J (mvd l e.t));have y0:(w1.setCell ⟨q,j*4+2,none⟩ (I J (mvd l e.t))).cell? ⟨q,j*4,none⟩=Z (I J (rsE 3 l e).p):=hc3 0 (by omega);have y1:(w1.setCell ⟨q,j*4+2,none⟩ (I J (mvd l e.t))).cell? ⟨q,j*4+1,none⟩=Z (I J (rsE 3 l e).s):=hc3 1 (by omega);have y2:(w1.setCell ⟨q,j*4+2,none⟩ (I J (mvd l e.t))).cell? ⟨q,j*4+2,none⟩=Z (I J (rsE 3 l e).t):=hc3 2 (by omega);simp only[HUS.out]at hT;have hT2:OpS K w (w1.setCell ⟨q,j*4+2,none⟩ (I J (mvd l e.t))) ((aD (rsEnt 3 l) c.ents i).set i ⟨cd,aD (rsE 3 l) el (j+1)⟩) c.grps es c.base c.second pv:=hT;have HT:=G (hT2.below (hT2.n HO.out) (Below.refl _ _).drew);have HX:=G (hX1.below (B:=_) (Below.refl _ _).drew hX1.lt);clear hT hT2 hX1 hc3 hset hS1 hq' hq2' hb1 HUS HEN HS3 HX3 KC2;have hbig:=bigE_eq _ hnn;generalize rsE 3 l e=e3 at *;generalize w1.setCell ⟨q,j*4+2,none⟩ (I J (mvd l e.t))=W3 at *;obtain⟨mm,hmm⟩:∃mm,max (max e3.p e3.s) e3.t=mm:=⟨_,rfl⟩;rw[hmm]at hbig;have HBIG:=G hbig;have hmx:=fun(W:Wv) (ts:Array TypeId) (ty:TypeId)=>sE W ts ty e3.p e3.s e3.t mm hmm
   clear hmm hbig hnn;cases fe with
   |false=>
    go_wp2_with fail;go_region;go_wp2_with fail;go_roundw
    case rel=>exact⟨j+1,by omega,by go_num,by rw[HFE.out];rfl,HT.out,HX.out⟩
    simp[intOf];omega
   |true=>
    have HB2:=U ((fb&&okE 3 l el (j+1))=decide (mm<=65535)) (by rw[HFE.out,HBIG.out,Bool.not_not,Bool.true_and]);go_wp2_with fail;go_region;go_wp2_with fail;go_roundw
    case rel=>exact⟨j+1,by omega,by go_num,by rw[HB2.out],HT.out,HX.out⟩
    simp[intOf];omega
  obtain rfl:j=el.length:=by omega
  have HS4:=U (OpS K w wr ((aD (rsEnt 3 l) c.ents i).set i ⟨cd,el.map (rsE 3 l)⟩) c.grps es c.base c.second pv) (by rw[<-lI (rsE 3 l) el (Nat.le_refl _)];exact hS);clear hS hX;go_wp2_with fail;go_roundw
  case rel=>exact⟨i+1,by omega,by go_num,by rw[HFB.out],by have:=HS4.out;rw[HNXT.out]at this;exact this⟩
  simp[intOf];omega
 obtain rfl:i=c.ents.length:=by omega
 have HRES:=U ((f0&&okX 3 l c.ents c.ents.length)=fitO 3 l K.z c) (by
  rw[fit_eq,<-HF0.out,<-HPV.out];rfl)
 obtain⟨fb,hfb⟩:∃fb,(f0&&okX 3 l c.ents c.ents.length)=fb:=⟨_,rfl⟩;rw[hfb]at HRES|-;clear hfb;rw[lI (rsEnt 3 l) c.ents (Nat.le_refl _)]at hS;obtain⟨nl,hnl⟩:∃nl,es.length=nl+1:=⟨es.length-1,by omega⟩;have HNL:=G hnl;have hcap:=nM hS.els;have hSI:=hS;obtain⟨qel,hKE,-,-,hqr,hqg,-⟩:=hSI.el HO.out (i:=0) (by omega);have HKE:=G hKE;have HS3:=G hS;rw[hKE,hnl];rw[hnl]at hsz hcap;have hcap1:nl<=K.ec:=by omega
 clear hnl hSI hS hn hKE HS2 e0 hbn HVL;go_wp2_with fail;go_loopw [175] (fun u wr2=>∃j:Nat,j<=nl/\u=I J j/\OpS K w wr2 (c.ents.map (rsEnt 3 l)) c.grps (aD (rsE 3 l) es j) c.base c.second pv) (fun u _=>nl-(intOf u).toNat)
 case atStart=>exact⟨0,Nat.zero_le _,rfl,by rw[iR];exact HS3.out⟩
 obtain⟨j,hj,rfl,hS⟩:=hrel;have hbr2:=hS.n HO.out;by_cases hlj:j<nl
 ·have hje:j<es.length:=by have:=HNL.out;omega
  have hul:=fJ (rsE 3 l) es j;have hue:=gG (rsE 3 l) es hje (by omega);have HUS:=G (iS (rsE 3 l) es hje);have hwe:=ES.out _ (List.getElem_mem hje);have hEN:=fun W(h:OpS K w W (c.ents.map (rsEnt 3 l)) c.grps (aD (rsE 3 l) es j) c.base c.second pv)=>h.el HO.out (i:=j) (by omega)
  simp only[hue]at hEN;have HEN:=G hEN;obtain⟨q,hq,hcl,hfr,-⟩:=hEN wr hS;obtain rfl:qel=q:=by have hq:=HKE.out.symm.trans hq;injection hq with hq;injection hq
  clear hEN hue hul hq;generalize es[j]=e at *;have cz:wr.cell? ⟨qel,j*4+2,none⟩=Z (I J e.t):=hcl 2 (by omega);have fz:wr.frozen? ⟨qel,j*4+2,none⟩=false:=hfr _;have HS4:=G hS;have KC2:=G (KC.out qel (j*4) e.t wr hwe cz fz);clear hS hcl hfr hwe cz fz;go_wp2_with fail;with_reducible refine KC2.out.mono ?_
  rintro e' W3 ⟨rfl,w1,hb1,rfl⟩;obtain⟨q,hq,-,-,-,-,hset⟩:=HEN.out w1 (HS4.out.below hbr2 hb1);obtain rfl:qel=q:=by have hq:=HKE.out.symm.trans hq;injection hq with hq;injection hq
  have hT:=hset 2 (I J (mvd l e.t)) (rsE 3 l e) (by omega) rfl;rw[HUS.out]at hT;have HT:=G hT;clear hT hset hq hb1 HEN HUS KC2 HS4;go_wp2_with fail;go_roundw
  case rel=>exact⟨j+1,by omega,by go_num,HT.out⟩
  simp[intOf];omega
 obtain rfl:j=nl:=by omega
 have HS4:=G hS;have r0:wr.cell? ⟨w.heap.size,0,none⟩=Z (I J K.z):=by rw[<-HRB.out];exact hS.room.cell rfl
 have r1:wr.cell? ⟨w.heap.size,1,none⟩=Z (.bool K.b):=by rw[<-HRB.out];exact hS.room.cell rfl
 have s3:=hS.col.c 3 rfl;have s4:=hS.col.c 4 rfl;have hgs:=hS.col.lt;have hln:(aD (rsE 3 l) es j).length=es.length:=fJ _ _ _;obtain⟨q,hq,hcl,hfr,-⟩:=hS.el HO.out (i:=j) (by have:=HNL.out;omega);obtain rfl:qel=q:=by have hq:=HKE.out.symm.trans hq;injection hq with hq;injection hq
 have hqs:qel<wr.heap.size:=World.block_lt_of_cell? wr ⟨qel,j*4+0,none⟩ (hcl 0 (by omega));have hj1:j<(aD (rsE 3 l) es j).length:=by rw[hln];have:=HNL.out;omega
 have hf0:wr.frozen? ⟨qel,j*4,none⟩=false:=hfr _;have hf1:wr.frozen? ⟨qel,j*4+1,none⟩=false:=hfr _;have hf2:wr.frozen? ⟨qel,j*4+2,none⟩=false:=hfr _;have hc0:=hcl 0 (by omega);have hc1:=hcl 1 (by omega);have hc2:=hcl 2 (by omega);simp only[Nat.add_zero]at hc0;replace hc0:=hc0.trans (show _=Z (Value.int .i64 ((aD (rsE 3 l) es j)[j]'hj1).p)from rfl);replace hc1:=hc1.trans (show _=Z (Value.int .i64 ((aD (rsE 3 l) es j)[j]'hj1).s)from rfl);replace hc2:=hc2.trans (show _=Z (Value.int .i64 ((aD (rsE 3 l) es j)[j]'hj1).t)from rfl);have HLN:=G hln;have HKO:=G (fun W=>KO.out W);have hws:=hS.room.lt;rw[HRB.out]at hws;have hne1:w.heap.size≠qel:=by have:=HRB.out;omega
 have hne2:K.g≠qel:=fun e=>hqg e.symm
 clear hS hcl hfr hq hln KC KO;go_upto_block 9 with(fail);go_cut [] (fun wx=>OpS K w wx (c.ents.map (rsEnt 3 l)) c.grps (newO 3 l (roomC 3 K.z l c) es) c.base c.second pv)
 case first=>
  go_wp2_with fail;with_reducible refine(HKO.out _).mono ?_
  rintro e w2 ⟨rfl,hbf⟩;have fq2:=(hbf.frozen (p:=⟨qel,j*4+2,none⟩) hqs).trans hf2;have cq2:=(hbf.cell (p:=⟨qel,j*4+2,none⟩) hqs).trans hc2
  all_goals(
   have hT:=HS4.out.below hbr2 hbf
   have hjl:j<es.length:=by have:=HNL.out;omega
   have hue:(aD (rsE 3 l) es j)[j]=es[j]:=gG (rsE 3 l) es hjl hj1
   have hgd:es.getD (es.length-1) ⟨0,0,0,false⟩=es[j]:=by
    rw[show es.length-1=j by have:=HNL.out;omega,List.getD_eq_getElem?_getD,List.getElem?_eq_getElem hjl];rfl
   have hlast:=tH (rsE 3 l) es j HNL.out
   clear HKO HS4 hbf s3 s4 hf0 hf1 hf2 hc0 hc1 hc2 r0 r1
   obtain⟨q,hq,-,-,-,-,hset⟩:=hT.el HO.out (i:=j) hj1
   obtain rfl:qel=q:=by have hq:=HKE.out.symm.trans hq;injection hq with hq;injection hq
   rw[hue]at hset
   have hT:=hset 2 (I J l) ⟨es[j].p,es[j].s,l,es[j].v⟩ (by omega) rfl
   clear hset hq
   have hnew:newO 3 l (roomC 3 K.z l c) es=(es.take j).map (rsE 3 l)++[⟨es[j].p,es[j].s,l,es[j].v⟩]:=by
    unfold newO
    rw[hgd,show es.length-1=j by have:=HNL.out;omega]
    rfl
   rw[hlast,<-hnew]at hT
   have HFIN:=G hT
   clear hT hnew hue hgd hlast
   go_wp2_with fail
   go_meet
   exact HFIN.out)
 case rest=>
 have HFIN:=G hcut;clear hcut hc0 hc1 hc2 hf0 hf1 hf2 r0 r1 s3 s4 HKO;go_wp2_with fail;go_ret;refine⟨by rw[HRES.out];rfl,?_⟩;rw[show(roomC 3 K.z l c).second=c.second from rfl,show(roomC 3 K.z l c).third=pv from HPV.out,show(roomC 3 K.z l c).base=c.base from rfl,show(roomC 3 K.z l c).grps=c.grps from rsG_id (by decide) _ _];exact HFIN.out
theorem QP{α:Type}(enc:α->Lv){k:Nat}(hk:∀x,(enc x).length=k){w:Wv}{base:Nat}{e:TypeId}{n c:Nat}{A:Oa}{xs:List α}(h:w.ownsRow base e k (H A n c) n (aE enc xs))(hn:xs.length=n){i:Nat}(h0:0<i)(hi:i<=n):
  w.ownsRow base e k (H A i c) i (aE enc (xs.take i)):=by
 refine⟨by rw[gE enc k hk,List.length_take,Nat.min_eq_left (by omega)],?_⟩;rcases h.2 with⟨_,h2⟩|⟨g,cap,cur,h1,h2,h3,h4,h5,h6,h7⟩
 ·omega
 injection h1 with q1 q2 q3;refine .inr ⟨g,cap,cur,by rw[q1,q3],h2,h3,by omega,h5,h6,?_⟩;rw[<-(vT enc k hk xs i (by omega)).1,<-h7,List.take_take,Nat.min_eq_left (Nat.mul_le_mul_right k hi)]
theorem S_{c:Col}(h:aZ c)(k w l:Int):aZ (roomC k w l c):=by
 refine⟨fun i hi=>?_,by unfold roomC;simpa using h.n,by unfold roomC;simpa using h.m⟩;unfold roomC at hi|-;have hi':i<c.ents.length:=by simpa using hi
 have:=h.e i hi';simp only[List.getElem_map,rsEnt,List.length_map];exact this
theorem SY{c:Col}(h:∀g∈c.grps,g.name.size<=9223372036854775807)(k w l:Int):∀g∈(roomC k w l c).grps,g.name.size<=9223372036854775807:=by
 intro g hg;obtain⟨g0,h0,rfl⟩:=List.mem_map.1 (show g∈c.grps.map (rsG k w)from hg);rw[rsG_name];exact h g0 h0
theorem QC(k:Int)(hk:k=1\/k=2\/k=3)(K:Opd)(o:OpO K)(c:Col)(es:List Elt)(w:Wv)(hrb:K.rb=w.heap.size)(hc:aH c=0)(hcz:aZ c)(hes:∀e∈es,0<=wt k e/\wt k e<=65535)(hn:0<es.length)(hsz:es.length<=1099511627776)(hz:1<=K.z/\K.z<=65535)
  (hcol:Box w K.g 32 [H K.A c.ents.length K.a,H K.B c.grps.length K.bb,I J c.base,I J c.second,I J c.third]) (hents:OpV w K.base K.zz K.A K.a K.vs K.m K.top c.ents) (hgrps:w.ownsRow K.lg 98 3 (H K.B c.grps.length K.bb) c.grps.length (aE Grp.cells c.grps)) (hels:w.ownsRow K.le 77 4 (H K.E es.length K.ec) es.length (aE Elt.cells es)) :
  Calls prog 40 #[.agg #[I J K.z,.bool K.b],.pointer (Z ⟨K.g,0,N⟩),H K.E es.length K.ec,I J k] w fun e w'=>
   e=.returned (.bool (fitO k (lst K.z K.b) K.z c))/\OpS K w w' (roomC k K.z (lst K.z K.b) c).ents (roomC k K.z (lst K.z K.b) c).grps (newO k (lst K.z K.b) (roomC k K.z (lst K.z K.b) c) es) (roomC k K.z (lst K.z K.b) c).base (roomC k K.z (lst K.z K.b) c).second (roomC k K.z (lst K.z K.b) c).third:=by
 rcases hk with rfl|rfl|rfl
 ·exact PU K o c es w hrb hc hcz hes hn hsz hz hcol hents hgrps hels
 ·exact PV K o c es w hrb hc hcz hes hn hsz hz hcol hents hgrps hels
 exact PW K o c es w hrb hc hcz hes hn hsz hz hcol hents hgrps hels
end
section
open Go.RowKit Go.Maps Go.WideMaps
section
variable {P:Program}{ops:Array Oper}{Q:Exit->Act->Wv->Prop}{md:Region.Mode}{S:Wv->Prop}
def nY(P:Program)(md:Region.Mode)(ops:Array Oper)(Q:Exit->Act->Wv->Prop)(S:Wv->Prop)(fuel:Nat)(listed:Array Bool)(i:Nat)(oi:Oper)(a:Act)(w:Wv):Prop:=
 ∀K:Act->Wv->Prop,Shut (∀a w,S w->(S w->wpAnyH P md ops Q S fuel (listed.setIfInBounds i true) a w)->K a w)->Oper.wp P oi a w K Q
theorem VL{R:Value->Wv->Prop}{i:Nat}{oi:Oper}{fuel:Nat}{listed:Array Bool}{a:Act}{w:Wv}(d:Option Tmp){f:FuncId}{args:Array Value}(hd:oi.dst=d)(he:(execOp a.eval oi).run P w=.ok (.enter f args) w)
  (hc:Calls P f args w (fun e w'=>∃v,e=.returned v/\S w'/\R v w'))
  (h:∀v w',S w'->R v w'->wpAnyH P md ops Q S fuel (listed.setIfInBounds i true) (a.put d v) w'):nY P md ops Q S fuel listed i oi a w:=by
 subst hd;intro K hK;unfold Oper.wp;rw[he];simp only[Oper.upon];refine hc.mono ?_;rintro e w' ⟨v,rfl,hS',hR'⟩;exact hK.out _ _ hS' (fun hh=>h v w' hh hR')
theorem VM{i:Nat}{oi:Oper}{fuel:Nat}{listed:Array Bool}{a:Act}{w w':Wv}{v:Value}(d:Option Tmp)(hd:oi.dst=d)(he:(execOp a.eval oi).run P w=.ok (.value v) w')(hS:S w')
  (h:wpAnyH P md ops Q S fuel (listed.setIfInBounds i true) (a.put d v) w'):nY P md ops Q S fuel listed i oi a w:=by
 subst hd;intro K hK;unfold Oper.wp;rw[he];simp only[Oper.upon];exact hK.out _ _ hS (fun _=>h)
theorem DE{i j:Nat}{oi oj:Oper}{fuel:Nat}{listed:Array Bool}{a:Act}{w:Wv}(hi:ops[i]?=Z oi)(hj:ops[j]?=Z oj)(hr:Region.ready md ops listed=[i,j])
  (hwi:Region.wanted oi (yielded ops a.tmps)=true) (hwj:Region.wanted oj (yielded ops a.tmps)=true) (Hi:nY P md ops Q S fuel listed i oi a w) (Hj:nY P md ops Q S fuel listed j oj a w):wpAnyH P md ops Q S (fuel+1) listed a w:=by
 refine wpAnyH_ready hr (by simp) (AllReadyH.cons hi (fun K hK=>?_) (AllReadyH.cons hj (fun K hK=>?_) AllReadyH.nil))
 ·rw[if_pos hwi];exact Hi K hK
 rw[if_pos hwj];exact Hj K hK
end
end
end Go.Proofs.YtkhmjidaeliccaaGreatDoor
