import Derived.Test.YtpfbnikbebccjaaGreatDoorU00
import Derived.Test.YtpfbnikbebccjaaGreatDoorU06
import Derived.Test.YtpfbnikbebccjaaGreatDoorU16
import Derived.Test.YtpfbnikbebccjaaGreatDoorU17
import Derived.Test.YtpfbnikbebccjaaGreatDoorU18
import Derived.Test.YtpfbnikbebccjaaGreatDoorU19
import Derived.Test.YtpfbnikbebccjaaGreatDoorU20
import Derived.Test.YtpfbnikbebccjaaGreatDoorU23
set_option maxRecDepth 100000
set_option maxHeartbeats 51200000
namespace Go.Proofs.YtpfbnikbebccjaaGreatDoor
open Option renaming none->N,some->Z
open Value renaming int->I,slice->H
open IntKind renaming i64->J
open Go.Proofs.Tryz
section
open Go.RowKit Go.Maps Go.WideMaps
theorem R4.fresh{w w':Wv}{base:Nat}{A:Nat->Oa}{C:Nat->Nat}{R:Nat->Li}(h:R4 w base A C R)(hbs:base<=w.heap.size){j:Nat}{B:Oa}{k:Nat}{zs:Li}(hb:By w w')(ho:w'.ownsRow w.heap.size 3 1 (H B zs.length k) zs.length (zs.map (Value.int .i64))):
  R4 w' base (upd A j B) (upd C j k) (upd R j zs):=by
 have hlt:∀q,blk B=Z q->w.heap.size<=q:=fun q hq=>(ho.lt q (by rw[dZ];exact hq)).1
 refine⟨fun i hi=>?_,fun i l hi hl hne=>?_⟩
 ·by_cases e:i=j
  ·subst e
   rw[d_,d_,d_];exact eL ho hbs
  rw[eA e,eA e,eA e];exact aK (h.own i hi) hb
 by_cases e:i=j
 ·subst e
  rw[d_,eA (fun g=>hne g.symm)];cases hB:blk B with
  |none=>exact .inl rfl
  |some g=>
   right;intro e2;have:=hlt g hB;have:=(h.lt hl e2.symm).2;omega
 rw[eA e];by_cases e2:l=j
 ·subst e2
  rw[d_];cases hA:blk (A i)with
  |none=>exact .inl rfl
  |some g=>
   right;intro e2;have:=hlt g e2.symm;have:=(h.lt hi hA).2;omega
 rw[eA e2];exact h.ne i l hi hl hne
def R2(p l:Li):Nat->Li:=fun k=>if k=0 then p else if k=1 then l else []
theorem FE(p l q:Li):upd (R2 p l) 0 q=R2 q l:=by
 funext k;unfold upd R2;by_cases h:k=0
 ·simp[h]
 simp[h]
theorem qR(p l q:Li):upd (R2 p l) 1 q=R2 p q:=by
 funext k;unfold upd R2;by_cases h:k=1
 ·subst h;simp
 simp[h]
theorem R4.len{w:Wv}{base:Nat}{A:Nat->Oa}{C:Nat->Nat}{R:Nat->Li}(h:R4 w base A C R){k:Nat}(hk:k<4):(R k).length<=C k:=by
 obtain⟨_,_,hv,hc⟩:=gE (h.own k hk);injection hv with _ _ hv;subst hv;exact hc
theorem R4.low{w w':Wv}{base:Nat}{A:Nat->Oa}{C:Nat->Nat}{R:Nat->Li}(h:R4 w base A C R)(hbs:base<=w.heap.size){k:Nat}(hk:k<4){n c:Nat}(hg:w.grownBy w' (Value.ownBlock (H (A k) n c))):Below base w w':=by
 rw[dZ]at hg;exact⟨hg.os,hg.tape,hg.output,hg.size,fun q hq=>hg.block q (by omega) (fun e=>by have:=(h.lt hk e.symm).1;omega)⟩
def uW(A:Oa)(mt:Li×Li×Bool)(w:Wv)(e:Ending)(w':Wv):Prop:=
 ∃P p L l,e=.returned (.tuple #[H P mt.1.length p,H L mt.2.1.length l,.bool mt.2.2])/\aA w' P mt.1/\aA w' L mt.2.1/\mt.1.length<=p/\mt.2.1.length<=l/\(∀q,blk L=Z q->blk A=Z q\/w.heap.size<=q)/\By w w'
theorem IK(A:Oa)(a lo:Nat):blk (bV A a lo)=blk A:=by
 unfold bV;split
 ·rfl
 cases A with
 |none=>rfl
 |some x=>simp[blk,Addr.add];split<;>rfl
theorem WH(A0:Oa)(k0:Nat)(cs:List Spn)(C:Oa)(n a':Nat)(B:Oa)(m b:Nat)(c:Col)(A:Oa)(a:Nat)(t:Li)(w:Wv)(hS:aZ w A0 cs)(hcs:cs.length<=1099511627776)(hC:aU w C n B m c)(hcz:bW c)(he:aW c=0)(hA:aA w A t)(hna:t.length<=a)(ht:t≠[])(hbig:t.length<=1048576):
  Calls prog 152 #[H A0 cs.length k0,aQ C n a' B m b c,H A t.length a] w (uW A (Mtc.matched (clz cs) (aL c.ents) t) w):=by
 have B0:By w (w.alloc (.cells #[H C n a',H B m b,I J c.base,I J c.second,I J c.third] 32)):=ba _ _;have X0:Box (w.alloc (.cells #[H C n a',H B m b,I J c.base,I J c.second,I J c.third] 32)) w.heap.size 32 [H C n a',H B m b,I J c.base,I J c.second,I J c.third]:=Box.new w 32 [H C n a',H B m b,I J c.base,I J c.second,I J c.third] rfl;have W0E:∃W0,(w.alloc (.cells #[H C n a',H B m b,I J c.base,I J c.second,I J c.third] 32))=W0:=⟨_,rfl⟩;have FC:=G (fun(E:Oa) k kc zs W (hb:By w W) (hE:aA W E zs) hk hk2=>AP C n a' B m b c E k kc zs W (hC.below hb) hcz hE hk hk2);have LF:=G (yN he);have CC:=G (fun x W(hb:By w W)=>pW A0 cs.length k0 cs x W (hS.below hb) rfl hcs);have SC:=G (fun x W(hb:By w W)=>WQ A0 cs.length k0 cs x W (hS.below hb) rfl hcs);have HA:=G (fun W(hb:By w W)=>hA.below hb);have hpos:0<t.length:=List.length_pos_iff.2 ht;have M0:=G (zB (cl:=clz cs) (ent:=aL c.ents) (t:=t));have M1:=G (fun z=>zC (cl:=clz cs) (ent:=aL c.ents) (t:=t) (z:=z));have FC2:=G (fun(E:Oa) k kc zs W (hb:By w W) (hE:aA W E zs) hk hk2=>by have h:=FC.out E k kc zs W hb hE hk hk2;rw[<-LF.out zs]at h;exact h);clear hS hcs hC hcz he hA FC LF ht;unfold aQ at *;generalize aL c.ents=ent at *;generalize clz cs=cl at *;generalize hmt:Mtc.matched cl ent t=mt at *;clear hmt;go_enter func152,ntmps152;go_upto_region 1 with(fail)
 obtain⟨W0,hW0⟩:=W0E;rw[hW0]at B0 X0|-;clear hW0;have l0:=X0.lt;have HX:=G X0;have SH:=G (fun W'(hb':By W0 W')=>show W'.cell? ⟨w.heap.size,0,N⟩=Z (H C n a')/\W'.cell? ⟨w.heap.size,1,N⟩=Z (H B m b)/\W'.cell? ⟨w.heap.size,2,N⟩=Z (I J c.base)/\W'.cell? ⟨w.heap.size,3,N⟩=Z (I J c.second)/\W'.cell? ⟨w.heap.size,4,N⟩=Z (I J c.third)/\By W0 W' from⟨(hb'.cell l0).trans (HX.out.c 0 rfl),(hb'.cell l0).trans (HX.out.c 1 rfl),(hb'.cell l0).trans (HX.out.c 2 rfl),(hb'.cell l0).trans (HX.out.c 3 rfl),(hb'.cell l0).trans (HX.out.c 4 rfl),hb'⟩);have WRB:=G (fun W'(hb':By W0 W')=>B0.trans (hb'.mono B0.size));have HB0:=G B0;have hws:=B0.size;clear X0 B0;go_wp2_with fail;go_loopw [9,10] (fun u v wr=>∃k:Nat,1<=k/\k<=t.length+1/\u=I J (Mtc.sz ent t (k-1))/\v=I J k/\By W0 wr) (fun _ v _=>t.length+1-(intOf v).toNat)
 case atStart=>exact⟨1,by omega,by omega,rfl,rfl,Below.refl _ _⟩
 obtain⟨k,hk1,hk2,rfl,rfl,hbr⟩:=hrel;by_cases hlt:k<=t.length
 ·have hcut:=fun(W:Wv)=>t_ A t.length a k (by omega) W
  have HDP:=U (∀W,By w W->aA W (bV A a 0) (t.take k)) (fun W hb=>by have h:=(HA.out W hb).sub (a:=a) (lo:=0) (hi:=k) (by omega) hlt hna;simpa using h);rw[Nat.sub_zero,Nat.sub_zero]at hcut;generalize bV A a 0=DP at *;have TF:=G (fun W(hb':By W0 W)(hE:aA W DP (t.take k))=>(FC2.out DP k a (t.take k) W (WRB.out W hb') hE (by rw[List.length_take];omega) (by omega)).mono (R':=fun e W'=>∃v,e=.returned v/\(W'.cell? ⟨w.heap.size,0,N⟩=Z (H C n a')/\W'.cell? ⟨w.heap.size,1,N⟩=Z (H B m b)/\W'.cell? ⟨w.heap.size,2,N⟩=Z (I J c.base)/\W'.cell? ⟨w.heap.size,3,N⟩=Z (I J c.second)/\W'.cell? ⟨w.heap.size,4,N⟩=Z (I J c.third)/\By W0 W')/\(∃E d,v=.tuple #[H E ((ent (t.take k)).getD []).length d,.bool (ent (t.take k)).isSome])) (fun e W'⟨E,d,he,g1,g2⟩=>⟨_,he,SH.out W' (hb'.trans (g2.mono hb'.size)),E,d,rfl⟩))
  have HHIT:=G (fun(h:(ent (t.take k)).isSome=true)=>show Mtc.sz ent t k=k from by
   obtain⟨y,rfl⟩:∃y,k=y+1:=⟨k-1,by omega⟩
   exact Mtc.sz_hit h)
  have HMISS:=G (fun(h:¬(ent (t.take k)).isSome=true)=>show Mtc.sz ent t k=Mtc.sz ent t (k-1)from by
   obtain⟨y,rfl⟩:∃y,k=y+1:=⟨k-1,by omega⟩
   exact Mtc.sz_miss h)
  generalize hsz:Mtc.sz ent t (k-1)=z at *;clear hsz;go_wp2_with fail;refine wp_region_held_drew (S:=fun W'=>W'.cell? ⟨w.heap.size,0,N⟩=Z (H C n a')/\W'.cell? ⟨w.heap.size,1,N⟩=Z (H B m b)/\W'.cell? ⟨w.heap.size,2,N⟩=Z (I J c.base)/\W'.cell? ⟨w.heap.size,3,N⟩=Z (I J c.second)/\W'.cell? ⟨w.heap.size,4,N⟩=Z (I J c.third)/\By W0 W') (by kernel_rfl) (SH.out _ (hbr.drew)) (fun hHeld=>?_);refine tK 0 27 ?_;refine tK 1 28 ?_;refine tK 2 29 ?_;refine tV 3 30 (H DP k a) ?_ ?_
  ·intro w hSw;(try dsimp only at hSw);go_split_ands;go_simp
  try simp only[Act.put,sA,sB,sC]
  refine qE 4 31 (TF.out _ hHeld.2.2.2.2.2 (HDP.out _ (WRB.out _ (hHeld.2.2.2.2.2)))) ?_;clear hHeld;rintro _ W2 hHeld ⟨E2,d2,rfl⟩;refine tK 5 26 ?_;refine tK 6 32 ?_;refine tK 7 33 ?_;refine tK 8 11 ?_;refine tK 9 12 ?_;refine wpAnyH_done (by kernel_rfl) ?_ _;have HB2:=G (hHeld.2.2.2.2.2);clear hHeld TF HDP hcut;generalize ((ent (t.take k)).getD []).length=el at *;cases hsm:(ent (t.take k)).isSome with
  |true=>
   have HS:=G (HHIT.out hsm);clear HHIT HMISS hsm;go_wp2_with fail;go_roundw
   case rel=>exact⟨k+1,by omega,by omega,by rw[Nat.add_sub_cancel,HS.out],by go_num,HB2.out⟩
   simp[intOf];omega
  |false=>
   have HS:=G (HMISS.out (by rw[hsm];simp));clear HHIT HMISS hsm;go_wp2_with fail;go_roundw
   case rel=>exact⟨k+1,by omega,by omega,by rw[Nat.add_sub_cancel,HS.out],by go_num,HB2.out⟩
   simp[intOf];omega
 obtain rfl:k=t.length+1:=by omega
 rw[Nat.add_sub_cancel];have hzl:=Mtc.sz_le (ent:=ent) t t.length;generalize hsz:Mtc.sz ent t t.length=z at *;have HSZ:=G hsz;clear hsz;by_cases hz0:z=0
 ·have HM:=G (M0.out hz0)
  have c1:=fun(W:Wv)=>show(Instr.sliceAt 49 (H A t.length a) N (Z (I J 1)) N).run prog W=.ok (H (bV A a 0) (1-0) (a-0)) W from t_ A t.length a 1 (by omega) W
  have c2:=fun(W:Wv)=>show(Instr.sliceAt 49 (H A t.length a) (Z (I J 1)) N N).run prog W=.ok (H (bV A a 1) (t.length-1) (a-1)) W from qB A t.length a 1 (by omega) W
  have HBK:=U (∀q,blk (bV A a 1)=Z q->blk A=Z q\/w.heap.size<=q) (fun q h=>.inl (by rw[IK]at h;exact h));have HP:=U (∀W,By w W->aA W (bV A a 0) (t.take 1)) (fun W hb=>by have h:=(HA.out W hb).sub (a:=a) (lo:=0) (hi:=1) (by omega) (by omega) hna;simpa using h);have HL:=U (∀W,By w W->aA W (bV A a 1) (t.drop 1)) (fun W hb=>by have h:=(HA.out W hb).sub (a:=a) (lo:=1) (hi:=t.length) (by omega) (by omega) hna;simpa using h);rw[Nat.sub_zero,Nat.sub_zero]at c1;generalize bV A a 0=P0 at *;generalize bV A a 1=P1 at *;have hbw:=WRB.out wr hbr;subst hz0;obtain rfl:=HM.out;clear M0 M1 HM SH FC2 CC SC;go_wp2_with fail;refine wp_region_held_drew (S:=fun _=>True) (by kernel_rfl) trivial (fun hHeld=>?_);refine tK 0 38 ?_;refine tV 1 39 (H P0 1 a) ?_ ?_
  ·intro w hSw;(try dsimp only at hSw);go_split_ands;go_simp
  try simp only[Act.put,sA,sB,sC]
  refine tK 2 40 ?_;refine tV 3 41 (H P1 (t.length-1) (a-1)) ?_ ?_
  ·intro w hSw;(try dsimp only at hSw);go_split_ands;go_simp
  try simp only[Act.put,sA,sB,sC]
  refine tK 4 6 ?_;refine tK 5 7 ?_;refine tK 6 8 ?_;refine wpAnyH_done (by kernel_rfl) ?_ _;go_wp2_with fail;go_ret3;have hbq:By w wr.drew:=hbw.drew;exact⟨P0,a,P1,a-1,by simp only[List.length_take,List.length_drop];rw[show min 1 t.length=1 by omega];rfl,HP.out _ hbq,HL.out _ hbq,by rw[List.length_take];omega,by rw[List.length_drop];omega,HBK.out,hbq⟩
 have hz1:0<z:=by omega
 have qz:((z:Int)==0)=false:=by rw[beq_eq_false_iff_ne];omega
 have HST:=G (Mtc.MG.start (cl:=cl) (ent:=ent) (t:=t) hz1 hzl (by have:=Mtc.sz_some (ent:=ent) (t:=t) (k:=t.length) (by rw[HSZ.out];exact hz1);rw[HSZ.out]at this;exact this));have c1:=fun(W:Wv)=>t_ A t.length a z (by omega) W
 have HDP:=U (∀W,By w W->aA W (bV A a 0) (t.take z)) (fun W hb=>by have h:=(HA.out W hb).sub (a:=a) (lo:=0) (hi:=z) (by omega) hzl hna;simpa using h);rw[Nat.sub_zero,Nat.sub_zero]at c1;generalize bV A a 0=DP at *;have hbw:=WRB.out wr hbr;have hwr:=hbr.size;have HBR:=G hbr;have HI0:=G (HDP.out wr hbw);clear hz0 M0 HDP hbr;obtain⟨Wq,rfl⟩:∃Wq,Wq=wr:=⟨wr,rfl⟩;have HQ:=G hbw;have HALq:=G (fun(o:Obj)=>show By Wq (Wq.alloc o)from ba _ _);clear hbw;go_wp2_with(at_builtin;refine aJ _ _ 49 3 (I J 0) 1 8 rfl rfl underlying49 aM rfl (by decide) (by decide) rfl (iS [] 3 1 0 Wq.heap.size rfl rfl (Nat.le_refl _) (by omega)) rfl (Sl.below HI0.out (HALq.out _)) (by rw[List.length_map,List.length_take];omega) (aR _) (by omega) (by simp) ?_;intro B3 k3 w3 hown3 hc3 hb3 hg3 hB3;simp only[Nat.zero_add,List.nil_append]at hown3 hc3)
 have HF:=U (R4 w3 Wq.heap.size (upd (fun _=>N) 0 B3) (upd (fun _=>0) 0 k3) (R2 (t.take z) [])/\Wq.heap.size<=w3.heap.size/\By Wq w3) (by
  have hb:=(HALq.out (.cells #[] 3)).trans hb3
  refine⟨?_,hb.size,hb⟩
  have hl:(t.take z).length=z:=by rw[List.length_take];omega
  have e:upd (fun _=>[]) 0 (t.take z)=R2 (t.take z) []:=by funext k;unfold upd R2;by_cases h:k=0<;>simp[h]
  rw[<-e]
  exact(R4.nil Wq Wq.heap.size).fresh (Nat.le_refl _) hb (by rw[hl];exact hown3))
 have HBW:=G (fun W(hb:By Wq W)=>show By W0 W from HBR.out.trans (hb.mono hwr));have hlz:(t.take z).length=z:=by rw[List.length_take];omega
 have HLZ:=G hlz;clear hown3 hc3 hb3 hg3 hB3 HALq HI0 HBR hlz c1;go_wp2_with fail;go_loopw [13,14,15,16] (fun u v y q wr=>∃(part lft d:Li)(hi:Int)(i:Nat)(A2:Nat->Oa)(C2:Nat->Nat),u=H (A2 0) part.length (C2 0)/\v=H (A2 1) lft.length (C2 1)/\y=I J hi/\q=I J i/\R4 wr Wq.heap.size A2 C2 (R2 part lft)/\Mtc.MG cl ent t z d part lft i hi/\Wq.heap.size<=wr.heap.size/\By Wq wr) (fun _ _ _ q _=>t.length-(intOf q).toNat)
 case atStart=>exact⟨t.take z,[],t,0,z,_,_,by rw[HLZ.out];rfl,rfl,rfl,rfl,HF.out.1,HST.out,HF.out.2.1,HF.out.2.2⟩
 obtain⟨part,lft,d,hi,i,A2,C2,rfl,rfl,rfl,rfl,hR,hmg,hqs,hbq⟩:=hrel;have HR:=G hR;have HMG:=G hmg;have hpi:=hmg.at_;have hil:=hmg.le;have hbr:=HBW.out wr hbq;have hbw:=WRB.out wr hbr;have HBQ:=G hbq;clear hR hmg hbq HF HST;by_cases hlt:i<t.length
 ·have d1:decide ((i:Int)<(t.length:Int))=true:=by simpa using hlt
  obtain⟨bb,oo,rfl,hcell⟩:=(HA.out wr hbw).at hlt;have c0:=hcell i hlt;have hbl:=World.block_lt_of_cell? wr _ c0;have STOP:=G (fun h=>HMG.out.stop hlt h);have LEAVE:=G (fun(hi':Int) h0 h1 hh=>HMG.out.leave (hi':=hi') hlt h0 h1 hh);have TAKE:=G (fun h0 h1 h2=>HMG.out.take hlt h0 h1 h2);clear hcell;generalize t[i]=x at *;have SX:=G (SC.out x wr hbw);go_wp2_with fail;with_reducible refine SX.out.mono ?_
  rintro e W2 ⟨rfl,hb2⟩;have HR2:=G (HR.out.below hb2);have HBQ2:=G (HBQ.out.trans (hb2.mono hqs));have hqs2:=HBQ2.out.size;have hbr2:=HBW.out W2 HBQ2.out;have hbw2:=WRB.out W2 hbr2;have c2:=(hb2.cell (p:=⟨bb,oo+i,N⟩) hbl).trans c0;clear c0 SX hb2;by_cases hk0:cl x=0
  ·have qk:(cl x==0)=true:=by simpa using hk0
   have HGR:=G (STOP.out hk0);rw[qk];clear LEAVE TAKE STOP hk0 qk c2 HMG;have HM:=U (mt=(part,lft++t.drop i,true)) (by rw[M1.out z rfl hz1,HGR.out]);have cf:=fun(W:Wv)=>qB (Z ⟨bb,oo,N⟩) t.length a i hil W
   have HDR:=U (aA W2 (bV (Z ⟨bb,oo,N⟩) a i) (t.drop i)) (by have h:=(HA.out W2 hbw2).sub (a:=a) (lo:=i) (hi:=t.length) hil (Nat.le_refl _) hna;simpa using h);obtain rfl:=HM.out;clear HM M1 HGR FC2 CC SC SH;generalize bV (Z ⟨bb,oo,N⟩) a i=DP2 at *;have HO1:=U (W2.ownsRow Wq.heap.size 3 1 (H (A2 1) lft.length (C2 1)) lft.length (lft.map (Value.int .i64))) (HR2.out.own 1 (by omega));have hll:lft.length<=t.length:=by omega
   go_wp2_with(at_builtin;refine aJ _ _ 49 3 (I J 0) 1 8 rfl rfl underlying49 aM rfl (by decide) (by decide) rfl HO1.out rfl HDR.out (by simp) (aR _) (by omega) hqs2 ?_;intro B9 k9 w9 hown9 hc9 hb9 hg9 hB9);have HR9:=G (HR2.out.put (j:=1) (by omega) (zs:=lft++t.drop i) (by rw[List.length_append,List.map_append,List.length_drop];exact hown9) (by rw[<-dZ (A2 1) lft.length (C2 1)];exact hg9) hB9);rw[qR]at HR9;have HB9:=G (HQ.out.trans ((HBQ2.out.trans hb9).mono HQ.out.size));clear hown9 hc9 hb9 hg9 hB9;go_wp2_with fail;go_ret3;exact⟨A2 0,C2 0,B9,k9,by simp only[List.length_append,List.length_drop];rfl,by have h:=HR9.out.own 0 (by omega);rw[eA (by omega),eA (by omega)]at h;exact Sl.of_own h,by have h:=HR9.out.own 1 (by omega);rw[d_,d_]at h;exact Sl.of_own h,by have h:=HR9.out.len (k:=0) (by omega);rw[eA (by omega)]at h;exact h,by have h:=HR9.out.len (k:=1) (by omega);rw[d_]at h;exact h,fun q hq=>.inr (by have h:=(HR9.out.lt (k:=1) (by omega) (by rw[d_];exact hq)).1;have:=HQ.out.size;omega),HB9.out⟩
  have qk:(cl x==0)=false:=by simpa using hk0
  rw[qk];have CX:=G (CC.out x W2 hbw2);generalize hcx:cl x=k at *;have HCX:=G hcx;clear hcx qk STOP;go_wp2_with fail;with_reducible refine CX.out.mono ?_
  rintro e W3 ⟨rfl,hb3⟩;have HR3:=G (HR2.out.below hb3);have HBQ3:=G (HBQ2.out.trans (hb3.mono hqs2));have hqs3:=HBQ3.out.size;have hbr3:=HBW.out W3 HBQ3.out;have hbl3:bb<W3.heap.size:=by have:=hb3.size;have:=World.block_lt_of_cell? W2 _ c2;simp at this;omega
  have c3:=(hb3.cell (p:=⟨bb,oo+i,N⟩) (World.block_lt_of_cell? W2 _ c2)).trans c2;clear c2 CX hb3
  have SH2:=G (fun W'(hb':By W3 W')=>show W'.cell? ⟨w.heap.size,0,N⟩=Z (H C n a')/\W'.cell? ⟨w.heap.size,1,N⟩=Z (H B m b)/\W'.cell? ⟨w.heap.size,2,N⟩=Z (I J c.base)/\W'.cell? ⟨w.heap.size,3,N⟩=Z (I J c.second)/\W'.cell? ⟨w.heap.size,4,N⟩=Z (I J c.third)/\W'.cell? ⟨bb,oo+i,N⟩=Z (I J x)/\By W3 W' from by
   have h:=SH.out W' (hbr3.trans (hb'.mono hbr3.size))
   exact⟨h.1,h.2.1,h.2.2.1,h.2.2.2.1,h.2.2.2.2.1,(hb'.cell (p:=⟨bb,oo+i,N⟩) hbl3).trans c3,hb'⟩)
  have JC:=G (fun W(hb':By W3 W)=>WB (A2 0) part.length (C2 0) part x W (Sl.of_own ((HR3.out.below hb').own 0 (by omega))) rfl (by omega));have JB:=G (fun W(hb':By W3 W)=>(JC.out W hb').mono (R':=fun e W'=>∃v,e=.returned v/\(W'.cell? ⟨w.heap.size,0,N⟩=Z (H C n a')/\W'.cell? ⟨w.heap.size,1,N⟩=Z (H B m b)/\W'.cell? ⟨w.heap.size,2,N⟩=Z (I J c.base)/\W'.cell? ⟨w.heap.size,3,N⟩=Z (I J c.second)/\W'.cell? ⟨w.heap.size,4,N⟩=Z (I J c.third)/\W'.cell? ⟨bb,oo+i,N⟩=Z (I J x)/\By W3 W')/\(∃E d,v=H E (part++[x]).length d/\aA W' E (part++[x]))) (fun e W'⟨E,d,he,g1,g2⟩=>⟨_,he,SH2.out W' (hb'.trans (g2.mono hb'.size)),E,d,rfl,Sl.of_own g1⟩));have FB:=G (fun(E:Oa) d W (hb':By W3 W) (hE:aA W E (part++[x]))=>(FC2.out E (part++[x]).length d (part++[x]) W (WRB.out W (hbr3.trans (hb'.mono hbr3.size))) hE rfl (by simp;omega)).mono (R':=fun e W'=>∃v,e=.returned v/\(W'.cell? ⟨w.heap.size,0,N⟩=Z (H C n a')/\W'.cell? ⟨w.heap.size,1,N⟩=Z (H B m b)/\W'.cell? ⟨w.heap.size,2,N⟩=Z (I J c.base)/\W'.cell? ⟨w.heap.size,3,N⟩=Z (I J c.second)/\W'.cell? ⟨w.heap.size,4,N⟩=Z (I J c.third)/\W'.cell? ⟨bb,oo+i,N⟩=Z (I J x)/\By W3 W')/\(∃E d,v=.tuple #[H E ((ent (part++[x])).getD []).length d,.bool (ent (part++[x])).isSome])) (fun e W'⟨E,d,he,g1,g2⟩=>⟨_,he,SH2.out W' (hb'.trans (g2.mono hb'.size)),E,d,rfl⟩));go_wp2_with fail;refine wp_region_held_drew (S:=fun W'=>W'.cell? ⟨w.heap.size,0,N⟩=Z (H C n a')/\W'.cell? ⟨w.heap.size,1,N⟩=Z (H B m b)/\W'.cell? ⟨w.heap.size,2,N⟩=Z (I J c.base)/\W'.cell? ⟨w.heap.size,3,N⟩=Z (I J c.second)/\W'.cell? ⟨w.heap.size,4,N⟩=Z (I J c.third)/\W'.cell? ⟨bb,oo+i,N⟩=Z (I J x)/\By W3 W') (by kernel_rfl) (SH2.out _ ((Below.refl _ _).drew)) (fun hHeld=>?_);refine tK 0 68 ?_;refine tK 1 69 ?_;refine tK 2 70 ?_;refine tK 3 71 ?_;refine tK 4 72 ?_;refine tK 5 73 ?_;refine qE 6 74 (JB.out _ hHeld.2.2.2.2.2.2) ?_;clear hHeld;rintro _ W7 hHeld ⟨E7,d7,rfl,hE7⟩;refine qE 7 75 (FB.out E7 d7 _ hHeld.2.2.2.2.2.2 hE7) ?_;clear hHeld;rintro _ W8 hHeld ⟨E8,d8,rfl⟩;refine tK 8 67 ?_;refine tK 9 76 ?_;refine tK 10 77 ?_;refine tK 11 18 ?_;refine tK 12 19 ?_;refine wpAnyH_done (by kernel_rfl) ?_ _;have hb8:=hHeld.2.2.2.2.2.2;have HR8:=G (HR3.out.below hb8);have HBQ8:=G (HBQ3.out.trans (hb8.mono hqs3));have hqs8:=HBQ8.out.size;have c8:=hHeld.2.2.2.2.2.1;have JC8:=G (JC.out W8 hb8);clear hHeld SH2 JB FB JC hE7 c3;have HALr:=G (fun(o:Obj)=>show By W8 (W8.alloc o)from ba _ _);generalize ((ent (part++[x])).getD []).length=el at *;have hsome:∃bs,(ent (part++[x])).isSome=bs:=⟨_,rfl⟩;obtain⟨bs,hbs⟩:=hsome;have HBS:=G hbs;rw[hbs];clear hbs;by_cases htk:bs=true/\hi<k
  ·obtain⟨rfl,hlt2⟩:=htk
   have HTK:=G (TAKE.out hk0 HBS.out hlt2);have q2:decide (hi<k)=true:=by simpa using hlt2
   clear TAKE LEAVE;go_wp2_with fail;with_reducible refine JC8.out.mono ?_
   rintro e W9 ⟨E9,d9,rfl,hown9,hb9⟩;have HR9:=G (HR8.out.fresh (j:=0) hqs8 hb9 hown9);rw[FE]at HR9;have HBQ9:=G (HBQ8.out.trans (hb9.mono hqs8));clear hown9 hb9;go_wp2_with fail;go_roundw
   case rel=>exact⟨part++[x],lft,_,hi,i+1,_,_,by rw[d_,d_,List.length_append];rfl,by rw[eA (by omega),eA (by omega)],rfl,by go_num,HR9.out,HTK.out,HBQ9.out.size,HBQ9.out⟩
   simp[intOf];omega
  obtain⟨mx,hmx⟩:∃mx:Int,mx=max hi k:=⟨_,rfl⟩
  have HLV:=G (LEAVE.out mx hk0 (by
   cases bs with
   |false=>exact .inl (by rw[HBS.out];simp)
   | true=>exact .inr (Int.not_lt.1 (fun g=>htk ⟨rfl,g⟩))) hmx)
  have hmax:=fun(W:Wv) (ts:Array TypeId) (ty:TypeId)=>show(Builtin.max_ ts ty #[I J hi,I J k]).run prog W=.ok (I J mx) W from by
   rw[run_max_int2];congr 2;rw[hmx];split<;>omega
  have hq:∃bq,decide (hi<k)=bq:=⟨_,rfl⟩;obtain⟨bq,hbq⟩:=hq;have hcase:(bs&&bq)=false:=by
   cases bs with
   |false=>rfl
   |true=>
    cases bq with
    |false=>rfl
    |true=>exact absurd ⟨rfl,of_decide_eq_true hbq⟩ htk
  have hcs2:bs=false\/(bs=true/\bq=false):=by
   cases bs with
   |false=>exact .inl rfl
   |true=>exact .inr ⟨rfl,by simpa using hcase⟩
  clear TAKE LEAVE hmx htk hcase;have HO1:=U (W8.ownsRow Wq.heap.size 3 1 (H (A2 1) lft.length (C2 1)) lft.length (lft.map (Value.int .i64))) (HR8.out.own 1 (by omega));have hll:lft.length<=t.length:=by omega
  rcases hcs2 with rfl|⟨rfl,rfl⟩
  all_goals
   go_wp2_with(at_builtin;refine aJ _ _ 49 3 (I J 0) 1 8 rfl rfl underlying49 aM rfl (by decide) (by decide) rfl (HO1.out.alloc _) rfl (bZ W8 [x] _ rfl) (by simp) (aR _) (by omega) (by simp;omega) ?_;intro B9 k9 w9 hown9 hc9 hb9 hg9 hB9);have HR9:=G ((HR8.out.below (HALr.out _)).put (j:=1) (by omega) (zs:=lft++[x]) (by rw[List.length_append,List.map_append];exact hown9) (by rw[<-dZ (A2 1) lft.length (C2 1)];exact hg9) hB9);rw[qR]at HR9;have HBQ9:=G (HBQ8.out.trans (((HALr.out _).mono hqs8).trans hb9));clear hown9 hc9 hb9 hg9 hB9;go_wp2_with fail;go_roundw
   case rel=>exact⟨part,lft++[x],d,mx,i+1,_,_,by rw[eA (by omega),eA (by omega)],by rw[d_,d_,List.length_append];rfl,rfl,by go_num,HR9.out,HLV.out,HBQ9.out.size,HBQ9.out⟩
   simp[intOf];omega
 have d1:decide ((i:Int)<(t.length:Int))=false:=by simpa using hlt
 have HGR:=G (HMG.out.fin (.inl (by omega)));clear HMG;have HM:=U (mt=(part,lft++t.drop i,true)) (by rw[M1.out z rfl hz1,HGR.out]);have cf:=fun(W:Wv)=>qB A t.length a i hil W
 have HDR:=U (aA wr (bV A a i) (t.drop i)) (by have h:=(HA.out wr hbw).sub (a:=a) (lo:=i) (hi:=t.length) hil (Nat.le_refl _) hna;simpa using h);obtain rfl:=HM.out;clear HM M1 HGR FC2 CC SC SH;generalize bV A a i=DP2 at *;have HO1:=U (wr.ownsRow Wq.heap.size 3 1 (H (A2 1) lft.length (C2 1)) lft.length (lft.map (Value.int .i64))) (HR.out.own 1 (by omega));have hll:lft.length<=t.length:=by omega
 go_wp2_with(at_builtin;refine aJ _ _ 49 3 (I J 0) 1 8 rfl rfl underlying49 aM rfl (by decide) (by decide) rfl HO1.out rfl HDR.out (by simp) (aR _) (by omega) hqs ?_;intro B9 k9 w9 hown9 hc9 hb9 hg9 hB9);have HR9:=G (HR.out.put (j:=1) (by omega) (zs:=lft++t.drop i) (by rw[List.length_append,List.map_append,List.length_drop];exact hown9) (by rw[<-dZ (A2 1) lft.length (C2 1)];exact hg9) hB9);rw[qR]at HR9;have HB9:=G (HQ.out.trans ((HBQ.out.trans hb9).mono HQ.out.size));clear hown9 hc9 hb9 hg9 hB9;go_wp2_with fail;go_ret3;exact⟨A2 0,C2 0,B9,k9,by simp only[List.length_append,List.length_drop];rfl,by have h:=HR9.out.own 0 (by omega);rw[eA (by omega),eA (by omega)]at h;exact Sl.of_own h,by have h:=HR9.out.own 1 (by omega);rw[d_,d_]at h;exact Sl.of_own h,by have h:=HR9.out.len (k:=0) (by omega);rw[eA (by omega)]at h;exact h,by have h:=HR9.out.len (k:=1) (by omega);rw[d_]at h;exact h,fun q hq=>.inr (by have h:=(HR9.out.lt (k:=1) (by omega) (by rw[d_];exact hq)).1;have:=HQ.out.size;omega),HB9.out⟩
theorem LP(f:Nat->Int):(dO f).length=4:=rfl
theorem LO(f:Nat->Int){j:Nat}(hj:j<4):(dO f)[j]?=Z (I J (f j)):=by
 match j,hj with
 |0,_=>rfl
 |1,_=>rfl
 |2,_=>rfl
 |3,_=>rfl
theorem YS{ws:List (Nat->Int)}{i:Nat}(hi:i<ws.length)(k:Nat):eP (ws.take (i+1)) k=eP (ws.take i) k++if ws[i] k=0 then []else [ws[i] k]:=by
 rw[List.take_succ_eq_append_getElem hi,BJ]
def kQ(ws:List (Nat->Int))(q:Bool):List (Nat->Int):=if q=true then ws.reverse else ws
theorem UV(ws:List (Nat->Int))(q:Bool):(kQ ws q).length=ws.length:=by unfold kQ;split<;>simp
theorem UU(ws:List (Nat->Int))(q:Bool){i:Nat}(hi:i<(kQ ws q).length)(hw:i<ws.length):(kQ ws q)[i]=ws[if q=true then ws.length-1-i else i]'(by split<;>omega):=by
 unfold kQ at hi|-;cases q with
 |true=>simp
 |false=>simp
theorem RG(o:Opt)(es:List Elt)(k:Nat):jV o es k=eP (kQ (eN o.va false es) (decide (k=1)&&o.bk)) k:=by
 unfold jV kQ;by_cases h:k=1/\o.bk=true
 ·rw[if_pos h,if_pos (by simp[h]),YR]
 rw[if_neg h,if_neg (by simpa using h)]
def lvR(lv:Nat->Li)(i:Nat):Nat->Li:=fun k=>if k<i then lv k else []
theorem RD(lv:Nat->Li)(i:Nat):upd (lvR lv i) i (lv i)=lvR lv (i+1):=by
 funext k;unfold upd lvR;by_cases e:k=i
 ·subst e;rw[if_pos rfl,if_pos (by omega)]
 rw[if_neg e];by_cases g:k<i
 ·rw[if_pos g,if_pos (by omega)]
 rw[if_neg g,if_neg (by omega)]
theorem QR(A:Nat->Oa)(C:Nat->Nat)(R:Nat->Li){i:Nat}(hi:i<4)(E:Oa)(k:Nat)(zs:Li):(lcs (upd A i E) (upd C i k) (upd R i zs)).take (i+1)=(lcs A C R).take i++[H E zs.length k]:=by
 match i,hi with
 |0,_=>rfl
 |1,_=>rfl
 |2,_=>rfl
 |3,_=>rfl
theorem XX(E:Oa)(n kE:Nat)(es:List Elt)(o:Opt)(w:Wv)(hE:cJ w E es)(hn:es.length=n)(hbig:n<=33554432):
  Calls prog 94 #[H E n kE,.agg #[I J o.st,I J o.va,.bool o.bk,.bool o.idn]] w (oB (dW (aN o) es) w):=by
 subst hn;have EF:=G (fun W=>wQ o W);obtain⟨⟨hst1,hst4⟩,hva1,hva3⟩:=nI o;generalize aN o=od at *;have WL:=G (fun(n:Nat) R=>D_ (o:=od) (es:=es) (n:=n) (R:=R));have LK:=G (RG od es);obtain⟨st0,va0,bk0,idn0⟩:=o;generalize dW od es=wl at *;generalize hlv:jV od es=lv at *;clear hlv;obtain⟨st,va,bk,idn⟩:=od;dsimp only at *;obtain⟨sn,hsn⟩:∃sn:Nat,st=sn:=⟨st.toNat,by omega⟩;subst hsn;have hva:va=1\/va=2\/va=3:=by omega
 have TC:=G (fun W(hb:By w W)=>zAx E es.length kE es va W (hE.below hb) rfl hbig hva);have hwsl:(eN va false es).length=es.length:=mM va false es;clear hva hva1 hva3 hE;unfold uY at TC;generalize eN va false es=ws at *;have HWL:=G hwsl;have hwl2:ws.length<=33554432:=by omega
 clear hwsl;have B0:By w (w.alloc (.cells #[I J st0,I J va0,.bool bk0,.bool idn0] 34)):=ba _ _;have X0:Box (w.alloc (.cells #[I J st0,I J va0,.bool bk0,.bool idn0] 34)) w.heap.size 34 [I J st0,I J va0,.bool bk0,.bool idn0]:=Box.new w 34 [I J st0,I J va0,.bool bk0,.bool idn0] rfl;have W0E:∃W0,(w.alloc (.cells #[I J st0,I J va0,.bool bk0,.bool idn0] 34))=W0:=⟨_,rfl⟩;go_enter func94,ntmps94;go_upto_region 1 with(fail)
 obtain⟨W0,hW0⟩:=W0E;try rw[hW0]at B0 X0|-
 clear hW0;have c0:=X0.c 0 rfl;have c1:=X0.c 1 rfl;have c2:=X0.c 2 rfl;have c3:=X0.c 3 rfl;have l0:=X0.lt;go_wp2_with fail;with_reducible refine(EF.out _).mono ?_
 rintro e W1 ⟨rfl,hb1⟩;have B1:=B0.trans (hb1.mono B0.size);have X1:=X0.below hb1 l0;clear c0 c1 c2 c3 EF X0 hb1 B0;have f0:=X1.free 0;have f1:=X1.free 1;have f2:=X1.free 2;have f3:=X1.free 3;have e0:=X1.c 0 rfl;have e1:=X1.c 1 rfl;have e2:=X1.c 2 rfl;have e3:=X1.c 3 rfl;have X5:Box ((((W1.setCell ⟨w.heap.size,0,N⟩ (I J (sn:Int))).setCell ⟨w.heap.size,1,N⟩ (I J va)).setCell ⟨w.heap.size,2,N⟩ (.bool bk)).setCell ⟨w.heap.size,3,N⟩ (.bool idn)) w.heap.size 34 [I J (sn:Int),I J va,.bool bk,.bool idn]:=(((X1.set 0 _).set 1 _).set 2 _).set 3 _;have B5:By w ((((W1.setCell ⟨w.heap.size,0,N⟩ (I J (sn:Int))).setCell ⟨w.heap.size,1,N⟩ (I J va)).setCell ⟨w.heap.size,2,N⟩ (.bool bk)).setCell ⟨w.heap.size,3,N⟩ (.bool idn)):=(((B1.setCell (by simp) _).setCell (by simp) _).setCell (by simp) _).setCell (by simp) _;have W5E:∃W5,((((W1.setCell ⟨w.heap.size,0,N⟩ (I J (sn:Int))).setCell ⟨w.heap.size,1,N⟩ (I J va)).setCell ⟨w.heap.size,2,N⟩ (.bool bk)).setCell ⟨w.heap.size,3,N⟩ (.bool idn))=W5:=⟨_,rfl⟩;go_upto_region 2 with(fail)
 obtain⟨W5,hW5⟩:=W5E;try rw[hW5]at B5 X5|-
 clear hW5 f0 f1 f2 f3 e0 e1 e2 e3 X1 B1;have k1:=X5.c 1 rfl;have l5:=X5.lt;have KT:=G (TC.out W5 B5);go_wp2_with fail;with_reducible refine KT.out.mono ?_
 rintro e W6 ⟨T6,d6,rfl,ho6,hb6⟩;have HT:=U (cV dO W6 T6 ws) (Sl.of_own ho6);have HX:=G (X5.below hb6 l5);have HB6:=G (B5.trans (hb6.mono B5.size));have l6:w.heap.size<W6.heap.size:=HX.out.lt;clear k1 KT TC ho6 hb6 X5 B5 l5;go_wp2_with fail;go_loopw [6,7] (fun u v wr=>∃(i:Nat)(A:Nat->Oa)(C:Nat->Nat)(Q:Oa)(q:Nat),i<=sn/\v=I J i/\u=H Q i q/\R4 wr W6.heap.size A C (lvR lv i)/\wr.ownsRow W6.heap.size 49 1 (H Q i q) i ((lcs A C (lvR lv i)).take i)/\(∀k,k<4->blk (A k)=N\/blk (A k)≠blk Q)/\W6.heap.size<=wr.heap.size/\By W6 wr) (fun _ v _=>sn-(intOf v).toNat)
 case atStart=>exact⟨0,_,_,N,0,Nat.zero_le _,rfl,rfl,R4.nil _ _,World.ownsRow_nil _ _ _ _,fun _ _=>.inl rfl,Nat.le_refl _,Below.refl _ _⟩
 obtain⟨i,A,C,Q,q,hi,rfl,rfl,hR,hQ,hne,hqs,hbr⟩:=hrel;have HR:=G hR;have HQ:=G hQ;have HNE:=G hne;have HBR:=G hbr;clear hR hQ hne;have HXr:=G (HX.out.below hbr l6);have b0:=HXr.out.c 0 rfl;have lx:w.heap.size<wr.heap.size:=by omega
 by_cases hlt:i<sn
 ·have hi4:i<4:=by omega
  have hd:decide ((i:Int)<(sn:Int))=true:=by simpa using hlt
  obtain⟨Wi,rfl⟩:∃Wi,Wi=wr:=⟨wr,rfl⟩;have HTi:=G (HT.out.below hbr);have LKi:=G (LK.out i);generalize hlvi:lv i=lvi at *;have HLV:=G hlvi;clear hlvi hbr;go_upto_region 7 with(fail)
  have HOL:=G (UV ws (decide (i=1)&&bk));have HOG:=G (fun j hj hw=>UU ws (decide (i=1)&&bk) (i:=j) hj hw);generalize kQ ws (decide (i=1)&&bk)=wo at *;have RT:=G (fun j(hj:j<wo.length)=>YS hj i);have RLN:=G (fun j=>qA (wo.take j) i);go_wp2_with fail;go_loopw [8,9] (fun u v wr=>∃(j:Nat)(K:Oa)(k:Nat),j<=ws.length/\v=I J j/\u=H K (eP (wo.take j) i).length k/\wr.ownsRow Wi.heap.size 3 1 (H K (eP (wo.take j) i).length k) (eP (wo.take j) i).length ((eP (wo.take j) i).map (Value.int .i64))/\By Wi wr) (fun _ v _=>ws.length-(intOf v).toNat)
  case atStart=>exact⟨0,N,0,Nat.zero_le _,rfl,rfl,World.ownsRow_nil _ _ _ _,Below.refl _ _⟩
  obtain⟨j,K,k,hj,rfl,rfl,ho,hbr⟩:=hrel;have HO:=G ho;have HBJ:=G hbr;have hrs:=hbr.size;clear ho;by_cases hjl:j<ws.length
  ·have hd2:decide ((j:Int)<(ws.length:Int))=true:=by simpa using hjl
   have hjo:j<wo.length:=by rw[HOL.out];exact hjl
   have c2:=(HXr.out.below hbr (by omega)).c 2 rfl;have RTj:=G (RT.out j hjo);have HG:=G (HOG.out j hjo hjl);have hrl:=RLN.out j;rw[List.length_take]at hrl;generalize hr1:eP (wo.take (j+1)) i=r1 at *;have HR1:=G hr1;clear hr1;generalize eP (wo.take j) i=r0 at *;generalize wo[j]=wj at *;obtain⟨q2,hq2⟩:∃q2,(decide (i=1)&&bk)=q2:=⟨_,rfl⟩;obtain⟨kk,hkk,hkl⟩:∃kk:Nat,kk=(if q2=true then ws.length-1-j else j)/\kk<ws.length:=⟨_,rfl,by split<;>omega⟩;have HWJ:=U (wj=ws[kk]) (by rw[HG.out];congr 1;rw[hkk,hq2]);obtain⟨bb,oo,rfl,hbl,hcell⟩:=cV.at 4 LP (by omega) (HTi.out.below hbr) hkl;have ce:=hcell kk hkl i (I J (ws[kk] i)) (LO _ hi4);rw[<-HWJ.out,<-Nat.add_assoc]at ce;generalize wj i=u at *;clear hcell HG hbl hjo;by_cases hq:i=1/\bk=true
   ·obtain⟨h1,rfl⟩:=hq
    have hq3:q2=true:=by rw[<-hq2];simp[h1]
    have hk4:(kk:Int)=(ws.length:Int)-1-(j:Int):=by rw[hkk,if_pos hq3];omega
    have hi1:((i:Int)==1)=true:=by simp;omega
    have HKK:=G hk4;have hk5:(ws.length:Int)-1-(j:Int)=(kk:Int):=hk4.symm;clear hkk hq2 hq3 h1 hk4;have HAL:=G (fun(o:Obj)=>show By wr (wr.alloc o)from ba _ _);by_cases hu:u=0
    ·have qu:(u !=0)=false:=by simpa using hu
     have HS:=U (r1=r0) (by rw[RTj.out,if_pos hu,List.append_nil]);clear hu RTj;go_wp2_with fail;go_roundw
     case rel=>exact⟨j+1,K,k,by omega,by go_num,by rw[HR1.out,HS.out],by rw[HR1.out,HS.out];exact HO.out,HBJ.out⟩
     simp[intOf];omega
    have qu:(u !=0)=true:=by simpa using hu
    have HS:=U (r1=r0++[u]) (by rw[RTj.out,if_neg hu]);clear hu RTj;go_wp2_with(at_builtin;refine aJ _ _ 49 3 (I J 0) 1 8 rfl rfl underlying49 aM rfl (by decide) (by decide) rfl (HO.out.alloc _) rfl (bZ wr [u] _ rfl) (by simp) (aR _) (by omega) (by simp;omega) ?_;intro K5 k5 w5 hown5 hc5 hb5 hg5 hB5);have HO5:=G hown5;have HB5':=G (HBJ.out.trans (((HAL.out _).mono hrs).trans hb5));clear hown5 hc5 hb5 hg5 hB5;go_wp2_with fail;go_roundw
    case rel=>exact⟨j+1,K5,k5,by omega,by go_num,by rw[HR1.out,HS.out,List.length_append];rfl,by rw[HR1.out,HS.out,List.length_append,List.map_append];exact HO5.out,HB5'.out⟩
    simp[intOf];omega
   have hq3:¬q2=true:=by
    rw[<-hq2];intro g;simp at g;exact hq ⟨g.1,g.2⟩
   have hk4:kk=j:=by rw[hkk,if_neg hq3]
   subst hk4;clear hkk hq2 hq3;by_cases h1:i=1
   ·have hi1:((i:Int)==1)=true:=by simp;omega
    obtain rfl:bk=false:=by
     cases bk with
     |false=>rfl
     |true=>exact absurd ⟨h1,rfl⟩ hq
    clear hq h1;have HAL:=G (fun(o:Obj)=>show By wr (wr.alloc o)from ba _ _);by_cases hu:u=0
    ·have qu:(u !=0)=false:=by simpa using hu
     have HS:=U (r1=r0) (by rw[RTj.out,if_pos hu,List.append_nil]);clear hu RTj;go_wp2_with fail;go_roundw
     case rel=>exact⟨kk+1,K,k,by omega,by go_num,by rw[HR1.out,HS.out],by rw[HR1.out,HS.out];exact HO.out,HBJ.out⟩
     simp[intOf];omega
    have qu:(u !=0)=true:=by simpa using hu
    have HS:=U (r1=r0++[u]) (by rw[RTj.out,if_neg hu]);clear hu RTj;go_wp2_with(at_builtin;refine aJ _ _ 49 3 (I J 0) 1 8 rfl rfl underlying49 aM rfl (by decide) (by decide) rfl (HO.out.alloc _) rfl (bZ wr [u] _ rfl) (by simp) (aR _) (by omega) (by simp;omega) ?_;intro K5 k5 w5 hown5 hc5 hb5 hg5 hB5);have HO5:=G hown5;have HB5':=G (HBJ.out.trans (((HAL.out _).mono hrs).trans hb5));clear hown5 hc5 hb5 hg5 hB5;go_wp2_with fail;go_roundw
    case rel=>exact⟨kk+1,K5,k5,by omega,by go_num,by rw[HR1.out,HS.out,List.length_append];rfl,by rw[HR1.out,HS.out,List.length_append,List.map_append];exact HO5.out,HB5'.out⟩
    simp[intOf];omega
   have hi1:((i:Int)==1)=false:=by simp;omega
   clear hq h1;have HAL:=G (fun(o:Obj)=>show By wr (wr.alloc o)from ba _ _);by_cases hu:u=0
   ·have qu:(u !=0)=false:=by simpa using hu
    have HS:=U (r1=r0) (by rw[RTj.out,if_pos hu,List.append_nil]);clear hu RTj;go_wp2_with fail;go_roundw
    case rel=>exact⟨kk+1,K,k,by omega,by go_num,by rw[HR1.out,HS.out],by rw[HR1.out,HS.out];exact HO.out,HBJ.out⟩
    simp[intOf];omega
   have qu:(u !=0)=true:=by simpa using hu
   have HS:=U (r1=r0++[u]) (by rw[RTj.out,if_neg hu]);clear hu RTj;go_wp2_with(at_builtin;refine aJ _ _ 49 3 (I J 0) 1 8 rfl rfl underlying49 aM rfl (by decide) (by decide) rfl (HO.out.alloc _) rfl (bZ wr [u] _ rfl) (by simp) (aR _) (by omega) (by simp;omega) ?_;intro K5 k5 w5 hown5 hc5 hb5 hg5 hB5);have HO5:=G hown5;have HB5':=G (HBJ.out.trans (((HAL.out _).mono hrs).trans hb5));clear hown5 hc5 hb5 hg5 hB5;go_wp2_with fail;go_roundw
   case rel=>exact⟨kk+1,K5,k5,by omega,by go_num,by rw[HR1.out,HS.out,List.length_append];rfl,by rw[HR1.out,HS.out,List.length_append,List.map_append];exact HO5.out,HB5'.out⟩
   simp[intOf];omega
  have hd2:decide ((j:Int)<(ws.length:Int))=false:=by simpa using hjl
  obtain rfl:j=ws.length:=by omega
  have HEND:=U (eP (wo.take ws.length) i=lvi) (by
   rw[LKi.out,<-HOL.out,List.take_length])
  rw[HEND.out]at HO|-;clear RT RLN HOG HOL HEND LKi;have HRf:=G (HR.out.fresh (j:=i) hqs hbr HO.out);have HLP:=G (RD lv i);rw[HLV.out]at HLP;rw[HLP.out]at HRf;have HQ2:=G (aK HQ.out hbr);have HTP:=G (QR A C (lvR lv i) hi4 K k lvi);rw[HLP.out]at HTP;have HKB:=G (fun g(hg:blk K=Z g)=>HO.out.lt g (by rw[dZ];exact hg));have HQB:=G (fun g(hg:blk Q=Z g)=>HQ.out.lt g (by rw[dZ];exact hg));have hrs6:W6.heap.size<=wr.heap.size:=by omega
  have HAL:=G (fun(o:Obj)=>show By wr (wr.alloc o)from ba _ _);go_wp2_with(at_builtin;refine aJ _ _ 145 49 (H N 0 0) 1 24 rfl rfl underlying145 jU rfl (by decide) (by decide) rfl (HQ2.out.alloc _) rfl (bU wr [H K lvi.length k] _ rfl) rfl (by intro v hv;simp at hv;subst hv;rfl) (by omega) (by simp;omega) ?_;intro B9 k9 w9 hown9 hc9 hb9 hg9 hB9);rw[<-HTP.out]at hown9;rw[dZ]at hg9
  have hnb:∀m,m<4->blk (upd A i K m)=N\/blk (upd A i K m)≠blk Q:=fun m hm=>by
   by_cases e:m=i
   ·subst e
    rw[d_];cases hb:blk K with
    |none=>exact .inl rfl
    |some g=>
     right;intro e2;have h1:=(HKB.out g hb).1;have h2:=(HQB.out g e2.symm).2;omega
   rw[eA e];exact HNE.out m hm
  have HR9:=U (R4 w9 W6.heap.size (upd A i K) (upd C i k) (lvR lv (i+1))) (⟨fun m hm=>((HRf.out.own m hm).alloc _).kept hg9 (by rw[dZ];exact hnb m hm),HRf.out.ne⟩)
  have HN9:=U (∀m,m<4->blk (upd A i K m)=N\/blk (upd A i K m)≠blk B9) (fun m hm=>by
   rcases hB9 with rfl|rfl
   ·exact hnb m hm
   ·cases hb:blk (upd A i K m)with
    |none=>exact .inl rfl
    |some g=>
     right
     intro e2
     have h1:=(HRf.out.lt hm hb).2
     have h2:g=(wr.alloc (.cells #[H K lvi.length k] 49)).heap.size:=by injection e2
     simp at h2
     omega)
  have HB9:=G (HBR.out.trans ((hbr.trans ((HAL.out (.cells #[H K lvi.length k] 49)).mono hrs)).mono hqs |>.trans hb9));have HO9:=G hown9;clear hown9 hc9 hb9 hg9 hB9 hnb HRf HQ2 HTP;go_wp2_with fail;go_roundw
  case rel=>exact⟨i+1,_,_,B9,k9,by omega,by go_num,rfl,HR9.out,HO9.out,HN9.out,HB9.out.size,HB9.out⟩
  simp[intOf];omega
 obtain rfl:i=sn:=by omega
 have hd:decide ((i:Int)<(i:Int))=false:=by simp
 have HWL2:=G (WL.out i (lvR lv i) rfl);have HRA:=G (jX HR.out (show i<=4 by omega) (Sl.of_own HQ.out));have HRR:=U ((List.range i).map (lvR lv i)=(List.range i).map lv) (List.map_congr_left fun k hk=>if_pos (List.mem_range.1 hk));have HWL3:=G (WL.out i lv rfl (fun _ _=>rfl) (by omega));have hwl:wl.length=i:=by rw[<-HWL3.out];simp
 have HLEN:=G hwl;have hbf:=HB6.out.trans (hbr.mono (by omega));clear hwl LK HWL2;go_wp2_with fail;go_ret;exact⟨Q,q,by rw[HLEN.out];rfl,by rw[<-HWL3.out,<-HRR.out];exact HRA.out,hbf⟩
theorem XW(E:Oa)(n kE:Nat)(rows:List (Li))(w:Wv)(hE:fI w E rows)(hn:rows.length=n)(M:Nat)(hM:∀x∈rows,x.length<=M)(h4:n<=4)(hMb:M<=33554432):
  Calls prog 93 #[H E n kE] w (bE (cF rows) w):=by
 subst hn;have HE:=G hE;have JL:=G (fun i=>show(cF (rows.take i)).length<=4*(M+1)from Nat.le_trans (sZ (fun x hx=>hM x (List.mem_of_mem_take hx))) (Nat.mul_le_mul_right _ (by rw[List.length_take];omega)));have HMM:=G hM;clear hE hM;go_enter func93,ntmps93;go_wp2_with fail;go_loopw [3,4] (fun u v wr=>∃(i:Nat)(K:Oa)(k:Nat),i<=rows.length/\v=I J i/\u=H K (cF (rows.take i)).length k/\wr.ownsRow w.heap.size 3 1 (H K (cF (rows.take i)).length k) (cF (rows.take i)).length ((cF (rows.take i)).map (Value.int .i64))/\By w wr) (fun _ v _=>rows.length-(intOf v).toNat)
 case atStart=>exact⟨0,N,0,Nat.zero_le _,rfl,rfl,World.ownsRow_nil _ _ _ _,Below.refl _ _⟩
 obtain⟨i,K,k,hi,rfl,rfl,ho,hbr⟩:=hrel;have HO:=G ho;have hrs:=hbr.size;clear ho;by_cases hlt:i<rows.length
 ·obtain⟨bb,oo,C4,c4,rfl,hcell3,hcc,hI⟩:=HE.out.at hlt
  have hcell:=(hbr.cell (p:=⟨bb,oo+i,N⟩) (World.block_lt_of_cell? w _ hcell3)).trans hcell3;have hbl:=World.block_lt_of_cell? w _ hcell3;have HI:=G hI;have HT:=G (yJ hlt);have hj:=JL.out i;have hwl:rows[i].length<=M:=HMM.out _ (List.getElem_mem hlt);have HJ:=G hbr;clear hI hbr hcell3 HE;generalize hj1:cF (rows.take (i+1))=j1 at *;have HJ1:=G hj1;clear hj1;generalize cF (rows.take i)=j0 at *;generalize rows[i]=row at *;have HI1:=G (HI.out.below HJ.out);by_cases h0:i=0
  ·have HT0:=U (j1=j0++row) (by rw[HT.out,if_pos h0,List.append_nil])
   have hi0:decide ((0:Int)<(i:Int))=false:=by simp;omega
   have hi1:¬0<i:=by omega
   have hi2:decide (0<i)=false:=by simpa using hi1
   clear h0 HT;go_wp2_with(at_builtin;refine aJ _ _ 49 3 (I J 0) 1 8 rfl rfl underlying49 aM rfl (by decide) (by decide) rfl HO.out rfl HI1.out (by simp) (aR _) (by omega) hrs ?_;intro K3 k3 w3 hown3 hc3 hb3 hg3 hB3);have HO3:=G hown3;have HB3':=G (HJ.out.trans hb3);clear hown3 hc3 hb3 hg3 hB3;go_wp2_with fail;go_roundw
   case rel=>exact⟨i+1,K3,k3,by omega,by go_num,by rw[HJ1.out,HT0.out,List.length_append],by rw[HJ1.out,HT0.out,List.length_append,List.map_append];exact HO3.out,HB3'.out⟩
   simp[intOf];omega
  have HT0:=U (j1=(j0++[0])++row) (by rw[HT.out,if_neg h0]);clear HT;have hi0:decide ((0:Int)<(i:Int))=true:=by simp;omega
  have HAL:=G (fun(o:Obj)=>show By wr (wr.alloc o)from ba _ _);go_upto_region 7 with(at_builtin;refine aJ _ _ 49 3 (I J 0) 1 8 rfl rfl underlying49 aM rfl (by decide) (by decide) rfl (HO.out.alloc _) rfl (bZ wr [0] _ rfl) (by simp) (aR _) (by omega) (by simp;omega) ?_;intro K3 k3 w3 hown3 hc3 hb3 hg3 hB3)
  have HO3:=G hown3;have hb4:=HJ.out.trans (((HAL.out _).mono hrs).trans hb3);have HJ4:=G hb4;have hrs4:=hb4.size;have HI4:=G (HI.out.below hb4);have hcell4:=(((HAL.out (.cells #[I J 0] 3)).mono hrs).trans hb3).cell (p:=⟨bb,oo+i,N⟩) hbl |>.trans hcell;clear hown3 hc3 hb3 hg3 hB3 hb4 hcell;go_wp2_with(at_builtin;refine aJ _ _ 49 3 (I J 0) 1 8 rfl rfl underlying49 aM rfl (by decide) (by decide) rfl HO3.out rfl HI4.out (by simp) (aR _) (by omega) hrs4 ?_;intro K5 k5 w5 hown5 hc5 hb5 hg5 hB5);have HO5:=G hown5;have HB5':=G (HJ4.out.trans hb5);clear hown5 hc5 hb5 hg5 hB5;go_wp2_with fail;go_roundw
  case rel=>exact⟨i+1,K5,k5,by omega,by go_num,by rw[HJ1.out,HT0.out,List.length_append,List.length_append];rfl,by rw[HJ1.out,HT0.out,List.length_append,List.map_append,List.length_append,List.map_append];exact HO5.out,HB5'.out⟩
  simp[intOf];omega
 obtain rfl:i=rows.length:=by omega
 rw[List.take_length]at HO|-;have HB:=G hbr;clear hbr JL HMM HE;generalize cF rows=j0 at *;go_wp2_with fail;go_ret;exact⟨K,k,rfl,HO.out,HB.out⟩
end
end Go.Proofs.YtpfbnikbebccjaaGreatDoor
