import Derived.Test.YtkhmjidaeliccaaGreatDoorD00
import Derived.Test.YtkhmjidaeliccaaGreatDoorD01
import Derived.Test.YtkhmjidaeliccaaGreatDoorD02
import Derived.Test.YtkhmjidaeliccaaGreatDoorD04
import Derived.Test.YtkhmjidaeliccaaGreatDoorD08
import Derived.Test.YtkhmjidaeliccaaGreatDoorD11
import Derived.Test.YtkhmjidaeliccaaGreatDoorD14
import Derived.Test.YtkhmjidaeliccaaGreatDoorD15
import Derived.Deep.Cut
import Derived.Shelf.Spec.SlicesInsertGrow
import Derived.Shelf.Slices.Delete
import Derived.Shelf.Slices.Cells
import Derived.Shelf.Slices.Empties
import Derived.Test.YtkhmjidaeliccaaGreatDoorProg
set_option maxRecDepth 100000
set_option maxHeartbeats 51200000
namespace Go.Proofs.YtkhmjidaeliccaaGreatDoor
open Option renaming none->N,some->Z
open Value renaming int->I,slice->H
open IntKind renaming i64->J
open Go.Proofs.Tryz
section
open Go.RowKit Go.Maps Go.WideMaps
structure KL(cl:Int->Int)(ent:Li->Option (List Elt))(kn:Bool)(tot b:Nat)(w1:Wv)(t:Li)(A:Oa)(cap:Nat)(W:Wv):Prop where
 eq:Mtc.known cl ent t=kn
 gr:w1.grownBy W (Z b)
 bd:t.length<=tot
 cp:t.length<=cap
 cm:cap<=9223372036854775807
 row:t≠[]->b<w1.heap.size/\∃off pre post,A=Z ⟨b,off,N⟩/\Row W b off 3 pre post t
 io:∀z∈t,iok z
section
variable {cl:Int->Int}{ent:Li->Option (List Elt)}{kn:Bool}{tot b:Nat}{w1:Wv}{t:Li}{A:Oa}{cap:Nat}{W:Wv}
theorem KL.no(h:KL cl ent kn tot b w1 t A cap W)(ht:t≠[])(hm:(Mtc.matched cl ent t).2.2=false):kn=false:=by
 rw[<-h.eq,Mtc.known_step ht,hm];rfl
theorem KL.next(h:KL cl ent kn tot b w1 t A cap W)(ht:t≠[])(hm:(Mtc.matched cl ent t).2.2=true){off:Nat}{pre post:Lv}{W':Wv}(hg:W.grownBy W' (Z b))(hrow:A=Z ⟨b,off,N⟩/\Row W' b off 3 pre post ((Mtc.matched cl ent t).1++(Mtc.matched cl ent t).2.1)):
  KL cl ent kn tot b w1 (Mtc.matched cl ent t).2.1 (eA A cap (Mtc.matched cl ent t).1.length) (cap-(Mtc.matched cl ent t).1.length) W':=by
 obtain⟨hl1,hl2⟩:=Mtc.matched_len (cl:=cl) (ent:=ent) ht;obtain⟨hA,hrow⟩:=hrow;have hcp:=h.cp;have hcm:=h.cm;have hbd:=h.bd;have hmem:=Mtc.matched_mem (cl:=cl) (ent:=ent) (t:=t);have heq:=h.eq;rw[Mtc.known_step ht,hm,Bool.true_and]at heq;have hbl:=(h.row ht).1;have hio:=h.io;have hgr:=h.gr;generalize Mtc.matched cl ent t=mt at *;refine⟨heq,aV hgr hg,by omega,by omega,by omega,fun hne=>⟨hbl,off+mt.1.length,pre++mt.1.map (Value.int .i64),post,?_,?_⟩,fun z hz=>hio z ((hmem z).1 (by simp[hz]))⟩
 ·have:=List.length_pos_iff.2 hne
  unfold eA;rw[if_neg (by omega),hA,Option.map_some,Addr.add_lit]
 refine⟨by rw[List.length_append,List.length_map,hrow.1],?_⟩;have h2:=hrow.2;unfold Blk at h2|-;rw[h2,List.map_append];simp only[List.append_assoc]
theorem KL.first{d:Li}{n:Nat}{wb:Wv}(hA:w1.ownsRow wb.heap.size 3 1 (H A n cap) n (d.map (Value.int .i64)))(hn:d.length=n)(hio:∀z∈d,iok z)(hb:∀g o,A=Z ⟨g,o,N⟩->g=b):KL cl ent (Mtc.known cl ent d) d.length b w1 d A cap w1:=by
 have h:=EL.first (cl:=cl) (ent:=ent) (imp:=fun _=>[]) (b:=b) hA hn hio hb
 exact⟨rfl,h.gr,Nat.le_refl _,h.cp,h.cm,h.row,h.io⟩
end
theorem NK(A0:Oa)(n0 k0:Nat)(A1:Oa)(n1 k1:Nat)(A2:Oa)(n2 k2:Nat)(x:Nrm)(C:Oa)(n a:Nat)(B:Oa)(m b:Nat)(c:Col)(D:Oa)(dn dk:Nat)(t:Li)(w:Wv)(hN:dC w A0 n0 A1 n1 A2 n2 x)(hz:cC x)(hL:cK w)(hC:aY w C n B m c)(hcz:aZ c)(hD:aB w D t)(hn:t.length=dn)(hbig:dn<=16384)(hio:∀z∈t,iok z):
  Calls prog 35 #[.agg #[H A0 n0 k0,H A1 n1 k1,H A2 n2 k2],aS C n a B m b c,H D dn dk] w (eD (fI x c t) w):=by
 subst hn;have B0:By w ((w.alloc (.cells #[H A0 n0 k0,H A1 n1 k1,H A2 n2 k2] 28)).alloc (.cells #[H C n a,H B m b,I J c.base,I J c.second,I J c.third] 32)):=(ba _ _).alloc (by simp) _;have X0:Box ((w.alloc (.cells #[H A0 n0 k0,H A1 n1 k1,H A2 n2 k2] 28)).alloc (.cells #[H C n a,H B m b,I J c.base,I J c.second,I J c.third] 32)) w.heap.size 28 [H A0 n0 k0,H A1 n1 k1,H A2 n2 k2]:=(Box.new w 28 [H A0 n0 k0,H A1 n1 k1,H A2 n2 k2] rfl).below (B:=w.heap.size+1) ((Below.refl _ _).alloc (by simp) _) (by omega);have X1:Box ((w.alloc (.cells #[H A0 n0 k0,H A1 n1 k1,H A2 n2 k2] 28)).alloc (.cells #[H C n a,H B m b,I J c.base,I J c.second,I J c.third] 32)) (w.heap.size+1) 32 [H C n a,H B m b,I J c.base,I J c.second,I J c.third]:=Box.new _ _ _ (by simp);have W0E:∃W0,((w.alloc (.cells #[H A0 n0 k0,H A1 n1 k1,H A2 n2 k2] 28)).alloc (.cells #[H C n a,H B m b,I J c.base,I J c.second,I J c.third] 32))=W0:=⟨_,rfl⟩;have hxi:=rC (x:=x) false hio;have hxl:=jZ x false t;have HE:=U (fI x c t=Mtc.known (cls (usN x).cls) (aC (a_ c).ents) (dtx x false t)) rfl;have MC:=G (fun W(hb:By w W)=>wZ C n a B m b c W (hC.below hb) hcz);have WC:=G (fun W T(hb:By w W)hT0 hT=>AI A0 n0 k0 A1 n1 k1 A2 n2 k2 x T (a_ c) w W hN hz hL hb hT0 hT);have DC:=G (fun W(hb:By w W)=>kW A0 n0 k0 A1 n1 k1 A2 n2 k2 x D t.length dk t false W (hN.below hb) hz (hL.below hb) (hD.below hb) rfl hbig hio);have hcv:=qZ c;have hce:=tL hcv;have hcb:=(iF hcv).2;have hcs:=hz.us.z0;have hca:=zY x;clear hN hz hL hC hcz hD hio hcv;generalize fI x c t=kn at *;generalize dtx x false t=d at *;generalize (usN x).cls=cs at *;unfold aS at *;go_enter func35,ntmps35;go_wp2_with fail;obtain⟨W0,hW0⟩:=W0E;try rw[hW0]at B0 X0 X1|-
 clear hW0;have p00:=X0.c 0 rfl;have p01:=X0.c 1 rfl;have p02:=X0.c 2 rfl;have p10:=X1.c 0 rfl;have p11:=X1.c 1 rfl;have p12:=X1.c 2 rfl;have p13:=X1.c 3 rfl;have p14:=X1.c 4 rfl;have l0:=X0.lt;have l1:=X1.lt;have SH:=G (fun W'(hb':By W0 W')=>show W'.cell? ⟨w.heap.size,0,N⟩=Z (H A0 n0 k0)/\W'.cell? ⟨w.heap.size,1,N⟩=Z (H A1 n1 k1)/\W'.cell? ⟨w.heap.size,2,N⟩=Z (H A2 n2 k2)/\W'.cell? ⟨w.heap.size+1,0,N⟩=Z (H C n a)/\W'.cell? ⟨w.heap.size+1,1,N⟩=Z (H B m b)/\W'.cell? ⟨w.heap.size+1,2,N⟩=Z (I J c.base)/\W'.cell? ⟨w.heap.size+1,3,N⟩=Z (I J c.second)/\W'.cell? ⟨w.heap.size+1,4,N⟩=Z (I J c.third)/\By W0 W' from⟨(hb'.cell l0).trans p00,(hb'.cell l0).trans p01,(hb'.cell l0).trans p02,(hb'.cell l1).trans p10,(hb'.cell l1).trans p11,(hb'.cell l1).trans p12,(hb'.cell l1).trans p13,(hb'.cell l1).trans p14,hb'⟩);have TM:=G (fun W(hb':By W0 W)=>(MC.out W (B0.trans (hb'.mono B0.size))).mono (R':=fun e W'=>∃v,e=.returned v/\(W'.cell? ⟨w.heap.size,0,N⟩=Z (H A0 n0 k0)/\W'.cell? ⟨w.heap.size,1,N⟩=Z (H A1 n1 k1)/\W'.cell? ⟨w.heap.size,2,N⟩=Z (H A2 n2 k2)/\W'.cell? ⟨w.heap.size+1,0,N⟩=Z (H C n a)/\W'.cell? ⟨w.heap.size+1,1,N⟩=Z (H B m b)/\W'.cell? ⟨w.heap.size+1,2,N⟩=Z (I J c.base)/\W'.cell? ⟨w.heap.size+1,3,N⟩=Z (I J c.second)/\W'.cell? ⟨w.heap.size+1,4,N⟩=Z (I J c.third)/\By W0 W')/\(∃T,v=.pointer (Z ⟨T,0,N⟩)/\W.heap.size<=T/\dE W' T (a_ c) (H N 0 0) 0)) (fun e W'⟨T,he,g1,g2,g3⟩=>⟨_,he,SH.out W' (hb'.trans (g3.mono hb'.size)),T,rfl,g1,g2⟩));clear p00 p01 p02 p10 p11 p12 p13 p14;refine wp_region_held_drew (S:=fun W'=>W'.cell? ⟨w.heap.size,0,N⟩=Z (H A0 n0 k0)/\W'.cell? ⟨w.heap.size,1,N⟩=Z (H A1 n1 k1)/\W'.cell? ⟨w.heap.size,2,N⟩=Z (H A2 n2 k2)/\W'.cell? ⟨w.heap.size+1,0,N⟩=Z (H C n a)/\W'.cell? ⟨w.heap.size+1,1,N⟩=Z (H B m b)/\W'.cell? ⟨w.heap.size+1,2,N⟩=Z (I J c.base)/\W'.cell? ⟨w.heap.size+1,3,N⟩=Z (I J c.second)/\W'.cell? ⟨w.heap.size+1,4,N⟩=Z (I J c.third)/\By W0 W') (by kernel_rfl) (SH.out _ ((Below.refl _ _).drew)) (fun hHeld=>?_);refine tK 0 12 ?_;refine tK 2 14 ?_;refine qE 1 13 (TM.out _ hHeld.2.2.2.2.2.2.2.2) ?_;clear hHeld;rintro _ W1 hHeld ⟨T,rfl,hT0,hTab⟩;have TW:=G ((WC.out W1 T (B0.trans (hHeld.2.2.2.2.2.2.2.2.mono B0.size)) (by have:=B0.size;have:W0.heap.size<=T:=hT0;omega) hTab).mono (R':=fun e W'=>∃v,e=.returned v/\(W'.cell? ⟨w.heap.size,0,N⟩=Z (H A0 n0 k0)/\W'.cell? ⟨w.heap.size,1,N⟩=Z (H A1 n1 k1)/\W'.cell? ⟨w.heap.size,2,N⟩=Z (H A2 n2 k2)/\W'.cell? ⟨w.heap.size+1,0,N⟩=Z (H C n a)/\W'.cell? ⟨w.heap.size+1,1,N⟩=Z (H B m b)/\W'.cell? ⟨w.heap.size+1,2,N⟩=Z (I J c.base)/\W'.cell? ⟨w.heap.size+1,3,N⟩=Z (I J c.second)/\W'.cell? ⟨w.heap.size+1,4,N⟩=Z (I J c.third)/\By W0 W')/\(v=.pointer (Z ⟨T,0,N⟩)/\(∃A k,dE W' T (a_ c) (H A cs.length k) (eP cs)/\bD W' A cs))) (fun e W'⟨he,h2,h3⟩=>⟨_,he,SH.out W' (hHeld.2.2.2.2.2.2.2.2.trans (jB h3 (show W0.heap.size<=T from hT0) hHeld.2.2.2.2.2.2.2.2.size)),rfl,h2⟩));refine qE 3 15 (TW.out) ?_;clear hHeld;rintro _ W2 hHeld ⟨rfl,AX,kX,hTab2,hSp2⟩;refine tK 4 7 ?_;refine wpAnyH_done (by kernel_rfl) ?_ _;have hb2:=hHeld.2.2.2.2.2.2.2.2;have hbw2:=B0.trans (hb2.mono B0.size);have q00:=hHeld.1;have q01:=hHeld.2.1;have q02:=hHeld.2.2.1;have HT:=G hTab2;have HS:=G hSp2;have KD:=G (DC.out W2 hbw2);have hbd:=hbw2.size;clear hHeld SH TM TW WC MC hTab hTab2 hSp2 DC;go_wp2_with fail;with_reducible refine KD.out.mono ?_
 rintro e W3 ⟨E0,d0,rfl,hown,hb3⟩;have HM:=U (∀b,W2.heap.size<=b->pS T (a_ c) cs AX kX b W2) (fun b hb=>⟨HT.out,HS.out,hb,hca,by omega,hce,⟨hcb.1,hcb.2.1⟩⟩)
 obtain⟨bq,hbq,HBQ⟩:∃bq,W2.heap.size<=bq/\∀g o,E0=Z ⟨g,o,N⟩->g=bq:=by
  cases E0 with
  |none=>exact⟨_,Nat.le_refl _,fun g o h=>by cases h⟩
  |some ad=>
   rcases hown.2 with⟨hv,_⟩|⟨g,cp,cur,hv,h1,_⟩
   ·cases hv
   injection hv with hv;injection hv with hv;subst hv;exact⟨g,h1,fun g' o h=>by injection h with h;injection h with h1 h2;exact h1.symm⟩
 have HF:=G (KL.first (cl:=cls cs) (ent:=aC (a_ c).ents) hown rfl hxi HBQ);rw[<-HE.out]at HF;have MT:=G (HM.out bq hbq);clear HM HBQ hown KD q00 q01 q02 HT HS;go_wp2_with fail;go_loopw [8] (fun v wr=>∃(t':Li)(A':Oa)(cap':Nat),v=H A' t'.length cap'/\KL (cls cs) (aC (a_ c).ents) kn d.length bq W3 t' A' cap' wr) (fun v _=>pH v)
 case atStart=>exact⟨d,E0,d0,rfl,HF.out⟩
 obtain⟨t',A',cap',rfl,hel⟩:=hrel;have HL:=G hel;have HGR:=G hel.gr;have hcp:=hel.cp;have hcm:=hel.cm;have hbd2:=hel.bd;have hwsz:=hel.gr.size;have hwr:By W2 wr:=hb3.trans (jB hel.gr hbq hb3.size);by_cases hne:t'=[]
 ·have hes:=hel.eq
  rw[hne]at hes;have hlt:t'.length=0:=by rw[hne];rfl
  have hbb:=hbw2.trans (hwr.mono hbw2.size);clear hel HL;subst hne;subst hes;go_wp2_with fail;go_ret;exact⟨rfl,hbb⟩
 have hpos:=List.length_pos_iff.2 hne;obtain⟨hbl,off,pre,post,rfl,hrow⟩:=hel.row hne;have TC:=G (zR T (a_ c) cs AX kX bq off cap' pre post t' W2 wr MT.out hwr hrow hne (by omega) hcp hcm hel.io);have ML:=Mtc.matched_len (cl:=cls cs) (ent:=aC (a_ c).ents) hne;have NO:=G (fun hm=>hel.no hne hm);have NX:=G (fun(W':Wv) (off:Nat) (pre post:Lv) hm hg hrow=>HL.out.next hne hm (off:=off) (pre:=pre) (post:=post) (W':=W') hg hrow);unfold nX pY at TC;have hlt:decide ((0:Int)<(t'.length:Int))=true:=by simpa using hpos
 clear hel HL hrow;generalize hmt:Mtc.matched (cls cs) (aC (a_ c).ents) t'=mt at *;clear hmt;generalize hpt:Mtc.ofPart (aC (a_ c).ents) (aO (a_ c)) mt.1 mt.2.2=pt at *;clear hpt;obtain⟨m1,m2,mk⟩:=mt;dsimp only at *;have hcut:=fun(W:Wv)=>yV (Z ⟨bq,off,N⟩) t'.length cap' m1.length (by omega) W
 go_wp2_with fail;with_reducible refine TC.out.mono ?_
 rintro e W4 ⟨E4,d4,rfl,hE4,hrow4,hg4⟩;have hwr4:=hbw2.trans (((hb3.trans (jB (aV (show W3.grownBy wr (Z bq)from HGR.out) hg4) hbq hb3.size))).mono hbw2.size);cases mk with
 |false=>
  have hkn:=NO.out rfl;subst hkn;clear NX NO TC hE4 hrow4;go_wp2_with fail;go_ret;exact⟨rfl,hwr4⟩
 |true=>
  have HL5:=G (NX.out W4 off pre post rfl hg4 ⟨rfl,hrow4⟩);clear hE4 hrow4 hg4 NX NO TC hwr4;go_wp2_with fail;go_roundw
  case rel=>exact⟨m2,_,_,by rw[show t'.length-m1.length=m2.length by omega],HL5.out⟩
  simp[pH];omega
end
namespace Pk
open Go.RowKit
theorem cmp_neg:∀u v:Li,aA u v=-aA v u
 | [],[]=>rfl
 | [],_::_=>rfl
 |_::_,[]=>rfl
 |a::u,b::v=>by
  unfold aA;by_cases h:a<b
  ·rw[if_pos h,if_neg (by omega),if_pos h]
  rw[if_neg h];by_cases h2:b<a
  ·rw[if_pos h2,if_pos h2];rfl
  rw[if_neg h2,if_neg h2,if_neg h,cmp_neg u v]
theorem cmp_strip:∀p u v:Li,aA (p++u) (p++v)=aA u v
 | [],_,_=>rfl
 |a::p,u,v=>by
  rw[List.cons_append,List.cons_append];conv=>lhs;unfold aA
  rw[if_neg (by omega),if_neg (by omega),cmp_strip p]
def fst(u:Li):Int:=u.head?.getD 0
def low(m:Int)(q:Nat):Li:=if q=0 then []else [m+q-1]
def high(m:Int)(q:Nat):Li:=if q=0 then []else [m+15-q]
def pk(m:Int):Nat->Li->Li
 |q,[]=>low m q
 |q,x::r=>if x=m then(if q=7 then(m+7)::pk m 0 r else pk m (q+1) r)else if x<m then low m q++x::pk m 0 r else high m q++(x+14)::pk m 0 r
def Te(s t:Li):Prop:=(s=[]/\t=[])\/∃a b,s=0::a/\t=0::b
theorem Te.fst{s t:Li}(h:Te s t):Pk.fst s=0/\Pk.fst t=0:=by
 rcases h with⟨rfl,rfl⟩|⟨a,b,rfl,rfl⟩<;>exact⟨rfl,rfl⟩
section
variable {m:Int}
end
def b4(x:Int):Li:=[x/16777216,x/65536%256,x/256%256,x%256]
def vb(x:Int):Li:=if x<64 then [x]else if x<16384 then [64+x/256,x%256]else [128,x/65536,x/256%256,x%256]
end Pk
namespace Tl
open Go.RowKit
theorem fe_zero:∀(l:Li),gV l=0 ↔ ∀x∈l,x=0
 | []=>by simp[gV]
 |x::r=>by
  unfold gV
  by_cases h:x=0
  ·rw[if_pos h,fe_zero r]
   constructor
   ·intro g y hy
    rcases List.mem_cons.1 hy with rfl|hy
    ·exact h
    exact g y hy
   exact fun g y hy=>g y (List.mem_cons_of_mem _ hy)
  rw[if_neg h];exact⟨fun g=>absurd g h,fun g=>absurd (g x (by simp)) h⟩
structure NOkE(base:Int)(x:Ent):Prop where
 c1:1<=x.codes.length
 c8:x.codes.length<=8
 e16:x.elems.length<=16
 cv:∀z∈x.codes,0<=z/\z<=1114111
 ev:∀e∈x.elems,EOk e
 eb:∀e∈x.elems,e.p<base
theorem ent_iff(base:Int)(x:Ent):bJ base x=0 ↔ NOkE base x:=by
 unfold bJ;constructor
 ·intro h
  split at h
  ·cases h
  next h1=>
  split at h
  ·cases h
  next h2=>
  split at h
  ·next h3=>exact absurd h h3
  next h3=>
  split at h
  ·cases h
  next h4=>
  have h5:=(fe_zero _).1 (Classical.not_not.1 h3);refine⟨by omega,by omega,by omega,fun z hz=>?_,fun e he=>(eok_iff e).1 (h5 _ (List.mem_map.2 ⟨e,he,rfl⟩)),fun e he=>?_⟩
  ·simp at h2;exact h2 z hz
  simp at h4;exact h4 e he
 intro h;have h1:=h.c1;have h2:=h.c8;have h3:=h.e16;rw[if_neg (by omega),if_neg (by simp;exact h.cv),if_neg,if_neg (by simp;exact h.eb)];refine Classical.not_not.2 ((fe_zero _).2 fun y hy=>?_);obtain⟨e,he,rfl⟩:=List.mem_map.1 hy;exact(eok_iff e).2 (h.ev e he)
theorem ents_of{base:Int}:∀{es:List Ent}{p:Option Ent},(∀x∈es,bJ base x=0)->es.Pairwise (fun x y=>aA x.codes y.codes<0)->(∀y,p=Z y->∀x∈es,aA y.codes x.codes<0)->dR base es p=0
 | [],_,_,_,_=>rfl
 |x::r,p,h,hp,hq=>by
  obtain⟨h1,h2⟩:=List.pairwise_cons.1 hp;have ih:=ents_of (es:=r) (p:=Z x) (fun y hy=>h y (List.mem_cons_of_mem _ hy)) h2 (fun y e z hz=>by injection e with e;subst e;exact h1 z hz);unfold dR;rw[if_neg (by rw[h x (by simp)];omega)];cases p with
  |none=>exact ih
  |some y=>
   have:=hq y rfl x (by simp);dsimp only;rw[if_neg (by omega)];exact ih
theorem ents_all{base:Int}:∀{es:List Ent}{p:Option Ent},dR base es p=0->∀x∈es,bJ base x=0
 |x::r,p,h,y,hy=>by
  obtain⟨h1,_,h3⟩:=vL h;rcases List.mem_cons.1 hy with rfl|hy
  ·exact h1
  exact ents_all h3 y hy
theorem put_mem{es:List Ent}{x y:Ent}:y∈putE es x ↔ y=x\/(y∈es/\y.codes≠x.codes):=by
 unfold putE;simp only[List.mem_append,List.mem_cons,List.mem_filter,decide_eq_true_eq];have hv:=uY y.codes x.codes;have h0:=lP y.codes x.codes;constructor
 ·rintro(⟨h1,h2⟩|h|⟨h1,h2⟩)
  ·exact .inr ⟨h1,fun e=>by rw[h0.2 e]at h2;omega⟩
  ·exact .inl h
  exact .inr ⟨h1,fun e=>by rw[h0.2 e]at h2;omega⟩
 rintro(h|⟨h1,h2⟩)
 ·exact .inr (.inl h)
 have:aA y.codes x.codes≠0:=fun e=>h2 (h0.1 e)
 by_cases g:aA y.codes x.codes<0
 ·exact .inl ⟨h1,g⟩
 exact .inr (.inr ⟨h1,by omega⟩)
theorem put_pair{es:List Ent}{x:Ent}(h:es.Pairwise (fun x y=>aA x.codes y.codes<0)):(putE es x).Pairwise (fun x y=>aA x.codes y.codes<0):=by
 unfold putE;rw[List.pairwise_append,List.pairwise_cons];have hgt:∀b:Ent,0<aA b.codes x.codes->aA x.codes b.codes<0:=fun b hb=>by rw[Pk.cmp_neg];omega
 refine⟨h.filter _,⟨fun b hb=>?_,h.filter _⟩,fun a ha b hb=>?_⟩
 ·have:=(List.mem_filter.1 hb).2
  exact hgt b (by simpa using this)
 have h1:aA a.codes x.codes<0:=by have:=(List.mem_filter.1 ha).2;simpa using this
 rcases List.mem_cons.1 hb with rfl|hb
 ·exact h1
 have:=(List.mem_filter.1 hb).2;exact mU h1 (hgt b (by simpa using this))
theorem put_len(es:List Ent)(x:Ent):(putE es x).length<=es.length+1:=by
 have key:∀l:List Ent,(l.filter (fun y=>decide (aA y.codes x.codes<0))).length+(l.filter (fun y=>decide (0<aA y.codes x.codes))).length<=l.length:=by
  intro l;induction l with
  |nil=>simp
  |cons y l ih=>
   by_cases h1:aA y.codes x.codes<0
   ·rw[List.filter_cons_of_pos (by simpa using h1),List.filter_cons_of_neg (by simp;omega)]
    simp only[List.length_cons];omega
   rw[List.filter_cons_of_neg (by simpa using h1)];by_cases h2:0<aA y.codes x.codes
   ·rw[List.filter_cons_of_pos (by simpa using h2)];simp only[List.length_cons];omega
   rw[List.filter_cons_of_neg (by simpa using h2)];simp only[List.length_cons];omega
 have:=key es;unfold putE;rw[List.length_append,List.length_cons];omega
theorem last_in:∀{es:List Ent},es.Pairwise (fun x y=>aA x.codes y.codes<0)->∀{x:Ent},x∈es->aC es x.codes=Z x.elems
 |y::r,hp,x,hx=>by
  obtain⟨h1,h2⟩:=List.pairwise_cons.1 hp;rw[rY];rcases List.mem_cons.1 hx with rfl|hx
  ·cases hl:aC r x.codes with
   |none=>dsimp only;rw[if_pos rfl]
   |some e=>
    obtain⟨z,hz,e1,_⟩:=jI hl;exact absurd e1.symm (FY (h1 z hz))
  rw[last_in h2 hx]
theorem last_iff{es:List Ent}(hp:es.Pairwise (fun x y=>aA x.codes y.codes<0))(zs:Li)(e:List Elt):aC es zs=Z e ↔ (⟨zs,e⟩:Ent)∈es:=by
 constructor
 ·intro h
  obtain⟨x,hx,h1,h2⟩:=jI h;obtain⟨xc,xe⟩:=x;dsimp only at h1 h2;subst h1;subst h2;exact hx
 intro h;exact last_in hp h
theorem last_put{es:List Ent}{x:Ent}(hp:es.Pairwise (fun x y=>aA x.codes y.codes<0))(zs:Li):aC (putE es x) zs=if zs=x.codes then Z x.elems else aC es zs:=by
 split
 ·next h=>
  rw[h];exact last_in (put_pair hp) (put_mem.2 (.inl rfl))
 next h=>
 cases hl:aC es zs with
 |some e=>
  exact(last_iff (put_pair hp) _ _).2 (put_mem.2 (.inr ⟨(last_iff hp _ _).1 hl,h⟩))
 |none=>
  cases hl2:aC (putE es x) zs with
  |none=>rfl
  |some e=>
   rcases put_mem.1 ((last_iff (put_pair hp) _ _).1 hl2)with q|⟨q,_⟩
   ·rw[<-q]at h;exact absurd rfl h
   rw[(last_iff hp _ _).2 q]at hl;cases hl
theorem last_map{F:Elt->Elt}(es:List Ent)(zs:Li):aC (es.map fun x=>⟨x.codes,x.elems.map F⟩) zs=(aC es zs).map (List.map F):=by
 induction es with
 |nil=>rfl
 |cons x r ih=>
  rw[List.map_cons,rY,rY,ih];cases aC r zs with
  |some e=>rfl
  |none=>
   dsimp only[Option.map];split<;>rfl
theorem grp_of{base:Int}{gs:List Grp}(h1:(gs.map Grp.name).Nodup)(h2:∀g∈gs,bW g.name=true)(h3:∀g∈gs,1<=g.lo/\g.lo<=g.hi/\g.hi<base)(h4:gap gs=false):cF base gs=0:=by
 unfold cF;rw[if_neg (by simp;exact h2),if_neg (by simpa using h1),if_neg,if_neg (by rw[h4];decide)];simp;intro g hg;have:=h3 g hg;unfold gD;omega
theorem rsG_name(k w:Int)(g:Grp):(rsG k w g).name=g.name:=by unfold rsG;split<;>rfl
theorem gap_rs(w:Int):∀{gs:List Grp},gap gs=false->gap (gs.map (rsG 1 w))=false
 | [],_=>rfl
 | [_],_=>rfl
 |g::k::r,h=>by
  simp only[gap,Bool.or_eq_false_iff]at h;have ih:=gap_rs w (gs:=k::r) h.2;have h1:k.lo=g.hi+1:=by simpa using h.1
  rw[List.map_cons,List.map_cons];simp only[gap,Bool.or_eq_false_iff];refine⟨?_,ih⟩;have e1:(rsG 1 w k).lo=mvd (w+1) k.lo:=by unfold rsG;rw[if_pos rfl]
  have e2:(rsG 1 w g).hi=mvd w g.hi:=by unfold rsG;rw[if_pos rfl]
  rw[e1,e2,h1];unfold mvd;rw[decide_eq_false_iff_not,Classical.not_not];by_cases h5:w<=g.hi
  ·rw[if_pos (by omega),if_pos h5]
  rw[if_neg (by omega),if_neg h5]
theorem grp_rs{base w l:Int}{gs:List Grp}(hl:l=w\/l=w+1)(hw:w<base)(h:cF base gs=0):cF (mvd l base) (gs.map (rsG 1 w))=0:=by
 obtain⟨h1,h2,h3,h4⟩:=wB h;refine grp_of ?_ ?_ ?_ (gap_rs w h4)
 ·rw[List.map_map,show(Grp.name ∘ rsG 1 w)=Grp.name from funext fun g=>rsG_name 1 w g];exact h1
 ·intro g hg
  obtain⟨k,hk,rfl⟩:=List.mem_map.1 hg;rw[rsG_name];exact h2 k hk
 intro g hg;obtain⟨k,hk,rfl⟩:=List.mem_map.1 hg;have:=h3 k hk;have e1:(rsG 1 w k).lo=mvd (w+1) k.lo:=by unfold rsG;rw[if_pos rfl]
 have e2:(rsG 1 w k).hi=mvd w k.hi:=by unfold rsG;rw[if_pos rfl]
 rw[e1,e2];unfold mvd;split<;>split<;>split<;>omega
theorem rsG_id{k:Int}(hk:k≠1)(w:Int)(gs:List Grp):gs.map (rsG k w)=gs:=by
 refine(List.map_congr_left fun g _=>?_).trans (List.map_id gs);unfold rsG;rw[if_neg hk];rfl
theorem col_of{c:Col}(h1:1<=c.base/\c.base<=65502)(h2:1<=c.second/\c.second<=65535)(h3:1<=c.third/\c.third<=65535)(h4:cF c.base c.grps=0)(h5:dR c.base c.ents N=0):aH c=0:=by
 unfold aH;rw[if_neg,if_neg (by rw[h4];simp)]
 ·exact h5
 rw[fU h2.1 h2.2,fU h3.1 h3.2];simp;omega
theorem over_facts{c:Col}(h:overC c=false):c.base<=65502/\c.second<=65535/\c.third<=65535/\∀x∈c.ents,∀e∈x.elems,bigE e=false:=by
 unfold overC at h;simp only[Bool.or_eq_false_iff,decide_eq_false_iff_not,List.any_eq_false]at h;obtain⟨h1,h2⟩:=h;refine⟨by omega,by omega,by omega,fun x hx e he=>?_⟩;have h5:=h1 x hx;have:=Bool.eq_false_iff.2 h5;exact Bool.eq_false_iff.2 (fun q=>by rw[List.any_eq_false]at this;exact this e he q)
theorem rsE_base{k l base:Int}{e:Elt}(h:e.p<base):(rsE k l e).p<if k=1 then mvd l base else base:=by
 rw[rsE_p];split
 ·exact mvd_lt.2 h
 exact h
theorem room_ents{k w l:Int}{c:Col}(hl:1<=l)(h:aH c=0)(ho:overC (roomC k w l c)=false):∀x∈(roomC k w l c).ents,NOkE (roomC k w l c).base x:=by
 intro x hx;obtain⟨b1,b2,b3,b4⟩:=over_facts ho;have hb:=b4 x hx;obtain⟨y,hy,rfl⟩:=List.mem_map.1 (show x∈c.ents.map (rsEnt k l)from hx);have hy':=(ent_iff c.base y).1 (ents_all (eY h) y hy);refine⟨hy'.c1,hy'.c8,?_,hy'.cv,fun e he=>?_,fun e he=>?_⟩
 ·show(y.elems.map (rsE k l)).length<=16
  rw[List.length_map];exact hy'.e16
 ·have hbe:=hb e he
  obtain⟨e0,h0,rfl⟩:=List.mem_map.1 (show e∈y.elems.map (rsE k l)from he);exact rsE_ok hl (hy'.ev e0 h0) hbe
 obtain⟨e0,h0,rfl⟩:=List.mem_map.1 (show e∈y.elems.map (rsE k l)from he);exact rsE_base (hy'.eb e0 h0)
theorem room_pair{k w l:Int}{c:Col}(h:aH c=0):(roomC k w l c).ents.Pairwise (fun x y=>aA x.codes y.codes<0):=by
 show(c.ents.map (rsEnt k l)).Pairwise _
 rw[List.pairwise_map];exact(mX (eY h)).1
theorem room_ok{k w l:Int}{c:Col}(h:aH c=0)(hl:l=w\/l=w+1)(hw:1<=w)(hb:k=1->w<c.base)(ho:overC (roomC k w l c)=false):aH (roomC k w l c)=0:=by
 obtain⟨b1,b2,b3,b4⟩:=over_facts ho;obtain⟨g1,g2,g3,g4,g5⟩:=iF h;refine col_of ⟨?_,b1⟩ ⟨?_,b2⟩ ⟨?_,b3⟩ ?_ (ents_of (fun x hx=>(ent_iff _ _).2 (room_ents (by omega) h ho x hx)) (room_pair h) (fun y e=>by cases e))
 ·show 1<=if k=1 then mvd l c.base else c.base
  split
  ·exact mvd_pos g2
  exact g2
 ·show 1<=if k=2 then mvd l c.second else c.second
  split
  ·exact mvd_pos g4.1
  exact g4.1
 ·show 1<=if k=3 then mvd l c.third else c.third
  split
  ·exact mvd_pos g5.1
  exact g5.1
 show cF (if k=1 then mvd l c.base else c.base) (c.grps.map (rsG k w))=0
 by_cases hk:k=1
 ·subst hk
  rw[if_pos rfl];exact grp_rs hl (hb rfl) g1
 rw[if_neg hk,rsG_id hk];exact g1
theorem put_ok{c:Col}{x:Ent}(h:aH c=0)(hx:NOkE c.base x):aH { c with ents:=putE c.ents x }=0:=by
 obtain⟨g1,g2,g3,g4,g5⟩:=iF h;refine col_of (c:={ c with ents:=putE c.ents x }) ⟨g2,g3⟩ g4 g5 g1 ?_;refine ents_of (fun y hy=>?_) (put_pair (mX (eY h)).1) (fun y e=>by cases e);rcases put_mem.1 hy with rfl|⟨hy,_⟩
 ·exact(ent_iff _ _).2 hx
 exact ents_all (eY h) y hy
def AncOk(base:Int)(es:List Elt):Prop:=∀e∈es,EOk e/\e.p<base
theorem atE_in{k:Int}{es:List Elt}(h:0<lstK k es es.length):atE k es∈es/\wt k (atE k es)≠0/\lstK k es es.length-1<es.length:=by
 have h1:=lstK_le k es es.length;have hlt:lstK k es es.length-1<es.length:=by omega
 refine⟨?_,lstK_at h,hlt⟩;unfold atE;rw[List.getD_eq_getElem?_getD,List.getElem?_eq_getElem hlt];exact List.getElem_mem hlt
theorem atW_pos{k base:Int}{es:List Elt}(ha:AncOk base es)(h:0<lstK k es es.length):1<=atW k es/\(k=1->atW k es<base):=by
 obtain⟨h1,h2,_⟩:=atE_in h;obtain⟨h3,h4⟩:=ha _ h1;have p0:=h3.p0;have s0:=h3.s0;have t0:=h3.t0;unfold atW at *;constructor
 ·unfold wt at h2|-
  split
  ·next e=>rw[if_pos e]at h2;omega
  next e=>
  rw[if_neg e]at h2;split
  ·next e2=>rw[if_pos e2]at h2;omega
  next e2=>rw[if_neg e2]at h2;omega
 intro e;subst e;exact h4
theorem lst_cases(w:Int)(b:Bool):lst w b=w\/lst w b=w+1:=by unfold lst;split<;>simp
theorem new_len{t:Tlr}{es:List Elt}{c:Col}(h:0<lstK t.lvl es es.length):(newL t es c).length=lstK t.lvl es es.length:=by
 have h1:=lstK_le t.lvl es es.length;unfold newL;simp;omega
theorem new_ok{t:Tlr}{es:List Elt}{c:Col}(hk:t.lvl=1\/t.lvl=2\/t.lvl=3)(h:aH c=0)(ha:AncOk c.base es)(h0:0<lstK t.lvl es es.length)(ho:overC (roomT t es c)=false)(hn:(newL t es c).any bigE=false):∀e∈newL t es c,EOk e/\e.p<(roomT t es c).base:=by
 obtain⟨w1,wb⟩:=atW_pos ha h0;have hlc:=lst_cases (atW t.lvl es) t.bef;obtain⟨a1,a2,_⟩:=atE_in h0;obtain⟨a3,a4⟩:=ha _ a1;obtain⟨b1,b2,b3,b4⟩:=over_facts ho;obtain⟨g1,g2,g3,g4,g5⟩:=iF h;intro e he;have hbig:bigE e=false:=by
  rw[List.any_eq_false]at hn;exact Bool.eq_false_iff.2 (hn e he)
 unfold newL at he;rcases List.mem_append.1 he with he|he
 ·obtain⟨e0,h1,rfl⟩:=List.mem_map.1 he
  obtain⟨h2,h3⟩:=ha e0 (List.mem_of_mem_take h1);exact⟨rsE_ok (by omega) h2 hbig,rsE_base h3⟩
 rw[List.mem_singleton.1 he]at hbig|-;obtain⟨q1,q2,q3⟩:=bigE_false hbig;have s2:1<=(roomT t es c).second:=by
  show 1<=if t.lvl=2 then mvd _ c.second else c.second
  split
  ·exact mvd_pos g4.1
  exact g4.1
 have t2:1<=(roomT t es c).third:=by
  show 1<=if t.lvl=3 then mvd _ c.third else c.third
  split
  ·exact mvd_pos g5.1
  exact g5.1
 have hbase:(roomT t es c).base=if t.lvl=1 then mvd (lst (atW t.lvl es) t.bef) c.base else c.base:=rfl;have p0:=a3.p0;have s0:=a3.s0;have t0:=a3.t0;generalize lst (atW t.lvl es) t.bef=l at *;rcases hk with e1|e1|e1
 ·have eN:newE t.lvl l (roomT t es c) (atE t.lvl es)=⟨l,(roomT t es c).second,(roomT t es c).third,(atE t.lvl es).v⟩:=by unfold newE;rw[if_pos e1]
  rw[eN]at q1 q2 q3|-;rw[if_pos e1]at hbase;have hwlt:=wb e1;refine⟨⟨by dsimp only;omega,q1,by dsimp only;omega,q2,by dsimp only;omega,q3,fun _=>by dsimp only;omega,fun _=>by dsimp only;omega,fun _=>by dsimp only;omega⟩,?_⟩;dsimp only;rw[hbase];unfold mvd;split<;>omega
 ·have eN:newE t.lvl l (roomT t es c) (atE t.lvl es)=⟨(atE t.lvl es).p,l,(roomT t es c).third,(atE t.lvl es).v⟩:=by unfold newE;rw[if_neg (by omega),if_pos e1]
  rw[eN]at q1 q2 q3|-;rw[if_neg (by omega)]at hbase;refine⟨⟨by dsimp only;omega,q1,by dsimp only;omega,q2,by dsimp only;omega,q3,fun _=>by dsimp only;omega,fun _=>by dsimp only;omega,a3.vp⟩,?_⟩;rw[hbase];exact a4
 have eN:newE t.lvl l (roomT t es c) (atE t.lvl es)=⟨(atE t.lvl es).p,(atE t.lvl es).s,l,(atE t.lvl es).v⟩:=by unfold newE;rw[if_neg (by omega),if_neg (by omega)]
 rw[eN]at q1 q2 q3|-;rw[if_neg (by omega)]at hbase;refine⟨⟨by dsimp only;omega,q1,by dsimp only;omega,q2,by dsimp only;omega,q3,a3.ps,fun _=>by dsimp only;omega,a3.vp⟩,?_⟩;rw[hbase];exact a4
def rmC(t:Tlr)(es:List Elt)(c:Col):Col:=if t.lvl=0 then c else roomT t es c
def nwL(t:Tlr)(es:List Elt)(c:Col):List Elt:=if t.lvl=0 then es else newL t es c
structure StpOk(d:Li)(kn:Bool)(es:List Elt)(c:Col)(t:Tlr)(c':Col):Prop where
 d8:d.length<=8
 kn:kn=true
 eq:c'={ rmC t es c with ents:=putE (rmC t es c).ents ⟨d,nwL t es c⟩ }
 lv:t.lvl=0/\es.length<=16\/0<t.lvl/\0<lstK t.lvl es es.length/\lstK t.lvl es es.length<=16/\overC (roomT t es c)=false/\(newL t es c).any bigE=false
theorem stepB_ok{d:Li}{kn:Bool}{es:List Elt}{c:Col}{t:Tlr}{c':Col}(hk:kndT t=true)(h:stepB d kn es c t=(0,c')):StpOk d kn es c t c':=by
 unfold stepB at h;have hk0:0<=t.lvl:=by unfold kndT at hk;simp only[Bool.and_eq_true,decide_eq_true_eq]at hk;exact hk.1.1
 split at h
 ·injection h with h;cases h
 next h1=>
 split at h
 ·injection h with h;cases h
 next h2=>
 have hkn:kn=true:=by cases kn with|true=>rfl|false=>exact absurd (.inl rfl) h2
 split at h
 ·next h3=>
  split at h
  ·injection h with h;cases h
  next h4=>
  injection h with _ h;refine⟨by omega,hkn,?_,.inl ⟨h3,by omega⟩⟩;unfold rmC nwL;rw[if_pos h3,if_pos h3];exact h.symm
 next h3=>
 split at h
 ·injection h with h;cases h
 next h4=>
 split at h
 ·injection h with h;cases h
 next h5=>
 injection h with _ h;refine⟨by omega,hkn,?_,.inr ⟨by omega,?_,by omega,Bool.eq_false_iff.2 fun q=>h5 (.inl q),Bool.eq_false_iff.2 fun q=>h5 (.inr q)⟩⟩
 ·unfold rmC nwL
  rw[if_neg h3,if_neg h3];exact h.symm
 by_cases q:lstK t.lvl es es.length=0
 ·exact absurd (.inr ⟨by omega,q⟩) h2
 omega
section
variable {d:Li}{kn:Bool}{es:List Elt}{c:Col}{t:Tlr}{c':Col}
theorem lvl_cases(hk:kndT t=true)(h:0<t.lvl):t.lvl=1\/t.lvl=2\/t.lvl=3:=by
 unfold kndT at hk;simp only[Bool.and_eq_true,decide_eq_true_eq]at hk;omega
theorem StpOk.rm(h:StpOk d kn es c t c')(_hk:kndT t=true)(hc:aH c=0)(ha:AncOk c.base es):aH (rmC t es c)=0:=by
 unfold rmC;rcases h.lv with⟨h1,_⟩|⟨h1,h2,h3,h4,h5⟩
 ·rw[if_pos h1];exact hc
 rw[if_neg (by omega)];obtain⟨w1,wb⟩:=atW_pos ha h2;exact room_ok hc (lst_cases _ _) w1 wb h4
theorem StpOk.nw(h:StpOk d kn es c t c')(hk:kndT t=true)(hc:aH c=0)(ha:AncOk c.base es):(nwL t es c).length<=16/\∀e∈nwL t es c,EOk e/\e.p<(rmC t es c).base:=by
 unfold rmC nwL;rcases h.lv with⟨h1,h2⟩|⟨h1,h2,h3,h4,h5⟩
 ·rw[if_pos h1,if_pos h1];exact⟨h2,ha⟩
 rw[if_neg (by omega),if_neg (by omega)];exact⟨by rw[new_len h2];exact h3,new_ok (lvl_cases hk h1) hc ha h2 h4 h5⟩
theorem StpOk.valid(h:StpOk d kn es c t c')(hk:kndT t=true)(hc:aH c=0)(ha:AncOk c.base es)(hd:1<=d.length)(hv:∀z∈d,0<=z/\z<=1114111):aH c'=0:=by
 rw[h.eq];obtain⟨n1,n2⟩:=h.nw hk hc ha;exact put_ok (h.rm hk hc ha) ⟨hd,h.d8,n1,hv,fun e he=>(n2 e he).1,fun e he=>(n2 e he).2⟩
theorem StpOk.found(h:StpOk d kn es c t c')(hk:kndT t=true)(hc:aH c=0)(ha:AncOk c.base es)(zs:Li):aC c'.ents zs=if zs=d then Z (nwL t es c)else aC (rmC t es c).ents zs:=by
 rw[h.eq];exact last_put (x:=⟨d,nwL t es c⟩) (mX (eY (h.rm hk hc ha))).1 zs
theorem StpOk.lens(h:StpOk d kn es c t c'):(0<(nwL t es c).length ↔ 0<es.length)/\(nwL t es c).length<=es.length/\c'.grps.length=c.grps.length/\c'.ents.length<=c.ents.length+1:=by
 have hg:(rmC t es c).grps.length=c.grps.length/\(rmC t es c).ents.length=c.ents.length:=by
  unfold rmC;split
  ·exact⟨rfl,rfl⟩
  exact⟨by show(c.grps.map _).length=_;rw[List.length_map],by show(c.ents.map _).length=_;rw[List.length_map]⟩
 have hp:=put_len (rmC t es c).ents ⟨d,nwL t es c⟩;have hn:(0<(nwL t es c).length ↔ 0<es.length)/\(nwL t es c).length<=es.length:=by
  unfold nwL;rcases h.lv with⟨h1,h2⟩|⟨h1,h2,h3,h4,h5⟩
  ·rw[if_pos h1];exact⟨Iff.rfl,Nat.le_refl _⟩
  rw[if_neg (by omega),new_len h2];have:=lstK_le t.lvl es es.length;exact⟨⟨fun _=>by omega,fun _=>h2⟩,this⟩
 refine⟨hn.1,hn.2,?_,?_⟩
 ·rw[h.eq];exact hg.1
 rw[h.eq];show(putE (rmC t es c).ents _).length<=_
 rw[<-hg.2];exact hp
end
theorem known_ok{cl:Int->Int}{c:Col}(h:aH c=0){t:Li}(hk:Mtc.known cl (aC c.ents) t=true):AncOk c.base (Mtc.elems cl (aC c.ents) (aO c) t):=by
 intro e he;rw[Mtc.elems_parts]at he;obtain⟨p,hp,he⟩:=List.mem_flatMap.1 he;have hq:p.2=true:=List.all_eq_true.1 hk p hp;unfold Mtc.ofPart at he;rw[if_pos hq]at he;cases hl:aC c.ents p.1 with
 |none=>rw[hl]at he;cases he
 |some es=>
  rw[hl]at he;obtain⟨x,hx,_,rfl⟩:=jI hl;have hx':=(ent_iff c.base x).1 (ents_all (eY h) x hx);exact⟨hx'.ev e he,hx'.eb e he⟩
end Tl
namespace Tl
open Go.RowKit
theorem lst_c(w:Int)(b:Bool):lst w b=w\/lst w b=w+1:=lst_cases w b
structure Colw(c:Col):Prop where
 p:0<=c.base/\c.base<=65535
 s:0<=c.second/\c.second<=65535
 t:0<=c.third/\c.third<=65535
 e:∀x∈c.ents,∀e∈x.elems,∀k,0<=wt k e/\wt k e<=65535
 g:∀g∈c.grps,0<=g.lo/\g.lo<=65535/\0<=g.hi/\g.hi<=65535
theorem eok_wt{e:Elt}(h:EOk e)(k:Int):0<=wt k e/\wt k e<=65535:=by
 have:=h.p0;have:=h.p1;have:=h.s0;have:=h.s1;have:=h.t0;have:=h.t1;unfold wt;split
 ·omega
 split<;>omega
theorem colw{c:Col}(h:aH c=0):Colw c:=by
 obtain⟨g1,g2,g3,g4,g5⟩:=iF h;have hE:=ents_all (eY h);refine⟨by omega,by omega,by omega,fun x hx e he k=>eok_wt (((ent_iff c.base x).1 (hE x hx)).ev e he) k,fun g hg=>?_⟩;have:=(wB g1).2.2.1 g hg;omega
def fitO(k l w:Int)(c:Col):Bool:=!overC (roomC k w l c)&&decide (l<=65535)
def okX(k l:Int)(xs:List Ent)(i:Nat):Bool:=!((xs.take i).any fun x=>x.elems.any fun e=>bigE (rsE k l e))
def okE(k l:Int)(es:List Elt)(j:Nat):Bool:=!((es.take j).any fun e=>bigE (rsE k l e))
theorem okX_0(k l:Int)(xs:List Ent):okX k l xs 0=true:=rfl
theorem okE_0(k l:Int)(es:List Elt):okE k l es 0=true:=rfl
theorem okE_succ(k l:Int)(es:List Elt){j:Nat}(hj:j<es.length):okE k l es (j+1)=(okE k l es j&&!bigE (rsE k l es[j])):=by
 unfold okE;rw[List.take_add_one,List.getElem?_eq_getElem hj,List.any_append];simp only[Option.toList_some,List.any_cons,List.any_nil,Bool.or_false,Bool.not_or]
theorem okX_succ(k l:Int)(xs:List Ent){i:Nat}(hi:i<xs.length):okX k l xs (i+1)=(okX k l xs i&&okE k l xs[i].elems xs[i].elems.length):=by
 unfold okX okE;rw[List.take_add_one,List.getElem?_eq_getElem hi,List.any_append,List.take_of_length_le (Nat.le_refl _)];simp only[Option.toList_some,List.any_cons,List.any_nil,Bool.or_false,Bool.not_or]
theorem fit_eq(k l w:Int)(c:Col):fitO k l w c=((decide ((roomC k w l c).base<=65502)&&decide ((roomC k w l c).second<=65535)&&decide ((roomC k w l c).third<=65535)&&decide (l<=65535))&&okX k l c.ents c.ents.length):=by
 have e1:(roomC k w l c).ents.any (fun x=>x.elems.any bigE)=!okX k l c.ents c.ents.length:=by
  unfold okX roomC rsEnt;rw[List.take_of_length_le (Nat.le_refl _)];simp[List.any_map,Function.comp_def]
 have e2:∀x y:Int,decide (x<y)=!decide (y<=x):=fun x y=>by
  by_cases h:x<y
  ·rw[decide_eq_true h,decide_eq_false (by omega)];rfl
  rw[decide_eq_false h,decide_eq_true (by omega)];rfl
 unfold fitO overC;rw[e1,e2,e2,e2];generalize decide ((roomC k w l c).base<=65502)=b1;generalize decide ((roomC k w l c).second<=65535)=b2;generalize decide ((roomC k w l c).third<=65535)=b3;generalize decide (l<=65535)=b4;generalize okX k l c.ents c.ents.length=b5;cases b1<;>cases b2<;>cases b3<;>cases b4<;>cases b5<;>rfl
theorem bigE_eq(e:Elt)(h:0<=e.p/\0<=e.s/\0<=e.t):bigE e=!(decide (max (max e.p e.s) e.t<=65535)):=by
 unfold bigE;by_cases h1:max (max e.p e.s) e.t<=65535
 ·rw[decide_eq_true h1,decide_eq_false (by omega),decide_eq_false (by omega),decide_eq_false (by omega)];rfl
 rw[decide_eq_false h1];simp;omega
theorem rsE_nn(k l:Int){e:Elt}(h:∀k,0<=wt k e):0<=(rsE k l e).p/\0<=(rsE k l e).s/\0<=(rsE k l e).t:=by
 have h1:0<=e.p:=h 1;have h2:0<=e.s:=h 2;have h3:0<=e.t:=h 3;refine⟨?_,?_,?_⟩
 ·rw[rsE_p];split;exact(mvd_nn h1).1;exact h1
 ·rw[rsE_s];split;exact(mvd_nn h2).1;exact h2
 rw[rsE_t];split;exact(mvd_nn h3).1;exact h3
def newO(k l:Int)(c:Col)(es:List Elt):List Elt:=(es.take (es.length-1)).map (rsE k l)++[newE k l c (es.getD (es.length-1) ⟨0,0,0,false⟩)]
end Tl
namespace Tl
open Go.RowKit
def AncM(c:Col)(es:List Elt):Prop:=∀e∈es,∃x∈c.ents,e∈x.elems
theorem known_mem{cl:Int->Int}{c:Col}{t:Li}(hk:Mtc.known cl (aC c.ents) t=true):AncM c (Mtc.elems cl (aC c.ents) (aO c) t):=by
 intro e he;rw[Mtc.elems_parts]at he;obtain⟨p,hp,he⟩:=List.mem_flatMap.1 he;have hq:p.2=true:=List.all_eq_true.1 hk p hp;unfold Mtc.ofPart at he;rw[if_pos hq]at he;cases hl:aC c.ents p.1 with
 |none=>rw[hl]at he;cases he
 |some es=>
  rw[hl]at he;obtain⟨x,hx,_,rfl⟩:=jI hl;exact⟨x,hx,he⟩
theorem room_mem{k w l:Int}{c:Col}(ho:overC (roomC k w l c)=false){e:Elt}(he:∃x∈c.ents,e∈x.elems):bigE (rsE k l e)=false:=by
 obtain⟨x,hx,he⟩:=he;exact(over_facts ho).2.2.2 (rsEnt k l x) (List.mem_map.2 ⟨x,hx,rfl⟩) (rsE k l e) (List.mem_map.2 ⟨e,he,rfl⟩)
theorem fit_step{k w l:Int}{c:Col}{es:List Elt}(hk:k=1\/k=2\/k=3)(hc:aH c=0)(ha:AncM c es)(hn:0<es.length):(overC (roomC k w l c)=true\/(newO k l (roomC k w l c) es).any bigE=true) ↔ fitO k l w c=false:=by
 cases ho:overC (roomC k w l c)with
 |true=>simp[fitO,ho]
 |false=>
  have hin:es.getD (es.length-1) ⟨0,0,0,false⟩∈es:=by
   rw[List.getD_eq_getElem?_getD,List.getElem?_eq_getElem (by omega)];exact List.getElem_mem (by omega)
  obtain⟨x,hx,hex⟩:=ha _ hin;have hok:=((ent_iff c.base x).1 (ents_all (eY hc) x hx)).ev _ hex;obtain⟨o1,o2,o3,_⟩:=over_facts ho;have hp:=hok.p1;have hs:=hok.s1;have ht:=hok.t1;have e1:((es.take (es.length-1)).map (rsE k l)).any bigE=false:=by
   rw[List.any_eq_false];intro y hy;obtain⟨e,he,rfl⟩:=List.mem_map.1 hy;rw[room_mem ho (ha e (List.mem_of_mem_take he))];decide
  have e2:bigE (newE k l (roomC k w l c) (es.getD (es.length-1) ⟨0,0,0,false⟩))=decide (65535<l):=by
   generalize es.getD (es.length-1) ⟨0,0,0,false⟩=e at *;generalize roomC k w l c=R at *;unfold newE bigE;rcases hk with rfl|rfl|rfl
   ·rw[if_pos rfl]
    dsimp only;rw[decide_eq_false (by omega:¬65535<R.second),decide_eq_false (by omega:¬65535<R.third)];simp
   ·rw[if_neg (by decide),if_pos rfl]
    dsimp only;rw[decide_eq_false (by omega:¬65535<e.p),decide_eq_false (by omega:¬65535<R.third)];simp
   rw[if_neg (by decide),if_neg (by decide)];dsimp only;rw[decide_eq_false (by omega:¬65535<e.p),decide_eq_false (by omega:¬65535<e.s)];simp
  unfold fitO newO;rw[List.any_append,e1,ho];simp only[List.any_cons,List.any_nil,Bool.or_false,Bool.false_or,e2];by_cases h:65535<l
  ·rw[decide_eq_true h,decide_eq_false (by omega:¬l<=65535)];simp
  rw[decide_eq_false h,decide_eq_true (by omega:l<=65535)];simp
theorem newO_L{t:Tlr}{es:List Elt}{c:Col}(h:0<lstK t.lvl es es.length):newO t.lvl (lst (atW t.lvl es) t.bef) (roomT t es c) (es.take (lstK t.lvl es es.length))=newL t es c:=by
 have h1:=lstK_le t.lvl es es.length;have e:(es.take (lstK t.lvl es es.length)).length=lstK t.lvl es es.length:=by rw[List.length_take];omega
 unfold newO newL atE;rw[e,List.take_take,Nat.min_eq_left (by omega)];congr 3;rw[List.getD_eq_getElem?_getD,List.getD_eq_getElem?_getD,List.getElem?_take,if_pos (by omega)]
end Tl
section
open Go.RowKit Go.Maps Go.WideMaps
theorem yI(C:Oa)(cn ck:Nat)(E:Oa)(en ek:Nat)(D:Oa)(dn dk:Nat)(xs ys:Li)(w:Wv)(hC:aB w C xs)(hD:aB w D ys)(hn:xs.length=cn)(hm:ys.length=dn)(hb1:cn<=1099511627776)(hb2:dn<=1099511627776):
  Calls prog 86 #[.agg #[H C cn ck,H E en ek],H D dn dk] w (bU (aA xs ys) w):=by
 have B0:By w (w.alloc (.cells #[H C cn ck,H E en ek] 75)):=ba _ _;have X0:Box (w.alloc (.cells #[H C cn ck,H E en ek] 75)) w.heap.size 75 [H C cn ck,H E en ek]:=Box.new _ _ _ rfl;have W0E:∃W0,(w.alloc (.cells #[H C cn ck,H E en ek] 75))=W0:=⟨_,rfl⟩;have CK:=G (fun W(hb:By w W)=>vA C D cn dn ck dk xs ys W (hC.below hb) (hD.below hb) hn hm (by omega) (by omega));clear hC hD;generalize aA xs ys=r at *;go_enter func86,ntmps86;go_upto_region 1 with(fail)
 obtain⟨W0,hW0⟩:=W0E;try rw[hW0]at B0 X0|-
 clear hW0;have c0:=X0.c 0 rfl;have CK2:=G (CK.out W0 B0);clear X0 CK;go_wp2_with fail;with_reducible refine CK2.out.mono ?_
 rintro e w1 ⟨rfl,hq⟩;have HB:=G (B0.trans (hq.below.mono B0.size));clear hq c0 B0 CK2;go_wp2_with fail;go_ret;exact⟨rfl,HB.out⟩
structure mN(es:List Ent)(zs:Li)(i:Nat)(f:Bool):Prop where
 le:i<=es.length
 lo:∀t,(ht:t<es.length)->t<i->aA es[t].codes zs<0
 hi:∀t,(ht:t<es.length)->i<=t->0<=aA es[t].codes zs
 fd:f=decide (∃h:i<es.length,aA es[i].codes zs=0)
def tX(es:List Ent)(zs:Li)(w:Wv)(e:Ending)(w':Wv):Prop:=∃(i:Nat)(f:Bool),e=.returned (.tuple #[I J i,.bool f])/\mN es zs i f/\By w w'
theorem D_(A:Oa)(n k:Nat)(D:Oa)(dn dk:Nat)(es:List Ent)(zs:Li)(w:Wv)(hA:gB w A es)(hD:aB w D zs)(hn:es.length=n)(hm:zs.length=dn)(hbig:n<=1048576)(hdb:dn<=1048576)
  (hsz:∀i,(hi:i<es.length)->es[i].codes.length<=1048576) (hasc:es.Pairwise (fun x y=>aA x.codes y.codes<0)) :
  Calls prog 85 #[H A n k,H D dn dk,.func (.func 86) #[] #[]] w (tX es zs w):=by
 subst hn;have HS:=G (List.pairwise_iff_getElem.1 hasc);clear hasc;have HD:=G hD;have HZ:=G hsz;clear hD hsz;go_enter func85,ntmps85;go_wp2
 go_loopw [9,10] (fun u v wr=>∃i j:Nat,i<=j/\j<=es.length/\u=I J i/\v=I J j/\(∀t,(ht:t<es.length)->t<i->aA es[t].codes zs<0)/\(∀t,(ht:t<es.length)->j<=t->0<=aA es[t].codes zs)/\By w wr)
  (fun u v _=>(intOf v).toNat-(intOf u).toNat)
 case atStart=>exact⟨0,es.length,Nat.zero_le _,Nat.le_refl _,rfl,rfl,fun t _ h=>by omega,fun t h1 h2=>by omega,Below.refl _ _⟩
 obtain⟨i,j,hij,hj,rfl,rfl,hlo,hhi,hbel⟩:=hrel;have HLO:=G hlo;have HHI:=G hhi;clear hlo hhi;by_cases hlt:i<j
 ·obtain⟨h,hh,h1,h2,h3⟩:∃h:Nat,((i:Int)+(j:Int))/2=(h:Int)/\i<=h/\h<j/\h<es.length:=⟨(i+j)/2,by omega,by omega,by omega,by omega⟩
  obtain⟨b,o,rfl,_,hcell⟩:=(hA.below hbel).at h3;obtain⟨C,cc,E,ec,c1,c2,hC,_⟩:=hcell h h3;clear hcell;have HO:=G (fun t(ht:t<es.length)(hth:t<h)=>HS.out t h ht h3 hth);have HO2:=G (fun t(ht:t<es.length)(hth:h<t)=>HS.out h t h3 ht hth);have C0:=G (yI C es[h].codes.length cc E es[h].elems.length ec D zs.length dk es[h].codes zs wr hC (HD.out.below hbel) rfl rfl (by have:=HZ.out h h3;omega) (by omega));rw[hm]at C0;clear hC;obtain⟨sc,hsc⟩:∃sc,aA es[h].codes zs=sc:=⟨_,rfl⟩;rw[hsc]at C0;have E2:=G hsc;clear hsc;generalize es[h].codes.length=cl at *;generalize es[h].elems.length=el at *;by_cases hk:sc<0
  ·have hk2:decide (sc<0)=true:=decide_eq_true hk
   have HK:=G hk;clear hk;go_wp2_with(go_at_call 86;refine C0.out.mono ?_;rintro e w1 ⟨rfl,hb1⟩);go_roundw
   case rel=>
    refine⟨h+1,j,by omega,hj,by go_num,rfl,fun t ht g=>?_,HHI.out,hbel.trans (hb1.mono hbel.size)⟩;have hlt:aA es[h].codes zs<0:=by rw[E2.out];exact HK.out
    by_cases e:t=h
    ·subst e;exact hlt
    exact mU (HO.out t ht (by omega)) hlt
   simp[intOf];omega
  have hk2:decide (sc<0)=false:=decide_eq_false hk;have HK:=G hk;clear hk;go_wp2_with(go_at_call 86;refine C0.out.mono ?_;rintro e w1 ⟨rfl,hb1⟩);go_roundw
  case rel=>
   refine⟨i,h,h1,by omega,rfl,rfl,HLO.out,fun t ht g=>?_,hbel.trans (hb1.mono hbel.size)⟩;have hge:¬aA es[h].codes zs<0:=by rw[E2.out];have:=HK.out;omega
   by_cases e:t=h
   ·subst e;omega
   have a1:=HO2.out t ht (by omega);refine Int.not_lt.1 fun h0=>hge (mU a1 h0)
  simp[intOf];omega
 obtain rfl:i=j:=by omega
 by_cases hend:i<es.length
 ·obtain⟨b,o,rfl,_,hcell⟩:=(hA.below hbel).at hend
  obtain⟨C,cc,E,ec,c1,c2,hC,_⟩:=hcell i hend;clear hcell;have C0:=G (yI C es[i].codes.length cc E es[i].elems.length ec D zs.length dk es[i].codes zs wr hC (HD.out.below hbel) rfl rfl (by have:=HZ.out i hend;omega) (by omega));rw[hm]at C0;clear hC
  have HF:=G (show decide (∃h:i<es.length,aA es[i].codes zs=0)=(aA es[i].codes zs==0) by
   rw[Bool.eq_iff_iff];simp only[decide_eq_true_eq,beq_iff_eq];exact⟨fun⟨_,h⟩=>h,fun h=>⟨hend,h⟩⟩)
  generalize es[i].codes.length=cl at *;generalize es[i].elems.length=el at *;obtain⟨sc,hsc⟩:∃sc,aA es[i].codes zs=sc:=⟨_,rfl⟩;have HFS:=G (show(aA es[i].codes zs==0)=(sc==0) by rw[hsc]);rw[hsc]at C0;clear hsc;go_wp2_with(go_at_call 86;refine C0.out.mono ?_;rintro e w1 ⟨rfl,hb1⟩);go_ret2;refine⟨i,_,rfl,⟨hj,HLO.out,HHI.out,?_⟩,hbel.trans (hb1.mono hbel.size)⟩;rw[HF.out,HFS.out]
 go_wp2_with fail;go_ret2;refine⟨i,_,rfl,⟨hj,HLO.out,HHI.out,?_⟩,hbel⟩;simp[hend]
end
section
open Go.Shelf Go.RowKit
theorem mT{b:Nat}{t:TypeId}:∀(vs:Lv)(o:Nat){w:Wv}{cs:Lv},Box w b t cs->o+vs.length<=cs.length->Box (w.setCells b o vs) b t (splice cs o vs)
 | [],o,w,cs,h,_=>by simpa[World.setCells,splice]using h
 |v::r,o,w,cs,h,hl=>by
  rw[List.length_cons]at hl;have h1:=mT r (o+1) (h.set o v) (by rw[List.length_set];omega);have e:splice (cs.set o v) (o+1) r=splice cs o (v::r):=by
   unfold splice;rw[List.length_cons,List.take_set,List.drop_set];rw[if_pos (by omega)];have e1:(cs.take (o+1)).set o v=cs.take o++[v]:=by
    rw[List.take_succ_eq_append_getElem (by omega),List.set_append_right _ _ (by rw[List.length_take];omega),List.length_take,Nat.min_eq_left (by omega),Nat.sub_self];rfl
   rw[e1,List.append_assoc,show o+1+r.length=o+(r.length+1) by omega];rfl
  rw[e]at h1;exact h1
theorem rN{b:Nat}:∀(vs:Lv)(o:Nat){a w:Wv},a.grownBy w (Z b)->a.grownBy (w.setCells b o vs) (Z b)
 | [],_,_,_,h=>h
 |_::r,o,_,_,h=>rN r (o+1) (aV h (bT _ ⟨b,o,N⟩ _))
theorem Box.newA(w:Wv)(t:TypeId)(Z:Array Value):Box (w.alloc (.cells Z t)) w.heap.size t Z.toList:=by
 show(w.heap.push _)[w.heap.size]?=_
 simp
theorem rI{b:Nat}:∀(vs:Lv)(o:Nat){a w:Wv}{r:Option Nat},a.grownBy w r->a.heap.size<=b->a.grownBy (w.setCells b o vs) r
 | [],_,_,_,_,h,_=>h
 |_::r,o,_,_,_,h,hb=>rI r (o+1) (cX h ⟨b,o,N⟩ hb _) hb
end
section
open Go.RowKit Go.Maps Go.WideMaps
def p_(t:TypeId)(k n:Nat)(cs:Lv)(w:Wv)(e:Ending)(w':Wv):Prop:=∃A c,e=.returned (H A n c)/\w'.ownsRow w.heap.size t k (H A n c) n cs/\By w w'
theorem LU:(prog.info? 98).map (fun i=>(i.zero,i.size,i.bytes))=Z (Z (.agg #[.string .empty,I J 0,I J 0]),3,32):=by kernel_rfl
theorem FP(A:Oa)(n k:Nat)(cs:Lv)(w:Wv)(hA:Sl w A cs)(hl:cs.length=n*3)(h1:∀u∈cs,u.oneCell'=true)(hb:n<=1048576):
  Calls prog 88 #[H A n k] w (p_ 98 3 n cs w):=by
 cases A with
 |none=>
  have hz:cs=[]:=by
   cases cs with
   |nil=>rfl
   |cons z r=>obtain⟨b,o,h,_⟩:=hA (by simp);cases h
  subst hz;have hn:n=0:=by simp at hl;omega
  subst hn;have hnil:=fun(W:Wv) n c=>Lib.run_eql_slice_nil (P:=prog) W 30 98 N n c 0 0 underlying30
  go_enter func88,ntmps88;go_wp2;go_ret;exact⟨N,0,rfl,World.ownsRow_nil _ _ _ _,Below.refl _ _⟩
 |some a=>
  have hnil:=fun(W:Wv) n c=>Lib.run_eql_slice_nil (P:=prog) W 30 98 (Z a) n c 0 0 underlying30
  go_enter func88,ntmps88;go_wp2_with(at_builtin;refine cJ _ _ 30 98 (.agg #[.string .empty,I J 0,I J 0]) 3 32 rfl rfl underlying30 LU rfl (by decide) (by decide) rfl (nN [] 98 3 0 w.heap.size rfl rfl (Nat.le_refl _) (by omega)) rfl (Sl.alloc hA _) hl h1 (by omega) (by simp) ?_;intro A1 c1 w1 hown1 hc1 hb1 _ _;simp only[Nat.zero_add,List.nil_append]at hown1 hc1);go_ret;exact⟨A1,c1,rfl,hown1,(ba _ _).trans hb1⟩
theorem LT:(prog.info? 75).map (fun i=>(i.zero,i.size,i.bytes))=Z (Z (.agg #[H N 0 0,H N 0 0]),2,48):=by kernel_rfl
theorem FO(A:Oa)(n k:Nat)(cs:Lv)(w:Wv)(hA:Sl w A cs)(hl:cs.length=n*2)(h1:∀u∈cs,u.oneCell'=true)(hb:n<=1048576):
  Calls prog 89 #[H A n k] w (p_ 75 2 n cs w):=by
 cases A with
 |none=>
  have hz:cs=[]:=by
   cases cs with
   |nil=>rfl
   |cons z r=>obtain⟨b,o,h,_⟩:=hA (by simp);cases h
  subst hz;have hn:n=0:=by simp at hl;omega
  subst hn;have hnil:=fun(W:Wv) n c=>Lib.run_eql_slice_nil (P:=prog) W 29 75 N n c 0 0 underlying29
  go_enter func89,ntmps89;go_wp2;go_ret;exact⟨N,0,rfl,World.ownsRow_nil _ _ _ _,Below.refl _ _⟩
 |some a=>
  have hnil:=fun(W:Wv) n c=>Lib.run_eql_slice_nil (P:=prog) W 29 75 (Z a) n c 0 0 underlying29
  go_enter func89,ntmps89;go_wp2_with(at_builtin;refine cJ _ _ 29 75 (.agg #[H N 0 0,H N 0 0]) 2 48 rfl rfl underlying29 LT rfl (by decide) (by decide) rfl (nN [] 75 2 0 w.heap.size rfl rfl (Nat.le_refl _) (by omega)) rfl (Sl.alloc hA _) hl h1 (by omega) (by simp) ?_;intro A1 c1 w1 hown1 hc1 hb1 _ _;simp only[Nat.zero_add,List.nil_append]at hown1 hc1);go_ret;exact⟨A1,c1,rfl,hown1,(ba _ _).trans hb1⟩
end
end Go.Proofs.YtkhmjidaeliccaaGreatDoor
