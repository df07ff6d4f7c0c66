import Derived.Test.YtpfbnikbebccjaaGreatDoorU00
import Derived.Test.YtpfbnikbebccjaaGreatDoorU02
import Derived.Test.YtpfbnikbebccjaaGreatDoorU04
import Derived.Test.YtpfbnikbebccjaaGreatDoorU06
import Derived.Test.YtpfbnikbebccjaaGreatDoorU11
import Derived.Test.YtpfbnikbebccjaaGreatDoorU14
import Derived.Test.YtpfbnikbebccjaaGreatDoorU15
set_option maxRecDepth 100000
set_option maxHeartbeats 51200000
namespace Go.Proofs.YtpfbnikbebccjaaGreatDoor
open Option renaming none->N,some->Z
open Value renaming int->I,slice->H
open IntKind renaming i64->J
open Go.Proofs.Tryz
section
open Go.RowKit Go.Maps Go.WideMaps
def uX(x:Nrm)(w:Wv)(e:Ending)(w':Wv):Prop:=∃A0 k0 A1 k1 A2 k2,e=.returned (.agg #[H A0 x.cls.length k0,H A1 x.dec.length k1,H A2 x.exc.length k2])/\bA w' A0 x.cls.length A1 x.dec.length A2 x.exc.length x/\By w w'
theorem nK{fn:Func}(hr:fn.results=#[.cell 2 28])(tmps:Array Value)(w:Wv){b:Nat}{v0 v1 v2:Value}(ha:tmps.getD 2 undef=.pointer (Z ⟨b,0,N⟩))
  (c0:w.cell? ⟨b,0,N⟩=Z v0) (c1:w.cell? ⟨b,1,N⟩=Z v1) (c2:w.cell? ⟨b,2,N⟩=Z v2) :
  (results fn tmps).run prog w=.ok (.agg #[v0,v1,v2]) w:=by
 unfold results;rw[hr];simp only[ha,List.mapM_toArray,List.mapM_cons,List.mapM_nil,asAddr];go_simp
theorem bA.empty(w:Wv):bA w N 0 N 0 N 0 ⟨[],[],[]⟩:=⟨Sl.nil _ _,Mps.nil _ _,Sl.nil _ _,rfl,rfl,rfl⟩
theorem DS{x:Nrm}(h:¬bK x=0):usN x=⟨[],[],[]⟩:=if_neg h
theorem DT{x:Nrm}(h:bK x=0):usN x=x:=if_pos h
def usV(x:Nrm)(A0:Oa)(k0:Nat)(A1:Oa)(k1:Nat)(A2:Oa)(k2:Nat):Value:=if bK x=0 then .agg #[H A0 x.cls.length k0,H A1 x.dec.length k1,H A2 x.exc.length k2]else .agg #[H N 0 0,H N 0 0,H N 0 0]
theorem uI{x:Nrm}(A0:Oa)(k0:Nat)(A1:Oa)(k1:Nat)(A2:Oa)(k2:Nat)(h:¬bK x=0):usV x A0 k0 A1 k1 A2 k2=.agg #[H N 0 0,H N 0 0,H N 0 0]:=if_neg h
theorem uJ{x:Nrm}(A0:Oa)(k0:Nat)(A1:Oa)(k1:Nat)(A2:Oa)(k2:Nat)(h:bK x=0):usV x A0 k0 A1 k1 A2 k2=.agg #[H A0 x.cls.length k0,H A1 x.dec.length k1,H A2 x.exc.length k2]:=if_pos h
theorem uH{w:Wv}{A0:Oa}{n0:Nat}{A1:Oa}{n1:Nat}{A2:Oa}{n2:Nat}{x:Nrm}(h:bA w A0 n0 A1 n1 A2 n2 x)(k0 k1 k2:Nat):∃B0 c0 B1 c1 B2 c2,usV x A0 k0 A1 k1 A2 k2=.agg #[H B0 (usN x).cls.length c0,H B1 (usN x).dec.length c1,H B2 (usN x).exc.length c2]/\
  ∀W,By w W->bA W B0 (usN x).cls.length B1 (usN x).dec.length B2 (usN x).exc.length (usN x):=by
 by_cases hc:bK x=0
 ·rw[DT hc,uJ _ _ _ _ _ _ hc]
  exact⟨_,_,_,_,_,_,rfl,fun W hb=>⟨h.s0.below hb,h.s1.below hb,h.s2.below hb,rfl,rfl,rfl⟩⟩
 rw[DS hc,uI _ _ _ _ _ _ hc];exact⟨N,0,N,0,N,0,rfl,fun W _=>bA.empty W⟩
theorem cK.us{x:Nrm}(h:cK x):cK (usN x):=by
 unfold usN;split
 ·exact h
 exact⟨by simp,⟨by simp,fun i hi=>by simp at hi⟩,by simp⟩
theorem AM(A0:Oa)(n0 k0:Nat)(A1:Oa)(n1 k1:Nat)(A2:Oa)(n2 k2:Nat)(x:Nrm)(w:Wv)(hN:bA w A0 n0 A1 n1 A2 n2 x)(hz:cK x):
  Calls prog 126 #[.agg #[H A0 n0 k0,H A1 n1 k1,H A2 n2 k2]] w (fun e w'=>e=.returned (usV x A0 k0 A1 k1 A2 k2)/\By w w'):=by
 obtain⟨hS,hM,hR,rfl,rfl,rfl⟩:=hN;have B0:By w ((w.alloc (.cells #[H A0 x.cls.length k0,H A1 x.dec.length k1,H A2 x.exc.length k2] 28)).alloc (.cells #[H N 0 0,H N 0 0,H N 0 0] 28)):=(ba _ _).alloc (by simp) _
 have X0:Box ((w.alloc (.cells #[H A0 x.cls.length k0,H A1 x.dec.length k1,H A2 x.exc.length k2] 28)).alloc (.cells #[H N 0 0,H N 0 0,H N 0 0] 28)) w.heap.size 28 [H A0 x.cls.length k0,H A1 x.dec.length k1,H A2 x.exc.length k2]:=
  (Box.new w _ [H A0 x.cls.length k0,H A1 x.dec.length k1,H A2 x.exc.length k2] rfl).below (B:=w.heap.size+1) ((Below.refl _ _).alloc (by simp) _) (by omega)
 have X1:Box ((w.alloc (.cells #[H A0 x.cls.length k0,H A1 x.dec.length k1,H A2 x.exc.length k2] 28)).alloc (.cells #[H N 0 0,H N 0 0,H N 0 0] 28)) (w.heap.size+1) 28 [H N 0 0,H N 0 0,H N 0 0]:=Box.new _ _ _ (by simp);have W0E:∃W0,((w.alloc (.cells #[H A0 x.cls.length k0,H A1 x.dec.length k1,H A2 x.exc.length k2] 28)).alloc (.cells #[H N 0 0,H N 0 0,H N 0 0] 28))=W0:=⟨_,rfl⟩;have hN:∀W,By w W->bA W A0 x.cls.length A1 x.dec.length A2 x.exc.length x:=fun W hb=>⟨hS.below hb,hM.below hb,hR.below hb,rfl,rfl,rfl⟩
 have CC:=G (fun W(hb:By w W)=>AJ A0 x.cls.length k0 A1 x.dec.length k1 A2 x.exc.length k2 x W (hN W hb) hz);have UB:=G (uI (x:=x) A0 k0 A1 k1 A2 k2);have UG:=G (uJ (x:=x) A0 k0 A1 k1 A2 k2);clear hN hS hM hR hz;generalize hu:usV x A0 k0 A1 k1 A2 k2=y at *;generalize hc:bK x=c at *;clear hu hc;go_enter func126,ntmps126;go_wp2_with fail;obtain⟨W0,hW0⟩:=W0E;rw[hW0]at B0 X0 X1|-;clear hW0;have s0:=X0.lt;have s1:=X1.lt;have c0:=X0.c 0 rfl;have c1:=X0.c 1 rfl;have c2:=X0.c 2 rfl;go_wp2_with fail;with_reducible refine(CC.out _ B0).mono ?_
 rintro e W1 ⟨rfl,hb1⟩;have Y0:=X0.below hb1 s0;have Y1:=X1.below hb1 s1;have B1:=B0.trans (hb1.mono B0.size);clear c0 c1 c2 X0 X1 B0 hb1;have c0:=Y0.c 0 rfl;have c1:=Y0.c 1 rfl;have c2:=Y0.c 2 rfl;have d0:=Y1.c 0 rfl;have d1:=Y1.c 1 rfl;have d2:=Y1.c 2 rfl;have f0:=Y1.free 0;have f1:=Y1.free 1;have f2:=Y1.free 2;have HB:=G (fun(u0 u1 u2:Value)=>show By w (((W1.setCell ⟨w.heap.size+1,0,N⟩ u0).setCell ⟨w.heap.size+1,1,N⟩ u1).setCell ⟨w.heap.size+1,2,N⟩ u2)from((B1.setCell (by simp) _).setCell (by simp) _).setCell (by simp) _);by_cases h0:c=0
 ·have HY:=G (UG.out h0)
  subst h0;go_wp2_with fail;(try simp only[Exit.inBlock,Exit.then]);refine bodyPost_ret (nK rfl _ _ (b:=w.heap.size+1) (v0:=H A0 x.cls.length k0) (v1:=H A1 x.dec.length k1) (v2:=H A2 x.exc.length k2) rfl (by go_simp) (by go_simp) (by go_simp)) rfl ?_;exact⟨by rw[HY.out],HB.out _ _ _⟩
 have HY:=G (UB.out h0);have h1:(c !=0)=true:=by simpa using h0
 go_wp2_with fail;(try simp only[Exit.inBlock,Exit.then]);refine bodyPost_ret (nK rfl _ _ (b:=w.heap.size+1) (v0:=H N 0 0) (v1:=H N 0 0) (v2:=H N 0 0) rfl (by go_simp) (by go_simp) (by go_simp)) rfl ?_;exact⟨by rw[HY.out],HB.out _ _ _⟩
end
section
open Go.RowKit
theorem ZE(p q:Li)(x y:Int):((p++y::x::q).set (p.length+1) y).set p.length x=p++x::y::q:=by
 rw[List.set_append_right _ _ (by omega),List.set_append_right _ _ (by omega)];simp
theorem tS{w:Wv}{base n c:Nat}{e:TypeId}{A:Oa}{d:Li}(h:w.ownsRow base e 1 (H A n c) n (d.map (Value.int .i64)))(hn:0<n):
  ∃g,A=Z ⟨g,0,N⟩/\base<=g/\d.length=n/\(∀i x,d[i]?=Z x->w.cell? ⟨g,i,N⟩=Z (I J x))/\(∀i,w.frozen? ⟨g,i,N⟩=false):=by
 have hl:d.length=n:=by have:=h.1;simpa using this
 rcases h.2 with⟨hv,rfl⟩|⟨g,cap,cur,hv,hb,_⟩
 ·omega
 injection hv with hA _ hc;subst hA;subst hc;refine⟨g,rfl,hb,hl,fun i x hx=>?_,fun i=>h.frozenAt i⟩;have hi:i<d.length:=(List.getElem?_eq_some_iff.1 hx).1;rw[h.cellAt i (by omega),List.getElem?_map,hx];rfl
theorem WP(A':Oa)(ns ks:Nat)(ss:List Spn)(A:Oa)(nt kt:Nat)(text:Li)(w:Wv)(hS:aZ w A' ss)(hT:aA w A text)
  (hnt:text.length=nt) (hns:ss.length=ns) (hb1:nt<=1048576) (hb2:ns<=1099511627776) :
  Calls prog 127 #[H A' ns ks,H A nt kt] w (bE (Can.srt (clz ss) text) w):=by
 have CC:=G (fun W hb c=>pW A' ns ks ss c W (aZ.below (w:=w) (w':=W) hS hb) hns hb2);have HCL:=G (fun x=>(wH ss x).1);have HT:=G hT;clear hS hT hns;subst hnt;generalize clz ss=cl at *;go_enter func127,ntmps127;go_wp2
 go_loopw [5,6] (fun v u wr=>∃(k c:Nat)(B:Oa),k<=text.length/\u=I J k/\v=H B k c/\wr.ownsRow w.heap.size 3 1 (H B k c) k ((Can.srt cl (text.take k)).map (Value.int .i64))/\By w wr)
  (fun _ u _=>text.length-(intOf u).toNat)
 case atStart=>exact⟨0,0,N,Nat.zero_le _,rfl,rfl,World.ownsRow_nil _ _ _ _,Below.refl _ _⟩
 obtain⟨k,c,B,hk,rfl,rfl,hown,hbel⟩:=hrel;by_cases hlt:k<text.length
 ·obtain⟨b,o,rfl,hcell⟩:=HT.out.at hlt
  have c0:=hcell k hlt;have hbw:b<w.heap.size:=World.block_lt_of_cell? w _ c0;have c1:wr.cell? ⟨b,o+k,N⟩=Z (I J text[k]):=(hbel.cell (p:=⟨b,o+k,N⟩) hbw).trans c0;clear hcell;have HX:=G (List.take_succ_eq_append_getElem hlt);have hlen:(Can.srt cl (text.take k)).length=k:=by rw[Can.srt_len,List.length_take];omega
  generalize text[k]=x at *;have HC0:=G c0;have HLEN:=G hlen;clear c0 hlen;go_wp2_with(at_builtin;refine aJ _ _ 49 3 (I J 0) 1 8 rfl rfl underlying49 aM rfl (by decide) (by decide) rfl (hown.alloc _) rfl (bU wr [I J x] 3 rfl) (by simp) (aR [x]) (by omega) (by have:=hbel.size;simp;omega) ?_;intro B1 c1' w1 hown1 hc1 hb1 _ _;have c2:w1.cell? ⟨b,o+k,N⟩=Z (I J x):=(((hbel.alloc hbel.size _).trans hb1).cell (p:=⟨b,o+k,N⟩) hbw).trans HC0.out);have hB1:By w w1:=(hbel.alloc hbel.size _).trans hb1;have hown2:w1.ownsRow w.heap.size 3 1 (H B1 (k+1) c1') (k+1) ((Can.srt cl (text.take k)++x::[]).map (Value.int .i64)):=by
   rw[List.map_append];exact hown1
  obtain⟨g,rfl,hg,_,_,_⟩:=tS hown2 (by omega);have HOWN:=G hown2;have hbg:¬b=g:=by omega
  clear hown hown1 hown2 hb1 c1 hbel c2;refine(CC.out _ hB1 x).mono ?_;rintro e w2 ⟨rfl,hb2'⟩;have hB2:=hB1.trans (hb2'.mono hB1.size);have HOWN2:=G (aK HOWN.out hb2');clear HOWN hb2' hB1;have HZ:=G (rfl:cl x=cl x);have hz0:=HCL.out x;generalize hzz:cl x=z at *;have HZZ:=G hzz;clear hzz HZ;go_wp2_with fail;obtain⟨wo,rfl⟩:∃wo:Wv,wo=w2:=⟨_,rfl⟩;go_loopw [8] (fun u wr=>∃(p q:Li),u=I J (p.length:Int)/\Can.srt cl (text.take k)=p++q/\(q=[]\/0<z)/\(∀y∈q,z<cl y)/\wr.ownsRow w.heap.size 3 1 (H (Z ⟨g,0,N⟩) (k+1) c1') (k+1) ((p++x::q).map (Value.int .i64))/\By w wr) (fun u _=>(intOf u).toNat)
  case atStart=>exact⟨Can.srt cl (text.take k),[],by rw[HLEN.out],by simp,.inl rfl,(fun y hy=>by cases hy),HOWN2.out,hB2⟩
  obtain⟨p,q,rfl,hpq,hq,hq2,hown3,hB3⟩:=hrel;have HPQ:=G hpq;have HQ:=G hq;have HQ2:=G hq2;have HOWN3:=G hown3;clear hpq hq hq2 hown3 HOWN2 hB2
  have FIN:=G (fun(hp:z=0\/∀u,p.getLast?=Z u->cl u<=z) (W:Wv) (hW:W.ownsRow w.heap.size 3 1 (H (Z ⟨g,0,N⟩) (k+1) c1') (k+1) ((p++x::q).map (Value.int .i64)))=>
   show W.ownsRow w.heap.size 3 1 (H (Z ⟨g,0,N⟩) (k+1) c1') (k+1) ((Can.srt cl (text.take (k+1))).map (Value.int .i64)) by
    rw[HX.out,<-Can.srt_snoc HCL.out HPQ.out (by rw[HZZ.out];exact HQ.out) (by rw[HZZ.out];exact HQ2.out) (by rw[HZZ.out];exact hp)];exact hW)
  rcases List.eq_nil_or_concat p with hp|⟨p',y,hp⟩
  ·subst hp
   have h0:decide ((0:Int)<((([]:Li).length:Nat):Int))=false:=by simp
   go_wp2;go_roundw
   case rel=>exact⟨k+1,c1',Z ⟨g,0,N⟩,by omega,by go_num,rfl,FIN.out (.inr (fun u hu=>by cases hu)) _ HOWN3.out,hB3⟩
   simp[intOf];omega
  subst hp;have hpl:((p'.concat y).length:Int)=(p'.length:Int)+1:=by simp
  rw[hpl];clear hpl;obtain⟨_,hA9,_,hdl,hcells,hfr⟩:=tS HOWN3.out (by omega);injection hA9 with hA9;injection hA9 with hA9;subst hA9;have hml:p'.length+1<k+1:=by rw[<-hdl];simp
  have cy:=hcells p'.length y (by simp);have cx:=hcells (p'.length+1) x (by simp);have fy:=hfr p'.length;have fx:=hfr (p'.length+1);have HSET:=G (ZE p' q x y);have HGL:=G (show(p'.concat y).getLast?=Z y by simp);generalize hm:p'.length=m at *;have HM:=G hm;clear hcells hfr hdl hm;by_cases hz:0<z
  ·go_wp2_with fail
   refine(CC.out _ hB3 y).mono ?_;rintro e w3 ⟨rfl,hb3⟩;have hB4:=hB3.trans (hb3.mono hB3.size);have HOWN4:=G (aK HOWN3.out hb3);obtain⟨_,hA9,_,hdl,hcells,hfr⟩:=tS HOWN4.out (by omega);injection hA9 with hA9;injection hA9 with hA9;subst hA9;have cy':=hcells m y (by simp[<-HM.out]);have cx':=hcells (m+1) x (by simp[<-HM.out]);have fy':=hfr m;have fx':=hfr (m+1);have ct:w3.cell? ⟨b,o+k,N⟩=Z (I J x):=(hB4.cell (p:=⟨b,o+k,N⟩) hbw).trans HC0.out;clear hcells hfr hdl cy cx fy fx hb3 hB3 HOWN3;by_cases hc:z<cl y
   ·have HC:=G hc
    have hd:decide (z<cl y)=true:=by simpa using hc
    clear hc;have HYZ:=G (rfl:cl y=cl y);generalize hcy:cl y=zy at *;have HCY:=G hcy;clear hcy HYZ;have st1:=HOWN4.out.stored (m+1) (I J y);have st2:=st1.1.stored m (I J x);have HST:=G (And.intro st1 st2);clear st1 st2;have hne:¬m=m+1:=by omega
    go_wp2;go_roundw
    case rel=>
     refine⟨p',y::q,by rw[HM.out],by rw[HPQ.out];simp,.inr hz,fun u hu=>?_,?_,?_⟩
     ·rcases List.mem_cons.1 hu with rfl|hu
      ·rw[HCY.out];exact HC.out
      exact HQ2.out u hu
     ·have h:=HST.out.2.1
      have e1:(((p'.concat y++x::q).map (Value.int .i64)).set (m+1) (I J y)).set m (I J x)=(p'++x::y::q).map (Value.int .i64):=by
       rw[<-List.map_set,<-List.map_set,<-HSET.out];simp
      rw[e1]at h;exact h
     exact kD (kD hB4 HST.out.1.2 hg hB4.size) HST.out.2.2 hg (by have:=hB4.size;simpa using this)
    simp[intOf]
   have HC:=G hc;have hd:decide (z<cl y)=false:=by simpa using hc
   clear hc;have HYZ:=G (rfl:cl y=cl y);generalize hcy:cl y=zy at *;have HCY:=G hcy;clear hcy HYZ;go_wp2;go_roundw
   case rel=>exact⟨k+1,c1',Z ⟨g,0,N⟩,by omega,by go_num,rfl,FIN.out (.inr (fun u hu=>by rw[HGL.out]at hu;injection hu with hu;subst hu;rw[HCY.out];have:=HC.out;omega)) _ HOWN4.out,hB4⟩
   simp[intOf];omega
  go_wp2;go_roundw
  case rel=>exact⟨k+1,c1',Z ⟨g,0,N⟩,by omega,by go_num,rfl,FIN.out (.inl (by omega)) _ HOWN3.out,hB3⟩
  simp[intOf];omega
 go_wp2;go_ret;have e1:text.take k=text:=List.take_of_length_le (by omega);have e2:k=text.length:=by omega
 rw[e1]at hown;subst e2;exact⟨B,c,congrArg (fun n=>Ending.returned (H B n c)) (Can.srt_len text).symm,by rw[Can.srt_len];exact hown,hbel⟩
theorem bE.hg{zs:Li}{w w':Wv}{e:Ending}(h:bE zs w e w'):jN zs w e w':=by
 obtain⟨A,c,he,ho,hb⟩:=h;refine⟨A,c,he,?_,Sl.of_own ho,hb⟩;obtain⟨_,_,hv,hc⟩:=gE ho;injection hv with _ _ hv;subst hv;exact hc
theorem UY{w:Wv}{base b:Nat}{e:TypeId}{size n:Nat}{v:Value}{xs:Lv}(h:w.ownsRow base e size v n xs)(hb:b<=base):w.ownsRow b e size v n xs:=by
 refine⟨h.1,?_⟩;rcases h.2 with hn|⟨g,cap,cur,hv,h1,r⟩
 ·exact .inl hn
 exact .inr ⟨g,cap,cur,hv,Nat.le_trans hb h1,r⟩
end
section
open Go.RowKit Go.Maps Go.WideMaps
def flM(x:Nrm)(compat:Bool)(t:Li):Li:=t.flatMap (dcM x.dec compat)
theorem r_{x:Nrm}(h:NOk x)(compat:Bool)(t:Li):(flM x compat t).length<=64*t.length:=by
 unfold flM;induction t with
 |nil=>simp
 |cons c t ih=>have:=wT h.st h.hg h.en h.lo compat c;rw[List.flatMap_cons,List.length_append,List.length_cons];omega
theorem NS(A0:Oa)(n0 k0:Nat)(A1:Oa)(n1 k1:Nat)(A2:Oa)(n2 k2:Nat)(x:Nrm)(A:Oa)(n k:Nat)(t:Li)(compat:Bool)(w:Wv)(hN:bA w A0 n0 A1 n1 A2 n2 x)(hz:cK x)(ho:NOk x)(hA:aA w A t)(hn:t.length=n)(hbig:n<=1048576):
  Calls prog 128 #[.agg #[H A0 n0 k0,H A1 n1 k1,H A2 n2 k2],H A n k,.bool compat] w (jN (flM x compat t) w):=by
 obtain⟨hS,hM,hR,rfl,rfl,rfl⟩:=hN;subst hn;have hz1:x.dec.length<=1048576:=hz.z1.n;have B0:By w (w.alloc (.cells #[H A0 x.cls.length k0,H A1 x.dec.length k1,H A2 x.exc.length k2] 28)):=ba _ _;have X0:Box (w.alloc (.cells #[H A0 x.cls.length k0,H A1 x.dec.length k1,H A2 x.exc.length k2] 28)) w.heap.size 28 [H A0 x.cls.length k0,H A1 x.dec.length k1,H A2 x.exc.length k2]:=Box.new w _ [H A0 x.cls.length k0,H A1 x.dec.length k1,H A2 x.exc.length k2] rfl;have W0E:∃W0,(w.alloc (.cells #[H A0 x.cls.length k0,H A1 x.dec.length k1,H A2 x.exc.length k2] 28))=W0:=⟨_,rfl⟩;have TC:=G (fun W(hb:By w W)=>zAn A1 x.dec.length k1 x.dec compat W (hM.below hb) rfl hz1 (fun i hi=>(hz.z1.e i hi).1) ho.st ho.hg ho.en ho.lo);have RC:=G (fun B c T W(hb:By w W)(hok:gH x.dec compat T)(hr:fI W B T)=>AW A1 x.dec.length k1 x.dec B T.length c T A t.length k t compat W (hM.below hb) rfl hz1 hr hok.1.1 rfl (hA.below hb) rfl hbig (hok.len64 ho.st ho.hg ho.en ho.lo));have HFL:=U (flM x compat t=eG (aB x.dec compat) (iW x.dec compat) t) rfl;clear hS hM hR hz ho hA;generalize flM x compat t=fl at *;go_enter func128,ntmps128;go_wp2_with fail;obtain⟨W0,hW0⟩:=W0E;try rw[hW0]at B0 X0|-
 clear hW0;have p1:=X0.c 1 rfl;have SH:=G (fun W'(hb':By W0 W')=>show W'.cell? ⟨w.heap.size,1,N⟩=Z (H A1 x.dec.length k1)/\By W0 W' from⟨(hb'.cell X0.lt).trans p1,hb'⟩);have TB:=G (fun W(hb':By W0 W)=>(TC.out W (B0.trans (hb'.mono B0.size))).mono (R':=fun e W'=>∃v,e=.returned v/\(W'.cell? ⟨w.heap.size,1,N⟩=Z (H A1 x.dec.length k1)/\By W0 W')/\(∃B c,v=H B (iW x.dec compat).length c/\gH x.dec compat (iW x.dec compat)/\fI W' B (iW x.dec compat)/\By W W')) (fun e W'⟨hok,B,c,he,g1,g2⟩=>⟨_,he,SH.out W' (hb'.trans (g2.mono hb'.size)),B,c,rfl,hok,g1,g2⟩));have RP:=G (fun B c T W(hb':By W0 W)hok hr=>RC.out B c T W (B0.trans (hb'.mono B0.size)) hok hr);clear p1 TC RC X0;generalize iW x.dec compat=T at *;go_wp2_with fail;refine wp_region_held_drew (S:=fun W'=>W'.cell? ⟨w.heap.size,1,N⟩=Z (H A1 x.dec.length k1)/\By W0 W') (by kernel_rfl) (SH.out _ ((Below.refl _ _).drew)) (fun hHeld=>?_);refine tK 0 7 ?_;refine tK 1 8 ?_;refine tK 2 9 ?_;refine tK 3 10 ?_;refine tK 4 11 ?_;refine tK 6 13 ?_;refine tK 7 14 ?_;refine qE 5 12 (TB.out _ hHeld.2) ?_;clear hHeld;rintro _ W1 hHeld ⟨B,c,rfl,hok,hrows,hbe1⟩;have hb1:=hHeld.2;have KR:=G ((RP.out B c _ W1 hb1 hok hrows).mono (R':=fun e W'=>∃v,e=.returned v/\(W'.cell? ⟨w.heap.size,1,N⟩=Z (H A1 x.dec.length k1)/\By W0 W')/\(∃E d,v=H E (eG (aB x.dec compat) T t).length d/\(eG (aB x.dec compat) T t).length<=d/\aA W' E (eG (aB x.dec compat) T t)/\By W1 W')) (fun e W'⟨E,d,he,g1,g2,g3⟩=>⟨_,he,SH.out W' (hb1.trans (g3.mono hb1.size)),E,d,rfl,g1,g2,g3⟩));refine qE 8 15 (KR.out) ?_;clear hHeld;rintro _ W2 hHeld ⟨E,d,rfl,hd,hE,hbe2⟩;refine tK 9 6 ?_;refine wpAnyH_done (by kernel_rfl) ?_ _;have hb9:=B0.trans (hHeld.2.mono B0.size);have HE:=G hE;obtain rfl:=HFL.out;clear hHeld SH TB RP KR hE hrows hbe1 hbe2;go_wp2_with fail;go_ret;exact⟨E,d,rfl,hd,HE.out,hb9⟩
theorem AL(A0:Oa)(n0 k0:Nat)(A1:Oa)(n1 k1:Nat)(A2:Oa)(n2 k2:Nat)(x:Nrm)(A:Oa)(n k:Nat)(t:Li)(compat:Bool)(w:Wv)(hN:bA w A0 n0 A1 n1 A2 n2 x)(hz:cK x)(hA:aA w A t)(hn:t.length=n)(hbig:n<=16384):
  Calls prog 96 #[.agg #[H A0 n0 k0,H A1 n1 k1,H A2 n2 k2],H A n k,.bool compat] w (bE (Can.srt (clz (usN x).cls) (flM (usN x) compat t)) w):=by
 subst hn;have hB:By w (w.alloc (.cells #[H A0 n0 k0,H A1 n1 k1,H A2 n2 k2] 28)):=ba _ _;have hX:Box (w.alloc (.cells #[H A0 n0 k0,H A1 n1 k1,H A2 n2 k2] 28)) w.heap.size 28 [H A0 n0 k0,H A1 n1 k1,H A2 n2 k2]:=Box.new w _ [H A0 n0 k0,H A1 n1 k1,H A2 n2 k2] rfl;have UC:=G (AM A0 n0 k0 A1 n1 k1 A2 n2 k2 x _ (hN.below hB) hz);obtain⟨B0,c0,B1,c1,B2,c2,hv,hNW⟩:=uH hN k0 k1 k2;rw[hv]at UC;have HNW:=G hNW;clear hv hNW;have HB:=G hB;have HX:=G hX;have hzu:=hz.us;have hny:=qG x;have HA:=G hA;clear hN hz hB hX hA;generalize usN x=y at *;have FC:=G (fun W(hb:By w W)=>NS B0 _ c0 B1 _ c1 B2 _ c2 y A t.length k t compat W (HNW.out W hb) hzu hny (HA.out.below hb) rfl (by omega));have hfl:=r_ hny compat t;have SC:=G (fun D l m d W(hb:By w W)(hD:aA W D l)(hm:l.length=m)(hm2:m<=1048576)=>WP B0 y.cls.length c0 y.cls D m d l W (HNW.out W hb).s0 hD hm rfl hm2 (by have:=hzu.z0;omega));clear hzu hny;generalize flM y compat t=fl at *;go_enter func96,ntmps96;have g0:=HX.out.c 0 rfl;have g1:=HX.out.c 1 rfl;have g2:=HX.out.c 2 rfl;go_wp2_with fail;with_reducible refine UC.out.mono ?_
 rintro e W1 ⟨rfl,hb1⟩;have hb:=HB.out.trans (hb1.mono HB.out.size);clear g0 g1 g2 UC HB HX hb1;have hal:=hb.alloc hb.size (.cells #[H B0 y.cls.length c0,H B1 y.dec.length c1,H B2 y.exc.length c2] 28);have hY:Box (W1.alloc (.cells #[H B0 y.cls.length c0,H B1 y.dec.length c1,H B2 y.exc.length c2] 28)) W1.heap.size 28 [H B0 y.cls.length c0,H B1 y.dec.length c1,H B2 y.exc.length c2]:=Box.new W1 _ [H B0 y.cls.length c0,H B1 y.dec.length c1,H B2 y.exc.length c2] rfl;have W2E:∃W0,(W1.alloc (.cells #[H B0 y.cls.length c0,H B1 y.dec.length c1,H B2 y.exc.length c2] 28))=W0:=⟨_,rfl⟩;go_wp2_with fail;obtain⟨W0,hW0⟩:=W2E;try rw[hW0]at hal hY|-
 clear hW0 hb;have p0:=hY.c 0 rfl;have p1:=hY.c 1 rfl;have p2:=hY.c 2 rfl;have SH:=G (fun W'(hb':By W0 W')=>show W'.cell? ⟨W1.heap.size,0,N⟩=Z (H B0 y.cls.length c0)/\W'.cell? ⟨W1.heap.size,1,N⟩=Z (H B1 y.dec.length c1)/\W'.cell? ⟨W1.heap.size,2,N⟩=Z (H B2 y.exc.length c2)/\By W0 W' from⟨(hb'.cell hY.lt).trans p0,(hb'.cell hY.lt).trans p1,(hb'.cell hY.lt).trans p2,hb'⟩);have FB:=G (fun W(hb':By W0 W)=>(FC.out W (hal.trans (hb'.mono hal.size))).mono (R':=fun e W'=>∃v,e=.returned v/\(W'.cell? ⟨W1.heap.size,0,N⟩=Z (H B0 y.cls.length c0)/\W'.cell? ⟨W1.heap.size,1,N⟩=Z (H B1 y.dec.length c1)/\W'.cell? ⟨W1.heap.size,2,N⟩=Z (H B2 y.exc.length c2)/\By W0 W')/\(∃E d,v=H E fl.length d/\fl.length<=d/\aA W' E fl/\By W W')) (fun e W'⟨E,d,he,g1,g2,g3⟩=>⟨_,he,SH.out W' (hb'.trans (g3.mono hb'.size)),E,d,rfl,g1,g2,g3⟩));have SB:=G (fun D d W(hb':By W0 W)(hD:aA W D fl)=>(SC.out D fl fl.length d W (hal.trans (hb'.mono hal.size)) hD rfl (by omega)).mono (R':=fun e W'=>∃v,e=.returned v/\(W'.cell? ⟨W1.heap.size,0,N⟩=Z (H B0 y.cls.length c0)/\W'.cell? ⟨W1.heap.size,1,N⟩=Z (H B1 y.dec.length c1)/\W'.cell? ⟨W1.heap.size,2,N⟩=Z (H B2 y.exc.length c2)/\By W0 W')/\(∃E d,v=H E (Can.srt (clz y.cls) fl).length d/\W'.ownsRow W.heap.size 3 1 (H E (Can.srt (clz y.cls) fl).length d) (Can.srt (clz y.cls) fl).length ((Can.srt (clz y.cls) fl).map (Value.int .i64))/\W.heap.size<=W'.heap.size/\By W W')) (fun e W'⟨E,d,he,g1,g3⟩=>⟨_,he,SH.out W' (hb'.trans (g3.mono hb'.size)),E,d,rfl,g1,g3.size,g3⟩));clear p0 p1 p2 FC SC hY;generalize Can.srt (clz y.cls) fl=sr at *;go_wp2_with fail;refine wp_region_held_drew (S:=fun W'=>W'.cell? ⟨W1.heap.size,0,N⟩=Z (H B0 y.cls.length c0)/\W'.cell? ⟨W1.heap.size,1,N⟩=Z (H B1 y.dec.length c1)/\W'.cell? ⟨W1.heap.size,2,N⟩=Z (H B2 y.exc.length c2)/\By W0 W') (by kernel_rfl) (SH.out _ ((Below.refl _ _).drew)) (fun hHeld=>?_);refine tK 0 10 ?_;refine tK 1 11 ?_;refine tK 2 12 ?_;refine tK 3 13 ?_;refine tK 4 14 ?_;refine qE 5 15 (FB.out _ hHeld.2.2.2) ?_;clear hHeld;rintro _ W2 hHeld ⟨E1,d1,rfl,hd1,hE1,hbe1⟩;have hS2:=hHeld.2.2.2;refine qE 6 16 (SB.out E1 d1 _ hHeld.2.2.2 hE1) ?_;clear hHeld;rintro _ W3 hHeld ⟨E2,d2,rfl,hd2,hE2,hbe2⟩;refine tK 7 6 ?_;refine wpAnyH_done (by kernel_rfl) ?_ _;have hb9:=hal.trans (hHeld.2.2.2.mono hal.size);have hws:w.heap.size<=W2.heap.size:=by have h1:=hal.size;have h2:=hS2.size;omega
 have HE:=G (UY hd2 hws);clear hHeld SH FB SB hE1 hd2 hE2 hbe1 hbe2;go_wp2_with fail;go_ret;exact⟨E2,d2,rfl,HE.out,hb9⟩
theorem VW(A0:Oa)(n0 k0:Nat)(A1:Oa)(n1 k1:Nat)(A2:Oa)(n2 k2:Nat)(x:Nrm)(A:Oa)(n k:Nat)(t:Li)(compat:Bool)(w:Wv)(hN:bA w A0 n0 A1 n1 A2 n2 x)(hz:cK x)(hA:aA w A t)(hn:t.length=n)(hbig:n<=16384):
  Calls prog 96 #[.agg #[H A0 n0 k0,H A1 n1 k1,H A2 n2 k2],H A n k,.bool compat] w (jN (Can.srt (clz (usN x).cls) (flM (usN x) compat t)) w):=(AL A0 n0 k0 A1 n1 k1 A2 n2 k2 x A n k t compat w hN hz hA hn hbig).mono fun _ _ h=>h.hg
theorem zP{ms:List Mp}(hc:gQ ms){compat:Bool}{c:Int}{to:Li}(h:onM ms compat c=Z to):∀e∈to,iok e:=by
 intro e he;unfold onM at h;split at h
 ·next h4=>
  injection h with h;subst h;exact sW ((lJ h4).2 e he).1
 cases hf:aB ms compat c with
 |none=>rw[hf]at h;cases h
 |some m=>
  rw[hf]at h;obtain⟨hm,_⟩:=gR hf;simp only[Option.map_some,Option.some.injEq]at h;rw[kW hm]at h;subst h;exact sW ((hc m hm).2.2 e he)
theorem NT{ms:List Mp}(hc:gQ ms){compat:Bool}{c:Int}{l:Li}(h:bY (onM ms compat) c l):iok c->∀e∈l,iok e:=by
 induction h with
 |leaf h=>intro h1 e he;simp at he;subst he;exact h1
 | @node c to vs h1 h2 _ ih=>
  intro _ e he;obtain⟨v,hv,he⟩:=List.mem_flatten.1 he;obtain⟨i,hi,rfl⟩:=List.getElem_of_mem hv;exact ih i (by omega) hi (zP hc h1 _ (List.getElem_mem (by omega))) e he
theorem NA{x:Nrm}(h:NOk x)(compat:Bool){t:Li}(ht:∀c∈t,iok c):(∀c∈Can.srt (clz x.cls) (flM x compat t),iok c/\dcM x.dec compat c=[c])/\Can.Ok (clz x.cls) (Can.srt (clz x.cls) (flM x compat t)):=by
 refine⟨fun c hc=>?_,Can.srt_ok _⟩;have hm:=(Can.srt_perm (flM x compat t)).mem_iff.1 hc;unfold flM at hm;obtain⟨e,he,hce⟩:=List.mem_flatMap.1 hm;exact⟨NT h.co (oR h.st h.hg h.en compat e) (ht e he) c hce,LD h.st h.hg h.en compat hce⟩
def mkF(f:Int->Option Value):Int->Option Int:=fun c=>(f c).map (fun _=>0)
theorem SG{f:Int->Option Value}{c:Int}:mkF f c=N ↔ f c=N:=by unfold mkF;cases f c<;>simp
theorem SI(f:Int->Option Value)(c:Int)(v:Value):mkF (fun y=>if y=c then Z v else f y)=dP (mkF f) c 0:=by
 funext x;unfold mkF dP;by_cases e:x=c
 ·simp[e]
 simp[e]
theorem xU{a w w':Wv}{r:Option Nat}{B:Nat}(h:a.grownBy w r)(g:Below B w w')(hB:a.heap.size<=B):a.grownBy w' r:=
 ⟨g.os.trans h.os,g.tape.trans h.tape,g.output.trans h.output,Nat.le_trans h.size g.size,fun k hk hne=>(g.block k (Nat.lt_of_lt_of_le hk hB)).trans (h.block k hk hne)⟩
theorem Sl.grownM{W W':Wv}{U:Nat}{A:Oa}{cs:Lv}(h:Sl W A cs)(hg:W.grownBy W' (Z U))(hU:∀o,W.cell? ⟨U,o,N⟩=N):Sl W' A cs:=by
 intro hne;obtain⟨b,o,rfl,hc⟩:=h hne;refine⟨b,o,rfl,fun j u hu=>?_⟩;have h1:=hc j u hu;have hq:b≠U:=fun e=>by rw[e,hU]at h1;cases h1
 exact(World.cell?_of_block (hg.block b (World.block_lt_of_cell? W _ h1) (fun e=>hq (by injection e)))).trans h1
theorem bY.noway{on:Int->Option (Li)}{c:Int}{l:Li}(h:bY on c l):¬cM on c c:=by
 have key:∀{c l},bY on c l->∀d,cM on c d->¬cM on d c:=by
  intro c l h;induction h with
  |leaf h=>
   intro d p _;rcases p.head with⟨to,h1,_⟩|⟨x,⟨to,h1,_⟩,_⟩
   ·rw[h]at h1;cases h1
   rw[h]at h1;cases h1
  | @node c to vs h1 h2 h3 ih=>
   have step:∀x,jJ on c x->∀y,cM on x y->¬cM on y x:=fun x⟨to',g1,g2⟩ y=>by
    rw[h1]at g1;injection g1 with g1;subst g1;obtain⟨i,hi,rfl⟩:=List.getElem_of_mem g2;exact ih i hi (by omega) y
   intro d p q;rcases p.head with e|⟨x,e,p2⟩
   ·have q2:cM on d d:=by
     rcases q.head with e2|⟨y,e2,q3⟩
     ·exact .more (.one e2) e
     exact .more q e
    exact step d e d q2 q2
   have q3:cM on d x:=.more q e;exact step x e d p2 q3
 intro p;exact key h c p p
def uM(ms:List Mp):Li:=fsM ms++(List.range 11172).map (fun i:Nat=>44032+(i:Int))
theorem zAA(ms:List Mp):(uM ms).length=ms.length+11172:=by unfold uM fsM;simp
theorem T_{ms:List Mp}{b:Bool}{c:Int}{to:Li}(h:onM ms b c=Z to):c∈uM ms:=by
 unfold uM;rw[List.mem_append];unfold onM at h;split at h
 ·next h4=>
  right;have hr:44032<=c/\c<=55203:=by
   have h5:=(Hg.kind_range c).2;by_cases h44:Hg.kind c=4
   ·have:=mH h44;omega
   have:=mI (show Hg.kind c=5 by omega);omega
  exact List.mem_map.2 ⟨(c-44032).toNat,List.mem_range.2 (by omega),by omega⟩
 left;cases hf:aB ms b c with
 |none=>rw[hf]at h;cases h
 |some i=>
  obtain⟨hi,h1,_⟩:=gR hf;exact List.mem_map.2 ⟨ms[i],List.getElem_mem hi,h1⟩
structure XM(A0:Oa)(n0 k0:Nat)(A1:Oa)(n1 k1:Nat)(A2:Oa)(n2 k2:Nat)(ms:List Mp)(compat:Bool)(s:Nat)(w:Wv)(n:Nat)(f:Int->Option Value):Prop where
 bN:Box w s 28 [H A0 n0 k0,H A1 n1 k1,H A2 n2 k2]
 bB:Box w (s+1) 4 [.bool compat]
 mp:hZ w (s+2) n f
 bM:Box w (s+3) 219 [.map (Z (s+2))]
 bX:Box w (s+4) 169 [.func (.func 171) #[] #[.pointer (Z ⟨s+3,0,N⟩),.pointer (Z ⟨s,0,N⟩),.pointer (Z ⟨s+1,0,N⟩),.pointer (Z ⟨s+4,0,N⟩)]]
 fd:∀c v,f c=Z v->∃E d l,v=H E l.length d/\l.length<=d/\bY (onM ms compat) c l/\aA w E l
section
variable {A0:Oa}{n0 k0:Nat}{A1:Oa}{n1 k1:Nat}{A2:Oa}{n2 k2:Nat}{ms:List Mp}{compat:Bool}{s:Nat}{w w':Wv}{n:Nat}{f:Int->Option Value}
theorem XM.below(h:XM A0 n0 k0 A1 n1 k1 A2 n2 k2 ms compat s w n f)(hb:By w w'):XM A0 n0 k0 A1 n1 k1 A2 n2 k2 ms compat s w' n f:=
 ⟨h.bN.below hb h.bN.lt,h.bB.below hb h.bB.lt,h.mp.below hb,h.bM.below hb h.bM.lt,h.bX.below hb h.bX.lt,fun c v e=>by
  obtain⟨E,d,l,h1,h2,h3,h4⟩:=h.fd c v e
  exact⟨E,d,l,h1,h2,h3,h4.below hb⟩⟩
theorem XM.belowB{B:Nat}(h:XM A0 n0 k0 A1 n1 k1 A2 n2 k2 ms compat s w n f)(hb:Below B w w')(hB:s+4<B)(hfd:∀c v,f c=Z v->∃E d l,v=H E l.length d/\l.length<=d/\bY (onM ms compat) c l/\aA w' E l):XM A0 n0 k0 A1 n1 k1 A2 n2 k2 ms compat s w' n f:=
 ⟨h.bN.below hb (by omega),h.bB.below hb (by omega),by
  obtain⟨D,⟨es,clock,g1,g2⟩,g3⟩:=h.mp
  exact⟨D,⟨es,clock,(hb.block _ (by omega)).trans g1,g2⟩,g3⟩,h.bM.below hb (by omega),h.bX.below hb (by omega),hfd⟩
theorem XM.put(h:XM A0 n0 k0 A1 n1 k1 A2 n2 k2 ms compat s w n f){m:Nat}{c:Int}{E:Oa}{d:Nat}{l:Li}(hm:hZ w' (s+2) m (fun y=>if y=c then Z (H E l.length d)else f y))(hg:w.grownBy w' (Z (s+2)))
  (hd:l.length<=d) (hf:bY (onM ms compat) c l) (hE:aA w E l):XM A0 n0 k0 A1 n1 k1 A2 n2 k2 ms compat s w' m (fun y=>if y=c then Z (H E l.length d)else f y):=by
 refine⟨h.bN.grown hg (by simp),h.bB.grown hg (by simp),hm,h.bM.grown hg (by simp),h.bX.grown hg (by simp),fun x v e=>?_⟩;by_cases hx:x=c
 ·rw[if_pos hx]at e
  injection e with e;subst hx;exact⟨E,d,l,e.symm,hd,hf,Sl.grownM hE hg h.mp.nocell⟩
 rw[if_neg hx]at e;obtain⟨E',d',l',h1,h2,h3,h4⟩:=h.fd x v e;exact⟨E',d',l',h1,h2,h3,Sl.grownM h4 hg h.mp.nocell⟩
end
structure oF(A0:Oa)(n0 k0:Nat)(A1:Oa)(n1 k1:Nat)(A2:Oa)(n2 k2:Nat)(ms:List Mp)(compat:Bool)(s:Nat)(c:Int)(l:Li)(w:Wv)(n:Nat)(f:Int->Option Value)(E:Oa)(w':Wv)(n':Nat)(f':Int->Option Value):Prop where
 ints:aA w' E l
 st:XM A0 n0 k0 A1 n1 k1 A2 n2 k2 ms compat s w' n' f'
 gr:w.grownBy w' (Z (s+2))
 pot:n'+unmarked (uM ms) (mkF f')<=n+unmarked (uM ms) (mkF f)
 fr:∀x E' m d,f' x=Z (H E' m d)->f x=Z (H E' m d)\/m=0\/∀b o,E'=Z ⟨b,o,N⟩->w.heap.size<=b
 mks:∀x,f' x≠N->f x≠N\/x=c\/cM (onM ms compat) c x
def oG(A0:Oa)(n0 k0:Nat)(A1:Oa)(n1 k1:Nat)(A2:Oa)(n2 k2:Nat)(ms:List Mp)(compat:Bool)(s:Nat)(c:Int)(l:Li)(w:Wv)(n:Nat)(f:Int->Option Value)(e:Ending)(w':Wv):Prop:=
 ∃E d n' f',e=.returned (H E l.length d)/\l.length<=d/\oF A0 n0 k0 A1 n1 k1 A2 n2 k2 ms compat s c l w n f E w' n' f'
def XOk(A0:Oa)(n0 k0:Nat)(A1:Oa)(n1 k1:Nat)(A2:Oa)(n2 k2:Nat)(ms:List Mp)(compat:Bool)(s:Nat)(w0:Wv)(c:Int)(l:Li):Prop:=
 iok c->l.length<=4096->∀(w:Wv)(n:Nat)(f:Int->Option Value),XM A0 n0 k0 A1 n1 k1 A2 n2 k2 ms compat s w n f->Below s w0 w->n+unmarked (uM ms) (mkF f)<=1000000000->
  Calls prog 171 #[I J c,.pointer (Z ⟨s+3,0,N⟩),.pointer (Z ⟨s,0,N⟩),.pointer (Z ⟨s+1,0,N⟩),.pointer (Z ⟨s+4,0,N⟩)] w
   (oG A0 n0 k0 A1 n1 k1 A2 n2 k2 ms compat s c l w n f)
def kZ(f:Int->Option Value)(B:Oa):Prop:=∀x E m d b o b' o',f x=Z (H E m d)->E=Z ⟨b,o,N⟩->B=Z ⟨b',o',N⟩->m=0\/b≠b'
section
variable {A0:Oa}{n0 k0:Nat}{A1:Oa}{n1 k1:Nat}{A2:Oa}{n2 k2:Nat}{ms:List Mp}{compat:Bool}{s:Nat}{w w':Wv}{n:Nat}{f:Int->Option Value}
theorem XM.app(h:XM A0 n0 k0 A1 n1 k1 A2 n2 k2 ms compat s w n f){base m k:Nat}{ty:TypeId}{B:Oa}{xs:Lv}(ho:w.ownsRow base ty 1 (H B m k) m xs)(hap:kZ f B)(hg:w.grownBy w' (Value.ownBlock (H B m k)))(hb:Below base w w')(hB:s+4<base):XM A0 n0 k0 A1 n1 k1 A2 n2 k2 ms compat s w' n f:=by
 refine h.belowB hb hB fun c v e=>?_
 obtain⟨E,d,l,h1,h2,h3,h4⟩:=h.fd c v e;refine⟨E,d,l,h1,h2,h3,fun hne=>?_⟩;obtain⟨b,o,rfl,hc⟩:=h4 hne;refine⟨b,o,rfl,fun j u hu=>?_⟩;have hlt:=World.block_lt_of_cell? w _ (hc j u hu);refine(World.cell?_of_block (hg.block b hlt ?_)).trans (hc j u hu);intro e2;cases B with
 |none=>simp[Value.ownBlock]at e2
 |some a=>
  obtain⟨g,cap,cur,hv⟩:∃g cap cur,(Value.slice (Z a) m k)=H (Z ⟨g,0,N⟩) m cap/\w.heap[g]?=Z (.cells cur ty (0,0)):=by
   rcases ho.2 with⟨hv,_⟩|⟨g,cap,cur,hv,_,hg2,_⟩
   ·cases hv
   exact⟨g,cap,cur,hv,hg2⟩
  have hv1:=hv.1;injection hv1 with hv1;injection hv1 with hv1;subst hv1;simp only[Value.ownBlock,Option.some.injEq]at e2;subst h1;rcases hap c _ _ _ b o g 0 e rfl rfl with h0|h0
  ·have:l=[]:=List.eq_nil_of_length_eq_zero h0
   subst this;exact hne rfl
  exact h0 e2
theorem XM.apart_new(h:XM A0 n0 k0 A1 n1 k1 A2 n2 k2 ms compat s w n f):kZ f (Z ⟨w.heap.size,0,N⟩):=by
 intro x E m d b o b' o' e hE hB;obtain⟨E2,d2,l,h1,h2,h3,h4⟩:=h.fd x _ e;injection h1 with g1 g2 g3;subst g1;subst g2;by_cases h0:l=[]
 ·left;rw[h0];rfl
 right;obtain⟨b2,o2,hA,hc⟩:=h4 (by simpa using h0);rw[hE]at hA;injection hA with hA;injection hA with i1 i2;subst i1;subst i2;injection hB with hB;injection hB with j1 j2;obtain⟨y,r,rfl⟩:∃y r,l=y::r:=by cases l with|nil=>exact absurd rfl h0|cons y r=>exact⟨y,r,rfl⟩
 have:=World.block_lt_of_cell? w _ (hc 0 _ rfl);simp at this;omega
theorem kZ.nil(f:Int->Option Value):kZ f N:=by intro _ _ _ _ _ _ _ _ _ _ h;cases h
end
theorem uN(w:Wv):(zeroValue 49).run prog w=.ok (H N 0 0) w:=by kernel_rfl
theorem lX{a w:Wv}{U B:Nat}(h:a.grownBy w (Z U))(hB:B<=U)(hB2:B<=a.heap.size):Below B a w:=
 ⟨h.os,h.tape,h.output,h.size,fun k hk=>h.block k (by omega) (fun e=>by injection e with e;omega)⟩
theorem NH(vs:List (Li))(i:Nat):(vs.take i).flatten.length<=vs.flatten.length:=by
 conv=>rhs;rw[<-List.take_append_drop i vs,List.flatten_append,List.length_append]
 omega
theorem xN{vs:List (Li)}{i:Nat}(hi:i<vs.length):(vs.take (i+1)).flatten=(vs.take i).flatten++vs[i]:=by
 rw[List.take_succ_eq_append_getElem hi,List.flatten_append,List.flatten_singleton]
structure i_(A0:Oa)(n0 k0:Nat)(A1:Oa)(n1 k1:Nat)(A2:Oa)(n2 k2:Nat)(ms:List Mp)(compat:Bool)(s:Nat)(Q:Int->Prop)(fl:Li)(w w1:Wv)(n:Nat)(f:Int->Option Value)(B:Oa)(k:Nat)(W:Wv)(n':Nat)(f':Int->Option Value):Prop where
 own:W.ownsRow w1.heap.size 3 1 (H B fl.length k) fl.length (fl.map (Value.int .i64))
 st:XM A0 n0 k0 A1 n1 k1 A2 n2 k2 ms compat s W n' f'
 gr:w1.grownBy W (Z (s+2))
 pot:n'+unmarked (uM ms) (mkF f')<=n+unmarked (uM ms) (mkF f)
 fr:∀x E' m d,f' x=Z (H E' m d)->f x=Z (H E' m d)\/m=0\/∀b o,E'=Z ⟨b,o,N⟩->w.heap.size<=b
 mks:∀x,f' x≠N->f x≠N\/Q x
 ap:kZ f' B
section
variable {A0:Oa}{n0 k0:Nat}{A1:Oa}{n1 k1:Nat}{A2:Oa}{n2 k2:Nat}{ms:List Mp}{compat:Bool}{s:Nat}{Q:Int->Prop}{e:Int}{fl l:Li}{w w1:Wv}{n:Nat}{f:Int->Option Value}{B:Oa}{k:Nat}{W:Wv}{n':Nat}{f':Int->Option Value}
theorem i_.lt(h:i_ A0 n0 k0 A1 n1 k1 A2 n2 k2 ms compat s Q fl w w1 n f B k W n' f'):w1.heap.size<=W.heap.size:=h.gr.size
theorem i_.call(h:i_ A0 n0 k0 A1 n1 k1 A2 n2 k2 ms compat s Q fl w w1 n f B k W n' f')(hw:w.heap.size<=w1.heap.size)(hs:s+4<w1.heap.size)(he:∀x,x=e\/cM (onM ms compat) e x->Q x){E:Oa}{W2:Wv}{n2':Nat}{f2:Int->Option Value}
  (p:oF A0 n0 k0 A1 n1 k1 A2 n2 k2 ms compat s e l W n' f' E W2 n2' f2):i_ A0 n0 k0 A1 n1 k1 A2 n2 k2 ms compat s Q fl w w1 n f B k W2 n2' f2:=by
 have hbl:∀g o,B=Z ⟨g,o,N⟩->w1.heap.size<=g/\g<W.heap.size:=by
  intro g o hB;subst hB;rcases h.own.2 with⟨hv,_⟩|⟨g',cap,cur,hv,h1,h2,_⟩
  ·cases hv
  injection hv with hv;injection hv with hv;injection hv with hv;subst hv;exact⟨h1,(Array.getElem?_eq_some_iff.1 h2).1⟩
 refine⟨h.own.kept p.gr ?_,p.st,bF h.gr p.gr,Nat.le_trans p.pot h.pot,fun x E' m d e1=>?_,fun x e1=>?_,?_⟩
 ·cases B with
  |none=>exact .inl rfl
  |some a=>
   right;rcases h.own.2 with⟨hv,_⟩|⟨g',cap,cur,hv,h1,h2,_⟩
   ·cases hv
   injection hv with hv;rw[hv];simp only[Value.ownBlock];intro e2;injection e2 with e2;omega
 ·rcases p.fr x E' m d e1 with e2|e2|e2
  ·exact h.fr x E' m d e2
  ·exact .inr (.inl e2)
  exact .inr (.inr fun b o hb=>by have:=e2 b o hb;have:=h.lt;omega)
 ·rcases p.mks x e1 with e2|e2|e2
  ·exact h.mks x e2
  ·exact .inr (he x (.inl e2))
  exact .inr (he x (.inr e2))
 intro x E' m d b o b' o' e1 hE hB;rcases p.fr x E' m d e1 with e2|e2|e2
 ·exact h.ap x E' m d b o b' o' e2 hE hB
 ·exact .inl e2
 right;have:=e2 b o hE;have:=hbl b' o' hB;omega
theorem i_.app(h:i_ A0 n0 k0 A1 n1 k1 A2 n2 k2 ms compat s Q fl w w1 n f B k W n' f')(hs:s+4<w1.heap.size){B':Oa}{k':Nat}{W':Wv}{zs:Li}
  (ho:W'.ownsRow w1.heap.size 3 1 (H B' (fl.length+zs.length) k') (fl.length+zs.length) (fl.map (Value.int .i64)++zs.map (Value.int .i64))) (hb:Below w1.heap.size W W') (hg:W.grownBy W' (Value.ownBlock (H B fl.length k))) (hB:B'=B\/B'=Z ⟨W.heap.size,0,N⟩) :
  i_ A0 n0 k0 A1 n1 k1 A2 n2 k2 ms compat s Q (fl++zs) w w1 n f B' k' W' n' f':=by
 refine⟨by rw[List.length_append,List.map_append];exact ho,h.st.app h.own h.ap hg hb hs,xU h.gr hb (Nat.le_refl _),h.pot,h.fr,h.mks,?_⟩;rcases hB with rfl|rfl
 ·exact h.ap
 exact h.st.apart_new
end
theorem xI(A0:Oa)(n0 k0:Nat)(A1:Oa)(k1:Nat)(A2:Oa)(n2 k2:Nat)(s:Nat)(ms:List Mp)(compat:Bool)(w0:Wv)(_hs0:s=w0.heap.size)(_hA:Mps w0 A1 ms)(_hst:StF ms)(_hco:gQ ms)(_hbig:ms.length<=1048576)(c:Int)(l:Li)(hF:bY (onM ms compat) c l)(hc:iok c)
  (w:Wv) (n:Nat) (f:Int->Option Value) (hms:XM A0 n0 k0 A1 ms.length k1 A2 n2 k2 ms compat s w n f) (_hbel:Below s w0 w) (_hn:n+unmarked (uM ms) (mkF f)<=1000000000) {v:Value} (hfc:f c=Z v) :
  Calls prog 171 #[I J c,.pointer (Z ⟨s+3,0,N⟩),.pointer (Z ⟨s,0,N⟩),.pointer (Z ⟨s+1,0,N⟩),.pointer (Z ⟨s+4,0,N⟩)] w
   (oG A0 n0 k0 A1 ms.length k1 A2 n2 k2 ms compat s c l w n f):=by
 obtain⟨E,d,l',rfl,h2,h3,h4⟩:=hms.fd c v hfc;obtain rfl:=h3.func hF;have qm:w.cell? ⟨s+3,0,N⟩=Z (.map (Z (s+2))):=hms.bM.cell rfl;have HM:=G hms;have HE:=G h4;clear hms _hA _hst _hco h3 hF h4 _hs0;go_enter func171,ntmps171;go_wp2_with(at_lookup;refine gY rfl _ _ 219 rfl HM.out.mp eD underlying219 (uN _) rfl rfl hc (eC hc) ?_;rw[hfc];simp only[Option.getD_some,Option.isSome_some]);go_ret;exact⟨E,d,n,f,rfl,h2,HE.out,HM.out,aO w _,Nat.le_refl _,fun x E' m d e=>.inl e,fun x e=>.inl e⟩
theorem L_(A0:Oa)(n0 k0:Nat)(A1:Oa)(k1:Nat)(A2:Oa)(n2 k2:Nat)(s:Nat)(ms:List Mp)(compat:Bool)(w0:Wv)(hs0:s=w0.heap.size)(hA:Mps w0 A1 ms)(hst:StF ms)(_hco:gQ ms)(hbig:ms.length<=1048576)(c:Int)(hR:onM ms compat c=N)(hc:iok c)
  (w:Wv) (n:Nat) (f:Int->Option Value) (hms:XM A0 n0 k0 A1 ms.length k1 A2 n2 k2 ms compat s w n f) (hbel:Below s w0 w) (_hn:n+unmarked (uM ms) (mkF f)<=1000000000) (hfc:f c=N) :
  Calls prog 171 #[I J c,.pointer (Z ⟨s+3,0,N⟩),.pointer (Z ⟨s,0,N⟩),.pointer (Z ⟨s+1,0,N⟩),.pointer (Z ⟨s+4,0,N⟩)] w
   (oG A0 n0 k0 A1 ms.length k1 A2 n2 k2 ms compat s c [c] w n f):=by
 have ON:=G (fun W(hb:Below s w0 W)=>tO A0 n0 k0 A1 ms.length k1 A2 n2 k2 ms c compat W (hA.below (show Below w0.heap.size w0 W from hs0 ▸ hb)) rfl hbig hst);have q0:w.cell? ⟨s,0,N⟩=Z (H A0 n0 k0):=hms.bN.cell rfl;have q1:w.cell? ⟨s,1,N⟩=Z (H A1 ms.length k1):=hms.bN.cell rfl;have q2:w.cell? ⟨s,2,N⟩=Z (H A2 n2 k2):=hms.bN.cell rfl;have qb:w.cell? ⟨s+1,0,N⟩=Z (.bool compat):=hms.bB.cell rfl;have qm:w.cell? ⟨s+3,0,N⟩=Z (.map (Z (s+2))):=hms.bM.cell rfl;have HM:=G hms;rw[hR]at ON;clear hms hA hst _hco hR hs0;go_enter func171,ntmps171;go_wp2_with(at_lookup;refine gY rfl _ _ 219 rfl HM.out.mp eD underlying219 (uN _) rfl rfl hc (eC hc) ?_;rw[hfc];simp only[Option.getD_none,Option.isSome_none]);with_reducible refine(ON.out _ hbel).mono ?_
 rintro e w1 ⟨E,d,rfl,hd,hE,hb1⟩;simp only[Option.getD_none,Option.isSome_none];have HM1:=G (HM.out.below hb1);clear ON hE hd;go_wp2_with fail;go_ret;have hb2:=hb1.alloc hb1.size (.cells #[I J c] 3);exact⟨Z ⟨w1.heap.size,0,N⟩,1,n,f,rfl,Nat.le_refl _,bZ w1 [c] _ rfl,HM1.out.below (ba _ _),cT (aO w _) hb2,Nat.le_refl _,fun x E' m d e=>.inl e,fun x e=>.inl e⟩
theorem MA(A0:Oa)(n0 k0:Nat)(A1:Oa)(k1:Nat)(A2:Oa)(n2 k2:Nat)(s:Nat)(ms:List Mp)(compat:Bool)(w0:Wv)(hs0:s=w0.heap.size)(hA:Mps w0 A1 ms)(hst:StF ms)(hco:gQ ms)(hbig:ms.length<=1048576)(c:Int)(to:Li)(vs:List (Li))(hR:onM ms compat c=Z to)(hlen:vs.length=to.length)(hk:∀i,(hi:i<to.length)->(hv:i<vs.length)->bY (onM ms compat) to[i] vs[i])
  (ih:∀i,(hi:i<to.length)->(hv:i<vs.length)->XOk A0 n0 k0 A1 ms.length k1 A2 n2 k2 ms compat s w0 to[i] vs[i]) (hc:iok c) (hl:vs.flatten.length<=4096)
  (w:Wv) (n:Nat) (f:Int->Option Value) (hms:XM A0 n0 k0 A1 ms.length k1 A2 n2 k2 ms compat s w n f) (hbel:Below s w0 w) (hn:n+unmarked (uM ms) (mkF f)<=1000000000) (hfc:f c=N) :
  Calls prog 171 #[I J c,.pointer (Z ⟨s+3,0,N⟩),.pointer (Z ⟨s,0,N⟩),.pointer (Z ⟨s+1,0,N⟩),.pointer (Z ⟨s+4,0,N⟩)] w
   (oG A0 n0 k0 A1 ms.length k1 A2 n2 k2 ms compat s c vs.flatten w n f):=by
 have ON:=G (fun W(hb:Below s w0 W)=>tO A0 n0 k0 A1 ms.length k1 A2 n2 k2 ms c compat W (hA.below (show Below w0.heap.size w0 W from hs0 ▸ hb)) rfl hbig hst);have q0:w.cell? ⟨s,0,N⟩=Z (H A0 n0 k0):=hms.bN.cell rfl;have q1:w.cell? ⟨s,1,N⟩=Z (H A1 ms.length k1):=hms.bN.cell rfl;have q2:w.cell? ⟨s,2,N⟩=Z (H A2 n2 k2):=hms.bN.cell rfl;have qb:w.cell? ⟨s+1,0,N⟩=Z (.bool compat):=hms.bB.cell rfl;have qm:w.cell? ⟨s+3,0,N⟩=Z (.map (Z (s+2))):=hms.bM.cell rfl;have HM:=G hms;have HNW:=G ((bY.node hR hlen hk).noway);have HFU:=G (bY.node hR hlen hk);have HU:=G (T_ hR);have HED:=G (fun e(he:e∈to)x(h:x=e\/cM (onM ms compat) e x)=>show cM (onM ms compat) c x from h.elim (fun g=>g ▸ .one ⟨to,hR,he⟩) (fun g=>g.front ⟨to,hR,he⟩));have HIO:=G (zP hco hR);have HTL:=G (zQ hco hR).1;have IH:=G ih;have HLN:=G hlen;rw[hR]at ON;have hsw:s+4<w.heap.size:=hms.bX.lt;clear hms hA hst hco hR hk ih hlen hs0;go_enter func171,ntmps171;go_wp2_with(at_lookup;refine gY rfl _ _ 219 rfl HM.out.mp eD underlying219 (uN _) rfl rfl hc (eC hc) ?_;rw[hfc];simp only[Option.getD_none,Option.isSome_none]);with_reducible refine(ON.out _ hbel).mono ?_
 rintro e w1 ⟨E,d,rfl,hd,hE,hb1⟩;simp only[Option.getD_some,Option.isSome_some]at hd hE|-;have HM1:=G (HM.out.below hb1);have hsw1:s+4<w1.heap.size:=by have:=hb1.size;omega
 have hww:w.heap.size<=w1.heap.size:=hb1.size;have HG1:=U (w.grownBy w1 (Z (s+2))) (cT (aO w _) hb1);have htl:=HTL.out;have HB1:=G (hbel.trans (hb1.mono (by omega:s<=w.heap.size)));have HE:=G hE;clear ON hE hb1 q0 q1 q2 qb qm;go_wp2_with fail
 go_loopw [11,35] (fun u q wr=>∃(i n':Nat)(f':Int->Option Value)(B:Oa)(k:Nat),i<=to.length/\u=H B ((vs.take i).flatten).length k/\q=I J i/\i_ A0 n0 k0 A1 ms.length k1 A2 n2 k2 ms compat s (cM (onM ms compat) c) ((vs.take i).flatten) w w1 n f B k wr n' f')
  (fun _ q _=>to.length-(intOf q).toNat)
 case atStart=>
  exact⟨0,n,f,N,0,Nat.zero_le _,rfl,rfl,⟨World.ownsRow_nil _ _ _ _,HM1.out,aO _ _,Nat.le_refl _,fun x E' m d e=>.inl e,fun x e=>.inl e,kZ.nil f⟩⟩
 obtain⟨i,n',f',B,k,hile,rfl,rfl,HL0⟩:=hrel;have HL:=G HL0;clear HL0;by_cases hi:i<to.length
 ·have hv:i<vs.length:=by rw[HLN.out];exact hi
  obtain⟨b,o,rfl,hcell⟩:=(show aA wr E to from Sl.grownM HE.out HL.out.gr HM1.out.mp.nocell).at hi;have hc0:=hcell i hi;clear hcell;have p5:wr.cell? ⟨s+4,0,N⟩=Z (.func (.func 171) #[] #[.pointer (Z ⟨s+3,0,N⟩),.pointer (Z ⟨s,0,N⟩),.pointer (Z ⟨s+1,0,N⟩),.pointer (Z ⟨s+4,0,N⟩)]):=HL.out.st.bX.cell rfl;have hmem:to[i]∈to:=List.getElem_mem hi;have hfl:((vs.take i).flatten).length+vs[i].length<=4096:=by
   have h1:=NH vs (i+1);rw[xN hv,List.length_append]at h1;omega
  have CL:=G (IH.out i hi hv (HIO.out _ hmem) (by omega) wr n' f' HL.out.st (HB1.out.trans (lX HL.out.gr (by omega) (by omega))) (by have:=HL.out.pot;omega));have NX:=G (fun(E2:Oa) W n9 f9 (p:oF A0 n0 k0 A1 ms.length k1 A2 n2 k2 ms compat s to[i] vs[i] wr n' f' E2 W n9 f9)=>HL.out.call hww hsw1 (HED.out _ hmem) p);have FSq:=G (xN hv);clear hmem;generalize to[i]=te at *;generalize vs[i]=ve at *;generalize (vs.take i).flatten=fl at *;go_wp2_with fail;with_reducible refine CL.out.mono ?_
  rintro e W ⟨E2,d2,n9,f9,rfl,hd2,hp⟩;have HL2:=G (NX.out E2 W n9 f9 hp);have HE2:=G hp.ints;clear hp CL NX p5 HL;go_wp2_with(at_builtin;refine aJ _ _ 49 3 (I J 0) 1 8 rfl rfl underlying49 aM rfl (by decide) (by decide) rfl HL2.out.own rfl HE2.out (by simp) (aR _) (by omega) HL2.out.lt ?_;intro B3 k3 w3 hown3 hc3 hb3 hg3 hB3);have HL3:=G (HL2.out.app hsw1 hown3 hb3 hg3 hB3);clear hown3 hb3 hg3 hB3 HL2 HE2;go_wp2_with fail;go_roundw
  case rel=>exact⟨i+1,n9,f9,B3,k3,by omega,by rw[FSq.out,List.length_append],by go_num,by rw[FSq.out];exact HL3.out⟩
  simp[intOf];omega
 have hi':i=to.length:=by omega
 subst hi';have p3:wr.cell? ⟨s+3,0,N⟩=Z (.map (Z (s+2))):=HL.out.st.bM.cell rfl;have hfe:(vs.take to.length).flatten=vs.flatten:=by rw[<-HLN.out,List.take_length]
 rw[hfe]at HL|-;have hfc':f' c=N:=by
  cases hx:f' c with
  |none=>rfl
  |some v=>
   rcases HL.out.mks c (by rw[hx];simp)with e|e
   ·exact absurd hfc e
   exact absurd e HNW.out
 have hpot:n'+1+unmarked (uM ms) (dP (mkF f') c 0)<=n+unmarked (uM ms) (mkF f):=by
  have h1:=DR (k:=0) HU.out (SG.2 hfc');have h2:=HL.out.pot;omega
 have HPOT:=G hpot;have hnn:n' < maxLen:=by unfold maxLen;omega
 obtain⟨hkk,hbl⟩:vs.flatten.length<=k/\∀g o,B=Z ⟨g,o,N⟩->w.heap.size<=g:=by
  refine⟨?_,fun g o hB=>?_⟩
  ·obtain⟨_,_,hv,hk⟩:=gE HL.out.own
   injection hv with _ _ hv;subst hv;exact hk
  subst hB;rcases HL.out.own.2 with⟨hv,_⟩|⟨g',cap,cur,hv,h1,h2,_⟩
  ·cases hv
  injection hv with hv;injection hv with hv;injection hv with hv;subst hv;omega
 have HBL:=G hbl;have HEX:=U (aA wr B vs.flatten) (Sl.of_own HL.out.own);clear hpot hfc' hbl hfe;generalize vs.flatten=fl at *;go_wp2_with(at_mapUpdate;refine nV rfl _ _ _ 219 rfl HL.out.st.mp eD underlying219 hnn rfl rfl rfl hc (eC hc) (fun y _ e=>mE e) ?_;intro w3 hM3 hg3);go_ret;refine⟨B,k,n'+1,_,rfl,hkk,Sl.grownM HEX.out hg3 HL.out.st.mp.nocell,HL.out.st.put hM3 hg3 hkk HFU.out HEX.out,(bF (bF HG1.out HL.out.gr) hg3),by rw[SI];exact HPOT.out,fun x E' m d e=>?_,fun x e=>?_⟩
 ·by_cases hx:x=c
  ·rw[if_pos hx]at e
   injection e with e;injection e with e1 e2 e3;subst e1;exact .inr (.inr HBL.out)
  rw[if_neg hx]at e;exact HL.out.fr x E' m d e
 by_cases hx:x=c
 ·exact .inr (.inl hx)
 rw[if_neg hx]at e;rcases HL.out.mks x e with e1|e1
 ·exact .inl e1
 exact .inr (.inr e1)
theorem MB(A0:Oa)(n0 k0:Nat)(A1:Oa)(k1:Nat)(A2:Oa)(n2 k2:Nat)(s:Nat)(ms:List Mp)(compat:Bool)(w0:Wv)(hs0:s=w0.heap.size)(hA:Mps w0 A1 ms)(hst:StF ms)(hco:gQ ms)(hbig:ms.length<=1048576){c:Int}{l:Li}
  (hfull:bY (onM ms compat) c l):XOk A0 n0 k0 A1 ms.length k1 A2 n2 k2 ms compat s w0 c l:=by
 induction hfull with
 | @leaf c hR=>
  intro hc hl w n f hms hbel hn;cases hf:f c with
  |some v=>exact xI A0 n0 k0 A1 k1 A2 n2 k2 s ms compat w0 hs0 hA hst hco hbig c [c] (.leaf hR) hc w n f hms hbel hn hf
  |none=>exact L_ A0 n0 k0 A1 k1 A2 n2 k2 s ms compat w0 hs0 hA hst hco hbig c hR hc w n f hms hbel hn hf
 | @node c to vs hR hlen hk ih=>
  intro hc hl w n f hms hbel hn;cases hf:f c with
  |some v=>exact xI A0 n0 k0 A1 k1 A2 n2 k2 s ms compat w0 hs0 hA hst hco hbig c _ (.node hR hlen hk) hc w n f hms hbel hn hf
  |none=>exact MA A0 n0 k0 A1 k1 A2 n2 k2 s ms compat w0 hs0 hA hst hco hbig c to vs hR hlen hk ih hc hl w n f hms hbel hn hf
end
end Go.Proofs.YtpfbnikbebccjaaGreatDoor
