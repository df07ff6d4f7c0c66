import Derived.Test.YtpfbnikbebccjaaGreatDoorU00
import Derived.Test.YtpfbnikbebccjaaGreatDoorU09
import Derived.Test.YtpfbnikbebccjaaGreatDoorU10
import Derived.Test.YtpfbnikbebccjaaGreatDoorU11
import Derived.Test.YtpfbnikbebccjaaGreatDoorU14
import Derived.Test.YtpfbnikbebccjaaGreatDoorU18
import Derived.Test.YtpfbnikbebccjaaGreatDoorU19
import Derived.Test.YtpfbnikbebccjaaGreatDoorU20
import Derived.Test.YtpfbnikbebccjaaGreatDoorU22
import Derived.Deep.DeepCutAuto
import Derived.Deep.Cut
set_option maxRecDepth 100000
set_option maxHeartbeats 51200000
namespace Go.Proofs.YtpfbnikbebccjaaGreatDoor
open Option renaming none->N,some->Z
open Value renaming int->I,slice->H
open IntKind renaming i64->J
open Go.Proofs.Tryz
section
open Go.RowKit Go.Maps Go.WideMaps Srl
section
variable {P:Program}{ops:Array Oper}{Q:Exit->Act->Wv->Prop}{md:Region.Mode}{S:Wv->Prop}
def oC(P:Program)(md:Region.Mode)(ops:Array Oper)(Q:Exit->Act->Wv->Prop)(S:Wv->Prop)(fuel:Nat)(listed:Array Bool)(i:Nat)(oi:Oper)(a:Act)(w:Wv):Prop:=
 ∀K:Act->Wv->Prop,Shut (∀a w,S w->(S w->wpAnyH P md ops Q S fuel (listed.setIfInBounds i true) a w)->K a w)->Oper.wp P oi a w K Q
theorem CY{R:Value->Wv->Prop}{i:Nat}{oi:Oper}{fuel:Nat}{listed:Array Bool}{a:Act}{w:Wv}(d:Option Tmp){f:FuncId}{args:Array Value}(hd:oi.dst=d)(he:(execOp a.eval oi).run P w=.ok (.enter f args) w)
  (hc:Calls P f args w (fun e w'=>∃v,e=.returned v/\S w'/\R v w'))
  (h:∀v w',S w'->R v w'->wpAnyH P md ops Q S fuel (listed.setIfInBounds i true) (a.put d v) w'):oC P md ops Q S fuel listed i oi a w:=by
 subst hd;intro K hK;unfold Oper.wp;rw[he];simp only[Oper.upon];refine hc.mono ?_;rintro e w' ⟨v,rfl,hS',hR'⟩;exact hK.out _ _ hS' (fun hh=>h v w' hh hR')
theorem CZ{i:Nat}{oi:Oper}{fuel:Nat}{listed:Array Bool}{a:Act}{w w':Wv}{v:Value}(d:Option Tmp)(hd:oi.dst=d)(he:(execOp a.eval oi).run P w=.ok (.value v) w')(hS:S w')
  (h:wpAnyH P md ops Q S fuel (listed.setIfInBounds i true) (a.put d v) w'):oC P md ops Q S fuel listed i oi a w:=by
 subst hd;intro K hK;unfold Oper.wp;rw[he];simp only[Oper.upon];exact hK.out _ _ hS (fun _=>h)
theorem vL{i j:Nat}{oi oj:Oper}{fuel:Nat}{listed:Array Bool}{a:Act}{w:Wv}(hi:ops[i]?=Z oi)(hj:ops[j]?=Z oj)(hr:Region.ready md ops listed=[i,j])
  (hwi:Region.wanted oi (yielded ops a.tmps)=true) (hwj:Region.wanted oj (yielded ops a.tmps)=true) (Hi:oC P md ops Q S fuel listed i oi a w) (Hj:oC P md ops Q S fuel listed j oj a w):wpAnyH P md ops Q S (fuel+1) listed a w:=by
 refine wpAnyH_ready hr (by simp) (AllReadyH.cons hi (fun K hK=>?_) (AllReadyH.cons hj (fun K hK=>?_) AllReadyH.nil))
 ·rw[if_pos hwi];exact Hi K hK
 rw[if_pos hwj];exact Hj K hK
end
def dM(x:Nrm)(c:Col)(o:Opt):Int:=if bK x≠0 then bK x else if aW c≠0 then aW c else gD o
def nZ(x:Nrm)(c:Col)(o:Opt)(w:Wv)(e:Ending)(w':Wv):Prop:=
 By w w'/\((dM x c o≠0/\e=.returned (.tuple #[.pointer N,I J (dM x c o)]))\/(dM x c o=0/\∃l V mb,e=.returned (.tuple #[.pointer (Z ⟨l,0,N⟩),I J 0])/\Lst w' l w.heap.size V mb N 0 0 x c o (fun _=>N) []))
theorem TH{w0:Wv}{bs mb:Nat}{V:LsV}{x:Nrm}{c:Col}{o:Opt}(hbs:bs<=w0.heap.size)(hbm:bs<=mb)(hN:bA w0 V.A0 x.cls.length V.A1 x.dec.length V.A2 x.exc.length x)(hC:aU w0 V.C c.ents.length V.B c.grps.length c)(hL:dL w0)
  (hm:b_ prog 3 iN iok w0 mb 0 (fun _=>N) 0) (hz:cK x) (hcz:bW c) :
  Lst (w0.alloc (.cells (lsC V x c o mb N 0 0).toArray 80)) w0.heap.size bs V mb N 0 0 x c o (fun _=>N) [] where
 box:=Box.new w0 80 _ rfl
 map:=hm.below (ba _ _)
 row:=World.ownsRow_nil _ _ _ _
 set:=⟨w0,hbs,Nat.le_refl _,fun o=>hm.is.nocell o,hN,hC,hL,Chg.of_below (ba _ _),fun q hq=>by cases hq⟩
 lol:=hbs
 lom:=hbm
 nlm:=fun e=>by have:=hm.lt;omega
 nlo:=fun e=>by cases e
 nmo:=fun e=>by cases e
 item:=fun p hp=>by cases hp
 gone:=fun _ _ _=>rfl
 srt:=srt_nil
 ok:=fun p hp=>by cases hp
 nz:=hz
 cz:=hcz
 len:=Nat.zero_le _
theorem zH(A0:Oa)(k0:Nat)(A1:Oa)(k1:Nat)(A2:Oa)(k2:Nat)(x:Nrm)(C:Oa)(a:Nat)(B:Oa)(b:Nat)(c:Col)(o:Opt)(w:Wv)(hN:bA w A0 x.cls.length A1 x.dec.length A2 x.exc.length x)(hz:cK x)(hC:aU w C c.ents.length B c.grps.length c)(hcz:bW c)(hL:dL w):
  Calls prog 11 #[.agg #[H A0 x.cls.length k0,H A1 x.dec.length k1,H A2 x.exc.length k2],.agg #[H C c.ents.length a,H B c.grps.length b,I J c.base,I J c.second,I J c.third],.agg #[I J o.st,I J o.va,.bool o.bk,.bool o.idn]] w (nZ x c o w):=by
 have B00:By w (((w.alloc (.cells #[H A0 x.cls.length k0,H A1 x.dec.length k1,H A2 x.exc.length k2] 28)).alloc (.cells #[H C c.ents.length a,H B c.grps.length b,I J c.base,I J c.second,I J c.third] 32)).alloc (.cells #[I J o.st,I J o.va,.bool o.bk,.bool o.idn] 34)):=((ba _ _).alloc (by simp) _).alloc (by simp<;>omega) _;have X0:Box (((w.alloc (.cells #[H A0 x.cls.length k0,H A1 x.dec.length k1,H A2 x.exc.length k2] 28)).alloc (.cells #[H C c.ents.length a,H B c.grps.length b,I J c.base,I J c.second,I J c.third] 32)).alloc (.cells #[I J o.st,I J o.va,.bool o.bk,.bool o.idn] 34)) w.heap.size 28 [H A0 x.cls.length k0,H A1 x.dec.length k1,H A2 x.exc.length k2]:=aS (aS (Box.new w 28 [H A0 x.cls.length k0,H A1 x.dec.length k1,H A2 x.exc.length k2] rfl) _) _;have X1:Box (((w.alloc (.cells #[H A0 x.cls.length k0,H A1 x.dec.length k1,H A2 x.exc.length k2] 28)).alloc (.cells #[H C c.ents.length a,H B c.grps.length b,I J c.base,I J c.second,I J c.third] 32)).alloc (.cells #[I J o.st,I J o.va,.bool o.bk,.bool o.idn] 34)) (w.heap.size+1) 32 [H C c.ents.length a,H B c.grps.length b,I J c.base,I J c.second,I J c.third]:=aS (Box.new _ 32 [H C c.ents.length a,H B c.grps.length b,I J c.base,I J c.second,I J c.third] (by simp)) _;have X2:Box (((w.alloc (.cells #[H A0 x.cls.length k0,H A1 x.dec.length k1,H A2 x.exc.length k2] 28)).alloc (.cells #[H C c.ents.length a,H B c.grps.length b,I J c.base,I J c.second,I J c.third] 32)).alloc (.cells #[I J o.st,I J o.va,.bool o.bk,.bool o.idn] 34)) (w.heap.size+1+1) 34 [I J o.st,I J o.va,.bool o.bk,.bool o.idn]:=Box.new _ _ _ (by simp);have W0E:∃W0,(((w.alloc (.cells #[H A0 x.cls.length k0,H A1 x.dec.length k1,H A2 x.exc.length k2] 28)).alloc (.cells #[H C c.ents.length a,H B c.grps.length b,I J c.base,I J c.second,I J c.third] 32)).alloc (.cells #[I J o.st,I J o.va,.bool o.bk,.bool o.idn] 34))=W0:=⟨_,rfl⟩;have C1:=G (fun W(hb:By w W)=>rX A0 _ k0 A1 _ k1 A2 _ k2 x W (hN.below hb) hz (hL.below hb));have C2:=G (fun W(hb:By w W)=>rQ C _ a B _ b c W (hC.below hb) hcz);have C3:=G (fun W=>BU o W);have CN:=G (fun W(hb:By w W)=>J_ A0 _ k0 A1 _ k1 A2 _ k2 x W (hN.below hb) hz);have CC:=G (fun W(hb:By w W)=>JZ C _ a B _ b c W (hC.below hb) hcz);have HL:=G (fun W(hb:By w W)=>hL.below hb);have HEND0:=G (fun(W:Wv) (mb:Nat) (B0:Oa) (l0:Nat) (B1:Oa) (l1:Nat) (B2:Oa) (l2:Nat) (D:Oa) (d1:Nat) (E:Oa) (d2:Nat) (hbs:w.heap.size<=W.heap.size) (hbm:w.heap.size<=mb) (hb:By w W) hN' hC' hm=>TH (w0:=W) (bs:=w.heap.size) (mb:=mb) (V:=⟨B0,l0,B1,l1,B2,l2,D,d1,E,d2⟩) (x:=x) (c:=c) (o:=o) hbs hbm hN' hC' (hL.below hb) hm hz hcz);have NE0:=G (fun(h:bK x≠0)=>show dM x c o=bK x by unfold dM;rw[if_pos h]);have NE1:=G (fun(h1:bK x=0) (h:aW c≠0)=>show dM x c o=aW c by unfold dM;rw[if_neg (fun q=>q h1),if_pos h]);have NE2:=G (fun(h1:bK x=0) (h:aW c=0)=>show dM x c o=gD o by unfold dM;rw[if_neg (fun q=>q h1),if_neg (fun q=>q h)]);unfold uX at CN;unfold nX at CC;unfold aQ at C2 CC;unfold lsC at HEND0;unfold nZ;generalize bK x=e1 at *;generalize aW c=e2 at *;generalize gD o=e3 at *;generalize dM x c o=e0 at *;clear hN hz hC hcz hL;go_enter func11,ntmps11;go_upto_region 1 with(fail)
 obtain⟨W0,hW0⟩:=W0E;try rw[hW0]at B00 X0 X1 X2|-
 clear hW0;have l0:=X0.lt;have l1:=X1.lt;have l2:=X2.lt;have a0:=X0.c 0 rfl;have a1:=X0.c 1 rfl;have a2:=X0.c 2 rfl;go_wp2_with fail;with_reducible refine(C1.out W0 B00).mono ?_
 rintro e W1 ⟨rfl,hb1⟩;have B01:=B00.trans (hb1.mono B00.size);clear a0 a1 a2 C1;by_cases h1:e1=0;rotate_left
 ·have q1:(e1 !=0)=true:=by simpa using h1
  obtain rfl:=NE0.out h1;have HE:=G h1;clear NE0 NE1 NE2 h1;go_wp2_with fail;go_ret2;exact⟨B01,.inl ⟨HE.out,rfl⟩⟩
 have q1:(e1 !=0)=false:=by simpa using h1
 have HE1:=G h1;clear h1 NE0;have b0:=(X1.below hb1 l1).c 0 rfl;have b1:=(X1.below hb1 l1).c 1 rfl;have b2:=(X1.below hb1 l1).c 2 rfl;have b3:=(X1.below hb1 l1).c 3 rfl;have b4:=(X1.below hb1 l1).c 4 rfl;go_wp2_with fail;with_reducible refine(C2.out W1 B01).mono ?_
 rintro e W2 ⟨rfl,hb2⟩;have B02:=B01.trans (hb2.mono B01.size);have hb12:=hb1.trans (hb2.mono hb1.size);clear b0 b1 b2 b3 b4 C2 q1;by_cases h2:e2=0;rotate_left
 ·have q2:(e2 !=0)=true:=by simpa using h2
  obtain rfl:=NE1.out HE1.out h2;have HE:=G h2;clear NE1 NE2 h2;go_wp2_with fail;go_ret2;exact⟨B02,.inl ⟨HE.out,rfl⟩⟩
 have q2:(e2 !=0)=false:=by simpa using h2
 have HE2:=G h2;clear h2 NE1;have c0:=(X2.below hb12 l2).c 0 rfl;have c1:=(X2.below hb12 l2).c 1 rfl;have c2:=(X2.below hb12 l2).c 2 rfl;have c3:=(X2.below hb12 l2).c 3 rfl;go_wp2_with fail;with_reducible refine(C3.out W2).mono ?_
 rintro e W3 ⟨rfl,hb3⟩;have B03:=B02.trans (hb3.mono B02.size);have hb13:=hb12.trans (hb3.mono hb12.size);clear c0 c1 c2 c3 C3 q2;have NE3:=G (NE2.out HE1.out HE2.out);clear NE2;by_cases h3:e3=0;rotate_left
 ·have q3:(e3 !=0)=true:=by simpa using h3
  obtain rfl:=NE3.out;have HE:=G h3;clear h3 NE3;go_wp2_with fail;go_ret2;exact⟨B03,.inl ⟨HE.out,rfl⟩⟩
 have q3:(e3 !=0)=false:=by simpa using h3
 have NE:=G (show e0=0 by rw[NE3.out];exact h3);clear NE3;have HEND:=G (fun(W:Wv) (mb:Nat) (B0:Oa) (l0:Nat) (B1:Oa) (l1:Nat) (B2:Oa) (l2:Nat) (D:Oa) (d1:Nat) (E:Oa) (d2:Nat) (hb:By W3 W) (hbm:W3.heap.size<=mb) hN' hC' hm=>HEND0.out W mb B0 l0 B1 l1 B2 l2 D d1 E d2 (Nat.le_trans B03.size hb.size) (Nat.le_trans B03.size hbm) (B03.trans (hb.mono B03.size)) hN' hC' hm);clear HEND0;have Y0:=X0.below hb13 l0;have Y1:=X1.below hb13 l1;have Y2:=X2.below hb13 l2;have m0:=Y0.lt;have m1:=Y1.lt;have m2:=Y2.lt;have SH:=G (fun W'(hb':By W3 W')=>show W'.cell? ⟨w.heap.size,0,N⟩=Z (H A0 x.cls.length k0)/\W'.cell? ⟨w.heap.size,1,N⟩=Z (H A1 x.dec.length k1)/\W'.cell? ⟨w.heap.size,2,N⟩=Z (H A2 x.exc.length k2)/\W'.cell? ⟨w.heap.size+1,0,N⟩=Z (H C c.ents.length a)/\W'.cell? ⟨w.heap.size+1,1,N⟩=Z (H B c.grps.length b)/\W'.cell? ⟨w.heap.size+1,2,N⟩=Z (I J c.base)/\W'.cell? ⟨w.heap.size+1,3,N⟩=Z (I J c.second)/\W'.cell? ⟨w.heap.size+1,4,N⟩=Z (I J c.third)/\W'.cell? ⟨w.heap.size+1+1,0,N⟩=Z (I J o.st)/\W'.cell? ⟨w.heap.size+1+1,1,N⟩=Z (I J o.va)/\W'.cell? ⟨w.heap.size+1+1,2,N⟩=Z (.bool o.bk)/\W'.cell? ⟨w.heap.size+1+1,3,N⟩=Z (.bool o.idn)/\By W3 W' from⟨(Y0.below hb' m0).c 0 rfl,(Y0.below hb' m0).c 1 rfl,(Y0.below hb' m0).c 2 rfl,(Y1.below hb' m1).c 0 rfl,(Y1.below hb' m1).c 1 rfl,(Y1.below hb' m1).c 2 rfl,(Y1.below hb' m1).c 3 rfl,(Y1.below hb' m1).c 4 rfl,(Y2.below hb' m2).c 0 rfl,(Y2.below hb' m2).c 1 rfl,(Y2.below hb' m2).c 2 rfl,(Y2.below hb' m2).c 3 rfl,hb'⟩);have TN:=G (fun W(hb':By W3 W)=>(CN.out W (B03.trans (hb'.mono B03.size))).mono (R':=fun e W'=>∃v,e=.returned v/\(W'.cell? ⟨w.heap.size,0,N⟩=Z (H A0 x.cls.length k0)/\W'.cell? ⟨w.heap.size,1,N⟩=Z (H A1 x.dec.length k1)/\W'.cell? ⟨w.heap.size,2,N⟩=Z (H A2 x.exc.length k2)/\W'.cell? ⟨w.heap.size+1,0,N⟩=Z (H C c.ents.length a)/\W'.cell? ⟨w.heap.size+1,1,N⟩=Z (H B c.grps.length b)/\W'.cell? ⟨w.heap.size+1,2,N⟩=Z (I J c.base)/\W'.cell? ⟨w.heap.size+1,3,N⟩=Z (I J c.second)/\W'.cell? ⟨w.heap.size+1,4,N⟩=Z (I J c.third)/\W'.cell? ⟨w.heap.size+1+1,0,N⟩=Z (I J o.st)/\W'.cell? ⟨w.heap.size+1+1,1,N⟩=Z (I J o.va)/\W'.cell? ⟨w.heap.size+1+1,2,N⟩=Z (.bool o.bk)/\W'.cell? ⟨w.heap.size+1+1,3,N⟩=Z (.bool o.idn)/\By W3 W')/\(∃B0 l0 B1 l1 B2 l2,v=.agg #[H B0 x.cls.length l0,H B1 x.dec.length l1,H B2 x.exc.length l2]/\bA W' B0 x.cls.length B1 x.dec.length B2 x.exc.length x/\By W W')) (fun e W'⟨B0,l0,B1,l1,B2,l2,he,g1,g2⟩=>⟨_,he,SH.out W' (hb'.trans (g2.mono hb'.size)),B0,l0,B1,l1,B2,l2,rfl,g1,g2⟩));have TC:=G (fun W(hb':By W3 W)=>(CC.out W (B03.trans (hb'.mono B03.size))).mono (R':=fun e W'=>∃v,e=.returned v/\(W'.cell? ⟨w.heap.size,0,N⟩=Z (H A0 x.cls.length k0)/\W'.cell? ⟨w.heap.size,1,N⟩=Z (H A1 x.dec.length k1)/\W'.cell? ⟨w.heap.size,2,N⟩=Z (H A2 x.exc.length k2)/\W'.cell? ⟨w.heap.size+1,0,N⟩=Z (H C c.ents.length a)/\W'.cell? ⟨w.heap.size+1,1,N⟩=Z (H B c.grps.length b)/\W'.cell? ⟨w.heap.size+1,2,N⟩=Z (I J c.base)/\W'.cell? ⟨w.heap.size+1,3,N⟩=Z (I J c.second)/\W'.cell? ⟨w.heap.size+1,4,N⟩=Z (I J c.third)/\W'.cell? ⟨w.heap.size+1+1,0,N⟩=Z (I J o.st)/\W'.cell? ⟨w.heap.size+1+1,1,N⟩=Z (I J o.va)/\W'.cell? ⟨w.heap.size+1+1,2,N⟩=Z (.bool o.bk)/\W'.cell? ⟨w.heap.size+1+1,3,N⟩=Z (.bool o.idn)/\By W3 W')/\(∃D d1 E d2,v=.agg #[H D c.ents.length d1,H E c.grps.length d2,I J c.base,I J c.second,I J c.third]/\aU W' D c.ents.length E c.grps.length c/\By W W')) (fun e W'⟨D,d1,E,d2,he,g1,g2⟩=>⟨_,he,SH.out W' (hb'.trans (g2.mono hb'.size)),D,d1,E,d2,rfl,g1,g2⟩));have B00':=B03;clear CN CC;have hmm:=@run_makeMap prog;go_upto_region 10 with(fail)
 refine wp_region_held_drew (S:=fun W'=>W'.cell? ⟨w.heap.size,0,N⟩=Z (H A0 x.cls.length k0)/\W'.cell? ⟨w.heap.size,1,N⟩=Z (H A1 x.dec.length k1)/\W'.cell? ⟨w.heap.size,2,N⟩=Z (H A2 x.exc.length k2)/\W'.cell? ⟨w.heap.size+1,0,N⟩=Z (H C c.ents.length a)/\W'.cell? ⟨w.heap.size+1,1,N⟩=Z (H B c.grps.length b)/\W'.cell? ⟨w.heap.size+1,2,N⟩=Z (I J c.base)/\W'.cell? ⟨w.heap.size+1,3,N⟩=Z (I J c.second)/\W'.cell? ⟨w.heap.size+1,4,N⟩=Z (I J c.third)/\W'.cell? ⟨w.heap.size+1+1,0,N⟩=Z (I J o.st)/\W'.cell? ⟨w.heap.size+1+1,1,N⟩=Z (I J o.va)/\W'.cell? ⟨w.heap.size+1+1,2,N⟩=Z (.bool o.bk)/\W'.cell? ⟨w.heap.size+1+1,3,N⟩=Z (.bool o.idn)/\By W3 W') (by kernel_rfl) (SH.out _ ((Below.refl _ _).drew)) (fun hHeld=>?_);obtain⟨WD,hWD⟩:∃WD,W3.drew=WD:=⟨_,rfl⟩;rw[hWD]at hHeld|-;have HWD:=hHeld.2.2.2.2.2.2.2.2.2.2.2.2;refine tK 0 26 ?_;refine tK 2 28 ?_;refine tK 4 30 ?_;refine vL (i:=1) (j:=5) rfl rfl (by kernel_rfl) (by rfl) (by rfl) (CY (Z 27) rfl (by go_simp) (TN.out _ hHeld.2.2.2.2.2.2.2.2.2.2.2.2) ?_) (CZ (w':=WD.alloc (.map #[] 0)) (v:=.map (Z WD.heap.size)) (Z 31) rfl (by go_simp) (SH.out _ (HWD.alloc HWD.size (.map #[] 0))) ?_)
 ·rintro _ W4 hS6 ⟨B0,l0,B1,l1,B2,l2,rfl,hN4,hb4⟩
  clear hHeld;have hHeld:=hS6;clear hS6;try simp only[Act.put,sA,sB,sC]
  refine vL (i:=3) (j:=5) rfl rfl (by kernel_rfl) (by rfl) (by rfl) (CY (Z 29) rfl (by go_simp) (TC.out _ hHeld.2.2.2.2.2.2.2.2.2.2.2.2) ?_) (CZ (w':=W4.alloc (.map #[] 0)) (v:=.map (Z W4.heap.size)) (Z 31) rfl (by go_simp) (SH.out _ (hHeld.2.2.2.2.2.2.2.2.2.2.2.2.alloc hHeld.2.2.2.2.2.2.2.2.2.2.2.2.size _)) ?_)
  ·rintro _ W5 hS6 ⟨D,d1,E,d2,rfl,hC5,hb5⟩
   clear hHeld;have hHeld:=hS6;clear hS6;try simp only[Act.put,sA,sB,sC]
   have hz5:=hHeld.2.2.2.2.2.2.2.2.2.2.2.2.size;have hS7:=hHeld.2.2.2.2.2.2.2.2.2.2.2.2.alloc hHeld.2.2.2.2.2.2.2.2.2.2.2.2.size (.map #[] 0);refine kC (w':=W5.alloc (.map #[] 0)) (v:=.map (Z W5.heap.size)) (i:=5) (Z 31) rfl rfl (by kernel_rfl) (by rfl) (by go_simp) (SH.out _ hS7) ?_;clear hHeld;have hHeld:=SH.out _ hS7;try simp only[Act.put,sA,sB,sC]
   refine eR (i:=6) (v:=.agg #[H B0 x.cls.length l0,H B1 x.dec.length l1,H B2 x.exc.length l2,H D c.ents.length d1,H E c.grps.length d2,I J c.base,I J c.second,I J c.third,I J o.st,I J o.va,.bool o.bk,.bool o.idn,.map (Z W5.heap.size),H N 0 0]) (Z 32) rfl rfl (by kernel_rfl) (by kernel_rfl) (by kernel_rfl) (fun _ _ _ h=>h) (by rfl) (by assumption) (by intro w hSw;go_simp) ?_;try simp only[Act.put,sA,sB,sC]
   have Sn:=SH.out ((W5.alloc (.map #[] 0)).alloc (.cells #[H B0 x.cls.length l0,H B1 x.dec.length l1,H B2 x.exc.length l2,H D c.ents.length d1,H E c.grps.length d2,I J c.base,I J c.second,I J c.third,I J o.st,I J o.va,.bool o.bk,.bool o.idn,.map (Z W5.heap.size),H N 0 0] 80)) (hS7.alloc hS7.size _);refine kC (w':=(W5.alloc (.map #[] 0)).alloc (.cells #[H B0 x.cls.length l0,H B1 x.dec.length l1,H B2 x.exc.length l2,H D c.ents.length d1,H E c.grps.length d2,I J c.base,I J c.second,I J c.third,I J o.st,I J o.va,.bool o.bk,.bool o.idn,.map (Z W5.heap.size),H N 0 0] 80)) (v:=.pointer (Z ⟨(W5.alloc (.map #[] 0)).heap.size,0,N⟩)) (i:=7) (Z 33) rfl rfl (by kernel_rfl) (by rfl) (by go_simp) Sn ?_;try simp only[Act.put,sA,sB,sC]
   clear hHeld;have hHeld:=Sn;clear Sn;refine tK 8 6 ?_;refine tK 9 7 ?_;refine wpAnyH_done (by kernel_rfl) ?_ _;have hend:=HEND.out (W5.alloc (.map #[] 0)) W5.heap.size B0 l0 B1 l1 B2 l2 D d1 E d2 hS7 hz5 ((hN4.below hb5).below (ba _ _)) (hC5.below (ba _ _)) (b_.made _ _ _ _ _);clear hHeld;go_wp2_with fail;go_ret2;exact⟨B03.trans ((hS7.alloc hS7.size _).mono B03.size),.inr ⟨NE.out,(W5.alloc (.map #[] 0)).heap.size,⟨B0,l0,B1,l1,B2,l2,D,d1,E,d2⟩,W5.heap.size,by first|rfl|simp,hend⟩⟩
  try simp only[Act.put,sA,sB,sC]
  have hz5:=hHeld.2.2.2.2.2.2.2.2.2.2.2.2.size;have hS7:=hHeld.2.2.2.2.2.2.2.2.2.2.2.2.alloc hHeld.2.2.2.2.2.2.2.2.2.2.2.2.size (.map #[] 0);have hS6:=SH.out _ hS7;clear hHeld;have hHeld:=hS6;clear hS6;refine qE 3 29 (TC.out _ hS7) ?_;clear hHeld;rintro _ W5 hHeld ⟨D,d1,E,d2,rfl,hC5,hb5⟩;have hS8:=hHeld.2.2.2.2.2.2.2.2.2.2.2.2;refine eR (i:=6) (v:=.agg #[H B0 x.cls.length l0,H B1 x.dec.length l1,H B2 x.exc.length l2,H D c.ents.length d1,H E c.grps.length d2,I J c.base,I J c.second,I J c.third,I J o.st,I J o.va,.bool o.bk,.bool o.idn,.map (Z W4.heap.size),H N 0 0]) (Z 32) rfl rfl (by kernel_rfl) (by kernel_rfl) (by kernel_rfl) (fun _ _ _ h=>h) (by rfl) (by assumption) (by intro w hSw;go_simp) ?_;try simp only[Act.put,sA,sB,sC]
  have Sn:=SH.out (W5.alloc (.cells #[H B0 x.cls.length l0,H B1 x.dec.length l1,H B2 x.exc.length l2,H D c.ents.length d1,H E c.grps.length d2,I J c.base,I J c.second,I J c.third,I J o.st,I J o.va,.bool o.bk,.bool o.idn,.map (Z W4.heap.size),H N 0 0] 80)) (hS8.alloc hS8.size _);refine kC (w':=W5.alloc (.cells #[H B0 x.cls.length l0,H B1 x.dec.length l1,H B2 x.exc.length l2,H D c.ents.length d1,H E c.grps.length d2,I J c.base,I J c.second,I J c.third,I J o.st,I J o.va,.bool o.bk,.bool o.idn,.map (Z W4.heap.size),H N 0 0] 80)) (v:=.pointer (Z ⟨W5.heap.size,0,N⟩)) (i:=7) (Z 33) rfl rfl (by kernel_rfl) (by rfl) (by go_simp) Sn ?_;try simp only[Act.put,sA,sB,sC]
  clear hHeld;have hHeld:=Sn;clear Sn;refine tK 8 6 ?_;refine tK 9 7 ?_;refine wpAnyH_done (by kernel_rfl) ?_ _;have hend:=HEND.out W5 W4.heap.size B0 l0 B1 l1 B2 l2 D d1 E d2 hS8 hz5 ((hN4.below (ba _ _)).below hb5) hC5 ((b_.made _ _ _ _ _).below hb5);clear hHeld;go_wp2_with fail;go_ret2;exact⟨B03.trans ((hS8.alloc hS8.size _).mono B03.size),.inr ⟨NE.out,W5.heap.size,⟨B0,l0,B1,l1,B2,l2,D,d1,E,d2⟩,W4.heap.size,by first|rfl|simp,hend⟩⟩
 try simp only[Act.put,sA,sB,sC]
 have hS7:=(HWD.alloc HWD.size (.map #[] 0));have hS6:=SH.out _ hS7;clear hHeld;have hHeld:=hS6;clear hS6;refine qE 1 27 (TN.out _ hS7) ?_;clear hHeld;rintro _ W4 hHeld ⟨B0,l0,B1,l1,B2,l2,rfl,hN4,hb4⟩;refine qE 3 29 (TC.out _ hHeld.2.2.2.2.2.2.2.2.2.2.2.2) ?_;clear hHeld;rintro _ W5 hHeld ⟨D,d1,E,d2,rfl,hC5,hb5⟩;have hS8:=hHeld.2.2.2.2.2.2.2.2.2.2.2.2;refine eR (i:=6) (v:=.agg #[H B0 x.cls.length l0,H B1 x.dec.length l1,H B2 x.exc.length l2,H D c.ents.length d1,H E c.grps.length d2,I J c.base,I J c.second,I J c.third,I J o.st,I J o.va,.bool o.bk,.bool o.idn,.map (Z WD.heap.size),H N 0 0]) (Z 32) rfl rfl (by kernel_rfl) (by kernel_rfl) (by kernel_rfl) (fun _ _ _ h=>h) (by rfl) (by assumption) (by intro w hSw;go_simp) ?_;try simp only[Act.put,sA,sB,sC]
 have Sn:=SH.out (W5.alloc (.cells #[H B0 x.cls.length l0,H B1 x.dec.length l1,H B2 x.exc.length l2,H D c.ents.length d1,H E c.grps.length d2,I J c.base,I J c.second,I J c.third,I J o.st,I J o.va,.bool o.bk,.bool o.idn,.map (Z WD.heap.size),H N 0 0] 80)) (hS8.alloc hS8.size _);refine kC (w':=W5.alloc (.cells #[H B0 x.cls.length l0,H B1 x.dec.length l1,H B2 x.exc.length l2,H D c.ents.length d1,H E c.grps.length d2,I J c.base,I J c.second,I J c.third,I J o.st,I J o.va,.bool o.bk,.bool o.idn,.map (Z WD.heap.size),H N 0 0] 80)) (v:=.pointer (Z ⟨W5.heap.size,0,N⟩)) (i:=7) (Z 33) rfl rfl (by kernel_rfl) (by rfl) (by go_simp) Sn ?_;try simp only[Act.put,sA,sB,sC]
 clear hHeld;have hHeld:=Sn;clear Sn;refine tK 8 6 ?_;refine tK 9 7 ?_;refine wpAnyH_done (by kernel_rfl) ?_ _;have hend:=HEND.out W5 WD.heap.size B0 l0 B1 l1 B2 l2 D d1 E d2 hS8 HWD.size (hN4.below hb5) hC5 (((b_.made _ _ _ _ _).below hb4).below hb5);clear hHeld;go_wp2_with fail;go_ret2;exact⟨B03.trans ((hS8.alloc hS8.size _).mono B03.size),.inr ⟨NE.out,W5.heap.size,⟨B0,l0,B1,l1,B2,l2,D,d1,E,d2⟩,WD.heap.size,by first|rfl|simp,hend⟩⟩
end
section
open Go.RowKit Go.Maps Go.WideMaps
theorem AZ(o:Opt)(w:Wv):Calls prog 42 #[.agg #[I J o.st,I J o.va,.bool o.bk,.bool o.idn]] w (fun e w'=>e=.returned (I J (gD o))/\By w w'):=by
 obtain⟨st,va,bk,idn⟩:=o;have HE:=U (gD ⟨st,va,bk,idn⟩=if st<1\/4<st then 1 else if va=1\/va=2\/va=3 then 0 else 8) rfl;generalize gD ⟨st,va,bk,idn⟩=r at *;have B0:By w (w.alloc (.cells #[I J st,I J va,.bool bk,.bool idn] 34)):=ba _ _;dsimp only;go_enter func42,ntmps42;by_cases h1:st<1
 ·have d1:decide (st<1)=true:=by simpa using h1
  obtain rfl:r=1:=by rw[HE.out,if_pos (.inl h1)]
  clear HE;go_wp2_with fail;go_ret;exact⟨rfl,B0⟩
 have d1:decide (st<1)=false:=by simpa using h1
 by_cases h2:4<st
 ·have d2:decide (4<st)=true:=by simpa using h2
  obtain rfl:r=1:=by rw[HE.out,if_pos (.inr h2)]
  clear HE;go_wp2_with fail;go_ret;exact⟨rfl,B0⟩
 have d2:decide (4<st)=false:=by simpa using h2
 have HF:=U (r=if va=1\/va=2\/va=3 then 0 else 8) (by rw[HE.out,if_neg (by omega)]);clear HE;by_cases h3:va<1
 ·have d3:decide (va<1)=true:=by simpa using h3
  obtain rfl:r=8:=by rw[HF.out,if_neg (by omega)]
  clear HF;go_wp2_with fail;go_ret;exact⟨rfl,B0⟩
 have d3:decide (va<1)=false:=by simpa using h3
 by_cases h4:3<va
 ·have d4:decide (3<va)=true:=by simpa using h4
  obtain rfl:r=8:=by rw[HF.out,if_neg (by omega)]
  clear HF;go_wp2_with fail;go_ret;exact⟨rfl,B0⟩
 have d4:decide (3<va)=false:=by simpa using h4
 obtain rfl:r=0:=by rw[HF.out,if_pos (by omega)]
 clear HF;go_wp2_with fail;go_ret;exact⟨rfl,B0⟩
theorem wQ(o:Opt)(w:Wv):Calls prog 92 #[.agg #[I J o.st,I J o.va,.bool o.bk,.bool o.idn]] w (fun e w'=>e=.returned (.agg #[I J (aN o).st,I J (aN o).va,.bool (aN o).bk,.bool (aN o).idn])/\By w w'):=by
 have CK:=G (fun W=>AZ o W);have OE:=G (zW o);have O1:=U (iR o=true->aN o=o) (fun h=>if_pos h);have O0:=G (show¬iR o=true->aN o=⟨3,1,false,false⟩from fun h=>if_neg h);generalize gD o=er at *;generalize iR o=ob at *;generalize aN o=od at *;obtain⟨st,va,bk,idn⟩:=o;dsimp only at *;have B0:By w ((w.alloc (.cells #[I J st,I J va,.bool bk,.bool idn] 34)).alloc (.cells #[I J 0,I J 0,.bool false,.bool false] 34)):=(ba _ _).alloc (by simp) _;have X0:Box ((w.alloc (.cells #[I J st,I J va,.bool bk,.bool idn] 34)).alloc (.cells #[I J 0,I J 0,.bool false,.bool false] 34)) w.heap.size 34 [I J st,I J va,.bool bk,.bool idn]:=(Box.new w 34 [I J st,I J va,.bool bk,.bool idn] rfl).below (B:=w.heap.size+1) ((Below.refl _ _).alloc (by simp) _) (by omega);have X1:Box ((w.alloc (.cells #[I J st,I J va,.bool bk,.bool idn] 34)).alloc (.cells #[I J 0,I J 0,.bool false,.bool false] 34)) (w.heap.size+1) 34 [I J 0,I J 0,.bool false,.bool false]:=Box.new _ _ _ (by simp);have W0E:∃W0,((w.alloc (.cells #[I J st,I J va,.bool bk,.bool idn] 34)).alloc (.cells #[I J 0,I J 0,.bool false,.bool false] 34))=W0:=⟨_,rfl⟩;go_enter func92,ntmps92;go_wp2_with fail;obtain⟨W0,hW0⟩:=W0E;rw[hW0]at B0 X0 X1|-;clear hW0;have s0:=X0.lt;have s1:=X1.lt;have c0:=X0.c 0 rfl;have c1:=X0.c 1 rfl;have c2:=X0.c 2 rfl;have c3:=X0.c 3 rfl;go_wp2_with fail;with_reducible refine(CK.out _).mono ?_
 rintro e W1 ⟨rfl,hb1⟩;have Y0:=X0.below hb1 s0;have Y1:=X1.below hb1 s1;have B1:=B0.trans (hb1.mono B0.size);clear c0 c1 c2 c3 X0 X1 B0 hb1 CK;have c0:=Y0.c 0 rfl;have c1:=Y0.c 1 rfl;have c2:=Y0.c 2 rfl;have c3:=Y0.c 3 rfl;have d0:=Y1.c 0 rfl;have d1:=Y1.c 1 rfl;have d2:=Y1.c 2 rfl;have d3:=Y1.c 3 rfl;have f0:=Y1.free 0;have f1:=Y1.free 1;have f2:=Y1.free 2;have f3:=Y1.free 3;have HB:=G (fun(u0 u1 u2 u3:Value)=>show By w ((((W1.setCell ⟨w.heap.size+1,0,N⟩ u0).setCell ⟨w.heap.size+1,1,N⟩ u1).setCell ⟨w.heap.size+1,2,N⟩ u2).setCell ⟨w.heap.size+1,3,N⟩ u3)from(((B1.setCell (by simp) _).setCell (by simp) _).setCell (by simp) _).setCell (by simp) _);by_cases h0:er=0
 ·have HO:=G (O1.out (OE.out.1 h0))
  subst h0;clear O1 O0 OE;go_wp2_with fail;(try simp only[Exit.inBlock,Exit.then]);refine bodyPost_ret (pZ rfl _ _ (b:=w.heap.size+1) (v0:=I J st) (v1:=I J va) (v2:=.bool bk) (v3:=.bool idn) rfl (by go_simp) (by go_simp) (by go_simp) (by go_simp)) rfl ?_;exact⟨by rw[HO.out],HB.out _ _ _ _⟩
 have HO:=G (O0.out (fun g=>h0 (OE.out.2 g)));have h1:(er !=0)=true:=by simpa using h0
 clear O1 O0 OE h0;go_wp2_with fail;(try simp only[Exit.inBlock,Exit.then]);refine bodyPost_ret (pZ rfl _ _ (b:=w.heap.size+1) (v0:=I J 3) (v1:=I J 1) (v2:=.bool false) (v3:=.bool false) rfl (by go_simp) (by go_simp) (by go_simp) (by go_simp)) rfl ?_;exact⟨by rw[HO.out],HB.out _ _ _ _⟩
theorem pS{p s t:Int}{v:Bool}(h:aG ⟨p,s,t,v⟩=true):p=0/\s=0/\t=0:=by simp[aG]at h;exact⟨h.1.1,h.1.2,h.2⟩
def dO(f:Nat->Int):Lv:=[I J (f 0),I J (f 1),I J (f 2),I J (f 3)]
theorem fU:(prog.info? 173).map (fun i=>(i.zero,i.size,i.bytes))=Z (Z (.agg #[I J 0,I J 0,I J 0,I J 0]),4,32):=by kernel_rfl
theorem fV(a b c d:Int):∀u∈[Value.int .i64 a,Value.int .i64 b,Value.int .i64 c,Value.int .i64 d],u.oneCell'=true:=by
 intro u hu;simp only[List.mem_cons,List.not_mem_nil,or_false]at hu;rcases hu with rfl|rfl|rfl|rfl<;>rfl
def uY(ws:List (Nat->Int))(w:Wv)(e:Ending)(w':Wv):Prop:=∃A d,e=.returned (H A ws.length d)/\w'.ownsRow w.heap.size 173 4 (H A ws.length d) ws.length (aF dO ws)/\By w w'
set_option linter.unusedSimpArgs false
theorem zAx(E:Oa)(n kE:Nat)(es:List Elt)(va:Int)(w:Wv)(hE:cJ w E es)(hn:es.length=n)(hbig:n<=33554432)(hva:va=1\/va=2\/va=3):
  Calls prog 124 #[H E n kE,I J va] w (uY (eN va false es) w):=by
 subst hn;have HVA:=G hva;have HE:=G hE;have WN:=G (fun i(hi:i<es.length)=>show aF dO (eN va false (es.take (i+1)))=aF dO (eN va false (es.take i))++dO (wtE va (aC (jA false (es.take i)) es[i]) es[i])from by rw[EG va hi,iM];simp[aF]);have AN:=G (fun i(hi:i<es.length)=>vD hi);have WLe:=G (fun i=>show(eN va false (es.take i)).length=min i es.length from by rw[mM,List.length_take]);clear hE hva;go_enter func124,ntmps124;go_wp2_with fail;go_loopw [5,6,7] (fun u y v wr=>∃(i:Nat)(A:Oa)(k:Nat),i<=es.length/\v=I J i/\y=.bool (jA false (es.take i))/\u=H A i k/\wr.ownsRow w.heap.size 173 4 (H A i k) i (aF dO (eN va false (es.take i)))/\By w wr) (fun _ _ v _=>es.length-(intOf v).toNat)
 case atStart=>exact⟨0,N,0,Nat.zero_le _,rfl,rfl,rfl,World.ownsRow_nil _ _ _ _,Below.refl _ _⟩
 obtain⟨i,A,k,hi,rfl,rfl,rfl,ho,hbr⟩:=hrel;have HO:=G ho;have HBR:=G hbr;have hrs:=hbr.size;clear ho;by_cases hlt:i<es.length
 ·obtain⟨b,o,rfl,hbl,hcell⟩:=(HE.out.below hbr).at hlt
  obtain⟨g0,g1,g2,g3⟩:=hcell i hlt;have WNi:=G (WN.out i hlt);have ANi:=G (AN.out i hlt);clear hcell hbr;generalize hf1:aF dO (eN va false (es.take (i+1)))=fl1 at *;have HF1:=G hf1;clear hf1;generalize aF dO (eN va false (es.take i))=fl at *;generalize ha1:jA false (es.take (i+1))=a1 at *;have HA1:=G ha1;clear ha1;generalize jA false (es.take i)=a at *;generalize es[i]=x at *;obtain⟨p,s,t,v⟩:=x;dsimp only at g0 g1 g2 g3;have hne:¬b=wr.heap.size:=by omega
  go_upto_region 8 with(fail)
  go_cut [10] (fun s10 wx=>s10=.bool (aG ⟨p,s,t,v⟩)/\wx=((wr.alloc (.cells #[I J p,I J s,I J t,.bool v] 106)).alloc (.cells #[I J p,I J s,I J t,I J 0] 173)))
  case first=>
   by_cases h1:p=0
   ·subst h1
    by_cases h2:s=0
    ·subst h2
     by_cases h3:t=0
     ·subst h3
      go_wp2_with fail;go_meet;exact⟨rfl,rfl⟩
     have q3:(t==0)=false:=by simpa using h3
     go_wp2_with fail;go_meet;exact⟨by simp[aG,h3],rfl⟩
    have q2:(s==0)=false:=by simpa using h2
    go_wp2_with fail;go_meet;exact⟨by simp[aG,h2],rfl⟩
   have q1:(p==0)=false:=by simpa using h1
   go_wp2_with fail;go_meet;exact⟨by simp[aG,h1],rfl⟩
  obtain⟨rfl,rfl⟩:=hcut;clear g0 g1 g2 g3 hne;have HNN:=U (p≠0->aG ⟨p,s,t,v⟩=false) (fun h=>by simp[aG,h]);generalize hnn:aG ⟨p,s,t,v⟩=nn at *;have HNE:=G hnn;clear hnn;rcases HVA.out with rfl|rfl|rfl
  ·cases v with
   |true=>
    cases nn with
    |true=>
     have hz:=pS HNE.out;obtain⟨rfl,rfl,rfl⟩:=hz;have HW:=U (fl1=fl++[I J 0,I J 0,I J 0,I J 0]) (by rw[WNi.out];congr 1<;>simp[dO,wtE,aI,aC,aG]);have HAA:=U (a1=true) (by rw[ANi.out];simp[aC,aG]);clear WNi ANi;go_wp2_with(at_builtin;refine aJ _ _ 171 173 (.agg #[I J 0,I J 0,I J 0,I J 0]) 4 32 rfl rfl underlying171 fU rfl (by decide) (by decide) rfl (aK HO.out (by repeat(first|exact Below.refl _ _|refine Below.alloc ?_ (by(try simp)<;>omega) _|refine Below.setCell ?_ (by(try simp)<;>omega) _))) rfl (bU _ [I J 0,I J 0,I J 0,I J 0] _ (by simp)) rfl (fV _ _ _ _) (by omega) (by simp;omega) ?_;intro B9 k9 w9 hown9 hc9 hb9 hg9 hB9);have HO9:=G hown9;have HB9:=U (By w w9) ((HBR.out.trans (show Below w.heap.size wr _ from(by repeat(first|exact Below.refl _ _|refine Below.alloc ?_ (by(try simp)<;>omega) _|refine Below.setCell ?_ (by(try simp)<;>omega) _)))).trans hb9);clear hown9 hc9 hb9 hg9 hB9;go_wp2_with fail;go_roundw
     case rel=>exact⟨i+1,B9,k9,by omega,by go_num,by rw[HA1.out,HAA.out],rfl,by rw[HF1.out,HW.out];exact HO9.out,HB9.out⟩
     simp[intOf];omega
    |false=>
     have hz:=HNE.out;have HW:=U (fl1=fl++[I J p,I J s,I J t,I J 65535]) (by rw[WNi.out];congr 1<;>simp[dO,wtE,aI,aC,hz]);have HAA:=U (a1=true) (by rw[ANi.out];simp[aC,hz]);clear WNi ANi;go_wp2_with(at_builtin;refine aJ _ _ 171 173 (.agg #[I J 0,I J 0,I J 0,I J 0]) 4 32 rfl rfl underlying171 fU rfl (by decide) (by decide) rfl (aK HO.out (by repeat(first|exact Below.refl _ _|refine Below.alloc ?_ (by(try simp)<;>omega) _|refine Below.setCell ?_ (by(try simp)<;>omega) _))) rfl (bU _ [I J p,I J s,I J t,I J 65535] _ (by simp)) rfl (fV _ _ _ _) (by omega) (by simp;omega) ?_;intro B9 k9 w9 hown9 hc9 hb9 hg9 hB9);have HO9:=G hown9;have HB9:=U (By w w9) ((HBR.out.trans (show Below w.heap.size wr _ from(by repeat(first|exact Below.refl _ _|refine Below.alloc ?_ (by(try simp)<;>omega) _|refine Below.setCell ?_ (by(try simp)<;>omega) _)))).trans hb9);clear hown9 hc9 hb9 hg9 hB9;go_wp2_with fail;go_roundw
     case rel=>exact⟨i+1,B9,k9,by omega,by go_num,by rw[HA1.out,HAA.out],rfl,by rw[HF1.out,HW.out];exact HO9.out,HB9.out⟩
     simp[intOf];omega
   |false=>
    by_cases hp:p=0
    ·subst hp
     cases a with
     |true=>
      cases nn with
      |true=>
       have hz:=pS HNE.out;obtain⟨-,rfl,rfl⟩:=hz;have HW:=U (fl1=fl++[I J 0,I J 0,I J 0,I J 0]) (by rw[WNi.out];congr 1<;>simp[dO,wtE,aI,aC,aG]);have HAA:=U (a1=true) (by rw[ANi.out];simp[aC,aG]);clear WNi ANi;go_wp2_with(at_builtin;refine aJ _ _ 171 173 (.agg #[I J 0,I J 0,I J 0,I J 0]) 4 32 rfl rfl underlying171 fU rfl (by decide) (by decide) rfl (aK HO.out (by repeat(first|exact Below.refl _ _|refine Below.alloc ?_ (by(try simp)<;>omega) _|refine Below.setCell ?_ (by(try simp)<;>omega) _))) rfl (bU _ [I J 0,I J 0,I J 0,I J 0] _ (by simp)) rfl (fV _ _ _ _) (by omega) (by simp;omega) ?_;intro B9 k9 w9 hown9 hc9 hb9 hg9 hB9);have HO9:=G hown9;have HB9:=U (By w w9) ((HBR.out.trans (show Below w.heap.size wr _ from(by repeat(first|exact Below.refl _ _|refine Below.alloc ?_ (by(try simp)<;>omega) _|refine Below.setCell ?_ (by(try simp)<;>omega) _)))).trans hb9);clear hown9 hc9 hb9 hg9 hB9;go_wp2_with fail;go_roundw
       case rel=>exact⟨i+1,B9,k9,by omega,by go_num,by rw[HA1.out,HAA.out],rfl,by rw[HF1.out,HW.out];exact HO9.out,HB9.out⟩
       simp[intOf];omega
      |false=>
       have hz:=HNE.out;have HW:=U (fl1=fl++[I J 0,I J s,I J t,I J 65535]) (by rw[WNi.out];congr 1<;>simp[dO,wtE,aI,aC,hz]);have HAA:=U (a1=true) (by rw[ANi.out];simp[aC,hz]);clear WNi ANi;go_wp2_with(at_builtin;refine aJ _ _ 171 173 (.agg #[I J 0,I J 0,I J 0,I J 0]) 4 32 rfl rfl underlying171 fU rfl (by decide) (by decide) rfl (aK HO.out (by repeat(first|exact Below.refl _ _|refine Below.alloc ?_ (by(try simp)<;>omega) _|refine Below.setCell ?_ (by(try simp)<;>omega) _))) rfl (bU _ [I J 0,I J s,I J t,I J 65535] _ (by simp)) rfl (fV _ _ _ _) (by omega) (by simp;omega) ?_;intro B9 k9 w9 hown9 hc9 hb9 hg9 hB9);have HO9:=G hown9;have HB9:=U (By w w9) ((HBR.out.trans (show Below w.heap.size wr _ from(by repeat(first|exact Below.refl _ _|refine Below.alloc ?_ (by(try simp)<;>omega) _|refine Below.setCell ?_ (by(try simp)<;>omega) _)))).trans hb9);clear hown9 hc9 hb9 hg9 hB9;go_wp2_with fail;go_roundw
       case rel=>exact⟨i+1,B9,k9,by omega,by go_num,by rw[HA1.out,HAA.out],rfl,by rw[HF1.out,HW.out];exact HO9.out,HB9.out⟩
       simp[intOf];omega
     |false=>
      cases nn with
      |true=>
       have hz:=pS HNE.out;obtain⟨-,rfl,rfl⟩:=hz;have HW:=U (fl1=fl++[I J 0,I J 0,I J 0,I J 0]) (by rw[WNi.out];congr 1<;>simp[dO,wtE,aI,aC,aG]);have HAA:=U (a1=false) (by rw[ANi.out];simp[aC,aG]);clear WNi ANi;go_wp2_with(at_builtin;refine aJ _ _ 171 173 (.agg #[I J 0,I J 0,I J 0,I J 0]) 4 32 rfl rfl underlying171 fU rfl (by decide) (by decide) rfl (aK HO.out (by repeat(first|exact Below.refl _ _|refine Below.alloc ?_ (by(try simp)<;>omega) _|refine Below.setCell ?_ (by(try simp)<;>omega) _))) rfl (bU _ [I J 0,I J 0,I J 0,I J 0] _ (by simp)) rfl (fV _ _ _ _) (by omega) (by simp;omega) ?_;intro B9 k9 w9 hown9 hc9 hb9 hg9 hB9);have HO9:=G hown9;have HB9:=U (By w w9) ((HBR.out.trans (show Below w.heap.size wr _ from(by repeat(first|exact Below.refl _ _|refine Below.alloc ?_ (by(try simp)<;>omega) _|refine Below.setCell ?_ (by(try simp)<;>omega) _)))).trans hb9);clear hown9 hc9 hb9 hg9 hB9;go_wp2_with fail;go_roundw
       case rel=>exact⟨i+1,B9,k9,by omega,by go_num,by rw[HA1.out,HAA.out],rfl,by rw[HF1.out,HW.out];exact HO9.out,HB9.out⟩
       simp[intOf];omega
      |false=>
       have hz:=HNE.out;have HW:=U (fl1=fl++[I J 0,I J s,I J t,I J 65535]) (by rw[WNi.out];congr 1<;>simp[dO,wtE,aI,aC,hz]);have HAA:=U (a1=false) (by rw[ANi.out];simp[aC,hz]);clear WNi ANi;go_wp2_with(at_builtin;refine aJ _ _ 171 173 (.agg #[I J 0,I J 0,I J 0,I J 0]) 4 32 rfl rfl underlying171 fU rfl (by decide) (by decide) rfl (aK HO.out (by repeat(first|exact Below.refl _ _|refine Below.alloc ?_ (by(try simp)<;>omega) _|refine Below.setCell ?_ (by(try simp)<;>omega) _))) rfl (bU _ [I J 0,I J s,I J t,I J 65535] _ (by simp)) rfl (fV _ _ _ _) (by omega) (by simp;omega) ?_;intro B9 k9 w9 hown9 hc9 hb9 hg9 hB9);have HO9:=G hown9;have HB9:=U (By w w9) ((HBR.out.trans (show Below w.heap.size wr _ from(by repeat(first|exact Below.refl _ _|refine Below.alloc ?_ (by(try simp)<;>omega) _|refine Below.setCell ?_ (by(try simp)<;>omega) _)))).trans hb9);clear hown9 hc9 hb9 hg9 hB9;go_wp2_with fail;go_roundw
       case rel=>exact⟨i+1,B9,k9,by omega,by go_num,by rw[HA1.out,HAA.out],rfl,by rw[HF1.out,HW.out];exact HO9.out,HB9.out⟩
       simp[intOf];omega
    obtain rfl:=HNN.out hp;have q1:(p !=0)=true:=by simpa using hp
    have hz:=HNE.out;have HW:=U (fl1=fl++[I J p,I J s,I J t,I J 65535]) (by rw[WNi.out];congr 1<;>simp[dO,wtE,aI,aC,hz,hp]);have HAA:=U (a1=false) (by rw[ANi.out];simp[aC,hz,hp]);clear WNi ANi;go_wp2_with(at_builtin;refine aJ _ _ 171 173 (.agg #[I J 0,I J 0,I J 0,I J 0]) 4 32 rfl rfl underlying171 fU rfl (by decide) (by decide) rfl (aK HO.out (by repeat(first|exact Below.refl _ _|refine Below.alloc ?_ (by(try simp)<;>omega) _|refine Below.setCell ?_ (by(try simp)<;>omega) _))) rfl (bU _ [I J p,I J s,I J t,I J 65535] _ (by simp)) rfl (fV _ _ _ _) (by omega) (by simp;omega) ?_;intro B9 k9 w9 hown9 hc9 hb9 hg9 hB9);have HO9:=G hown9;have HB9:=U (By w w9) ((HBR.out.trans (show Below w.heap.size wr _ from(by repeat(first|exact Below.refl _ _|refine Below.alloc ?_ (by(try simp)<;>omega) _|refine Below.setCell ?_ (by(try simp)<;>omega) _)))).trans hb9);clear hown9 hc9 hb9 hg9 hB9;go_wp2_with fail;go_roundw
    case rel=>exact⟨i+1,B9,k9,by omega,by go_num,by rw[HA1.out,HAA.out],rfl,by rw[HF1.out,HW.out];exact HO9.out,HB9.out⟩
    simp[intOf];omega
  ·cases v with
   |true=>
    skip;have HW:=U (fl1=fl++[I J 0,I J 0,I J 0,I J 0]) (by rw[WNi.out];congr 1<;>simp[dO,wtE,aI,aC,aG]);have HAA:=U (a1=true) (by rw[ANi.out];simp[aC,aG]);clear WNi ANi;go_wp2_with(at_builtin;refine aJ _ _ 171 173 (.agg #[I J 0,I J 0,I J 0,I J 0]) 4 32 rfl rfl underlying171 fU rfl (by decide) (by decide) rfl (aK HO.out (by repeat(first|exact Below.refl _ _|refine Below.alloc ?_ (by(try simp)<;>omega) _|refine Below.setCell ?_ (by(try simp)<;>omega) _))) rfl (bU _ [I J 0,I J 0,I J 0,I J 0] _ (by simp)) rfl (fV _ _ _ _) (by omega) (by simp;omega) ?_;intro B9 k9 w9 hown9 hc9 hb9 hg9 hB9);have HO9:=G hown9;have HB9:=U (By w w9) ((HBR.out.trans (show Below w.heap.size wr _ from(by repeat(first|exact Below.refl _ _|refine Below.alloc ?_ (by(try simp)<;>omega) _|refine Below.setCell ?_ (by(try simp)<;>omega) _)))).trans hb9);clear hown9 hc9 hb9 hg9 hB9;go_wp2_with fail;go_roundw
    case rel=>exact⟨i+1,B9,k9,by omega,by go_num,by rw[HA1.out,HAA.out],rfl,by rw[HF1.out,HW.out];exact HO9.out,HB9.out⟩
    simp[intOf];omega
   |false=>
    by_cases hp:p=0
    ·subst hp
     cases a with
     |true=>
      skip;have HW:=U (fl1=fl++[I J 0,I J 0,I J 0,I J 0]) (by rw[WNi.out];congr 1<;>simp[dO,wtE,aI,aC,aG]);have HAA:=U (a1=true) (by rw[ANi.out];simp[aC,aG]);clear WNi ANi;go_wp2_with(at_builtin;refine aJ _ _ 171 173 (.agg #[I J 0,I J 0,I J 0,I J 0]) 4 32 rfl rfl underlying171 fU rfl (by decide) (by decide) rfl (aK HO.out (by repeat(first|exact Below.refl _ _|refine Below.alloc ?_ (by(try simp)<;>omega) _|refine Below.setCell ?_ (by(try simp)<;>omega) _))) rfl (bU _ [I J 0,I J 0,I J 0,I J 0] _ (by simp)) rfl (fV _ _ _ _) (by omega) (by simp;omega) ?_;intro B9 k9 w9 hown9 hc9 hb9 hg9 hB9);have HO9:=G hown9;have HB9:=U (By w w9) ((HBR.out.trans (show Below w.heap.size wr _ from(by repeat(first|exact Below.refl _ _|refine Below.alloc ?_ (by(try simp)<;>omega) _|refine Below.setCell ?_ (by(try simp)<;>omega) _)))).trans hb9);clear hown9 hc9 hb9 hg9 hB9;go_wp2_with fail;go_roundw
      case rel=>exact⟨i+1,B9,k9,by omega,by go_num,by rw[HA1.out,HAA.out],rfl,by rw[HF1.out,HW.out];exact HO9.out,HB9.out⟩
      simp[intOf];omega
     |false=>
      skip;have HW:=U (fl1=fl++[I J 0,I J s,I J t,I J 0]) (by rw[WNi.out];congr 1<;>simp[dO,wtE,aI,aC,aG]);have HAA:=U (a1=false) (by rw[ANi.out];simp[aC,aG]);clear WNi ANi;go_wp2_with(at_builtin;refine aJ _ _ 171 173 (.agg #[I J 0,I J 0,I J 0,I J 0]) 4 32 rfl rfl underlying171 fU rfl (by decide) (by decide) rfl (aK HO.out (by repeat(first|exact Below.refl _ _|refine Below.alloc ?_ (by(try simp)<;>omega) _|refine Below.setCell ?_ (by(try simp)<;>omega) _))) rfl (bU _ [I J 0,I J s,I J t,I J 0] _ (by simp)) rfl (fV _ _ _ _) (by omega) (by simp;omega) ?_;intro B9 k9 w9 hown9 hc9 hb9 hg9 hB9);have HO9:=G hown9;have HB9:=U (By w w9) ((HBR.out.trans (show Below w.heap.size wr _ from(by repeat(first|exact Below.refl _ _|refine Below.alloc ?_ (by(try simp)<;>omega) _|refine Below.setCell ?_ (by(try simp)<;>omega) _)))).trans hb9);clear hown9 hc9 hb9 hg9 hB9;go_wp2_with fail;go_roundw
      case rel=>exact⟨i+1,B9,k9,by omega,by go_num,by rw[HA1.out,HAA.out],rfl,by rw[HF1.out,HW.out];exact HO9.out,HB9.out⟩
      simp[intOf];omega
    obtain rfl:=HNN.out hp;have q1:(p !=0)=true:=by simpa using hp
    have hz:=HNE.out;have HW:=U (fl1=fl++[I J p,I J s,I J t,I J 0]) (by rw[WNi.out];congr 1<;>simp[dO,wtE,aI,aC,hz,hp]);have HAA:=U (a1=false) (by rw[ANi.out];simp[aC,hz,hp]);clear WNi ANi;go_wp2_with(at_builtin;refine aJ _ _ 171 173 (.agg #[I J 0,I J 0,I J 0,I J 0]) 4 32 rfl rfl underlying171 fU rfl (by decide) (by decide) rfl (aK HO.out (by repeat(first|exact Below.refl _ _|refine Below.alloc ?_ (by(try simp)<;>omega) _|refine Below.setCell ?_ (by(try simp)<;>omega) _))) rfl (bU _ [I J p,I J s,I J t,I J 0] _ (by simp)) rfl (fV _ _ _ _) (by omega) (by simp;omega) ?_;intro B9 k9 w9 hown9 hc9 hb9 hg9 hB9);have HO9:=G hown9;have HB9:=U (By w w9) ((HBR.out.trans (show Below w.heap.size wr _ from(by repeat(first|exact Below.refl _ _|refine Below.alloc ?_ (by(try simp)<;>omega) _|refine Below.setCell ?_ (by(try simp)<;>omega) _)))).trans hb9);clear hown9 hc9 hb9 hg9 hB9;go_wp2_with fail;go_roundw
    case rel=>exact⟨i+1,B9,k9,by omega,by go_num,by rw[HA1.out,HAA.out],rfl,by rw[HF1.out,HW.out];exact HO9.out,HB9.out⟩
    simp[intOf];omega
  cases v with
  |true=>
   skip;have HW:=U (fl1=fl++[I J 0,I J 0,I J 0,I J p]) (by rw[WNi.out];congr 1<;>simp[dO,wtE,aI,aC,aG]);have HAA:=U (a1=true) (by rw[ANi.out];simp[aC,aG]);clear WNi ANi;go_wp2_with(at_builtin;refine aJ _ _ 171 173 (.agg #[I J 0,I J 0,I J 0,I J 0]) 4 32 rfl rfl underlying171 fU rfl (by decide) (by decide) rfl (aK HO.out (by repeat(first|exact Below.refl _ _|refine Below.alloc ?_ (by(try simp)<;>omega) _|refine Below.setCell ?_ (by(try simp)<;>omega) _))) rfl (bU _ [I J 0,I J 0,I J 0,I J p] _ (by simp)) rfl (fV _ _ _ _) (by omega) (by simp;omega) ?_;intro B9 k9 w9 hown9 hc9 hb9 hg9 hB9);have HO9:=G hown9;have HB9:=U (By w w9) ((HBR.out.trans (show Below w.heap.size wr _ from(by repeat(first|exact Below.refl _ _|refine Below.alloc ?_ (by(try simp)<;>omega) _|refine Below.setCell ?_ (by(try simp)<;>omega) _)))).trans hb9);clear hown9 hc9 hb9 hg9 hB9;go_wp2_with fail;go_roundw
   case rel=>exact⟨i+1,B9,k9,by omega,by go_num,by rw[HA1.out,HAA.out],rfl,by rw[HF1.out,HW.out];exact HO9.out,HB9.out⟩
   simp[intOf];omega
  |false=>
   by_cases hp:p=0
   ·subst hp
    cases a with
    |true=>
     skip;have HW:=U (fl1=fl++[I J 0,I J 0,I J 0,I J 0]) (by rw[WNi.out];congr 1<;>simp[dO,wtE,aI,aC,aG]);have HAA:=U (a1=true) (by rw[ANi.out];simp[aC,aG]);clear WNi ANi;go_wp2_with(at_builtin;refine aJ _ _ 171 173 (.agg #[I J 0,I J 0,I J 0,I J 0]) 4 32 rfl rfl underlying171 fU rfl (by decide) (by decide) rfl (aK HO.out (by repeat(first|exact Below.refl _ _|refine Below.alloc ?_ (by(try simp)<;>omega) _|refine Below.setCell ?_ (by(try simp)<;>omega) _))) rfl (bU _ [I J 0,I J 0,I J 0,I J 0] _ (by simp)) rfl (fV _ _ _ _) (by omega) (by simp;omega) ?_;intro B9 k9 w9 hown9 hc9 hb9 hg9 hB9);have HO9:=G hown9;have HB9:=U (By w w9) ((HBR.out.trans (show Below w.heap.size wr _ from(by repeat(first|exact Below.refl _ _|refine Below.alloc ?_ (by(try simp)<;>omega) _|refine Below.setCell ?_ (by(try simp)<;>omega) _)))).trans hb9);clear hown9 hc9 hb9 hg9 hB9;go_wp2_with fail;go_roundw
     case rel=>exact⟨i+1,B9,k9,by omega,by go_num,by rw[HA1.out,HAA.out],rfl,by rw[HF1.out,HW.out];exact HO9.out,HB9.out⟩
     simp[intOf];omega
    |false=>
     cases nn with
     |true=>
      have hz:=pS HNE.out;obtain⟨-,rfl,rfl⟩:=hz;have HW:=U (fl1=fl++[I J 0,I J 0,I J 0,I J 0]) (by rw[WNi.out];congr 1<;>simp[dO,wtE,aI,aC,aG]);have HAA:=U (a1=false) (by rw[ANi.out];simp[aC,aG]);clear WNi ANi;go_wp2_with(at_builtin;refine aJ _ _ 171 173 (.agg #[I J 0,I J 0,I J 0,I J 0]) 4 32 rfl rfl underlying171 fU rfl (by decide) (by decide) rfl (aK HO.out (by repeat(first|exact Below.refl _ _|refine Below.alloc ?_ (by(try simp)<;>omega) _|refine Below.setCell ?_ (by(try simp)<;>omega) _))) rfl (bU _ [I J 0,I J 0,I J 0,I J 0] _ (by simp)) rfl (fV _ _ _ _) (by omega) (by simp;omega) ?_;intro B9 k9 w9 hown9 hc9 hb9 hg9 hB9);have HO9:=G hown9;have HB9:=U (By w w9) ((HBR.out.trans (show Below w.heap.size wr _ from(by repeat(first|exact Below.refl _ _|refine Below.alloc ?_ (by(try simp)<;>omega) _|refine Below.setCell ?_ (by(try simp)<;>omega) _)))).trans hb9);clear hown9 hc9 hb9 hg9 hB9;go_wp2_with fail;go_roundw
      case rel=>exact⟨i+1,B9,k9,by omega,by go_num,by rw[HA1.out,HAA.out],rfl,by rw[HF1.out,HW.out];exact HO9.out,HB9.out⟩
      simp[intOf];omega
     |false=>
      have hz:=HNE.out;have HW:=U (fl1=fl++[I J 0,I J s,I J t,I J 65535]) (by rw[WNi.out];congr 1<;>simp[dO,wtE,aI,aC,hz]);have HAA:=U (a1=false) (by rw[ANi.out];simp[aC,hz]);clear WNi ANi;go_wp2_with(at_builtin;refine aJ _ _ 171 173 (.agg #[I J 0,I J 0,I J 0,I J 0]) 4 32 rfl rfl underlying171 fU rfl (by decide) (by decide) rfl (aK HO.out (by repeat(first|exact Below.refl _ _|refine Below.alloc ?_ (by(try simp)<;>omega) _|refine Below.setCell ?_ (by(try simp)<;>omega) _))) rfl (bU _ [I J 0,I J s,I J t,I J 65535] _ (by simp)) rfl (fV _ _ _ _) (by omega) (by simp;omega) ?_;intro B9 k9 w9 hown9 hc9 hb9 hg9 hB9);have HO9:=G hown9;have HB9:=U (By w w9) ((HBR.out.trans (show Below w.heap.size wr _ from(by repeat(first|exact Below.refl _ _|refine Below.alloc ?_ (by(try simp)<;>omega) _|refine Below.setCell ?_ (by(try simp)<;>omega) _)))).trans hb9);clear hown9 hc9 hb9 hg9 hB9;go_wp2_with fail;go_roundw
      case rel=>exact⟨i+1,B9,k9,by omega,by go_num,by rw[HA1.out,HAA.out],rfl,by rw[HF1.out,HW.out];exact HO9.out,HB9.out⟩
      simp[intOf];omega
   obtain rfl:=HNN.out hp;have q1:(p !=0)=true:=by simpa using hp
   have hz:=HNE.out;have HW:=U (fl1=fl++[I J p,I J s,I J t,I J 65535]) (by rw[WNi.out];congr 1<;>simp[dO,wtE,aI,aC,hz,hp]);have HAA:=U (a1=false) (by rw[ANi.out];simp[aC,hz,hp]);clear WNi ANi;go_wp2_with(at_builtin;refine aJ _ _ 171 173 (.agg #[I J 0,I J 0,I J 0,I J 0]) 4 32 rfl rfl underlying171 fU rfl (by decide) (by decide) rfl (aK HO.out (by repeat(first|exact Below.refl _ _|refine Below.alloc ?_ (by(try simp)<;>omega) _|refine Below.setCell ?_ (by(try simp)<;>omega) _))) rfl (bU _ [I J p,I J s,I J t,I J 65535] _ (by simp)) rfl (fV _ _ _ _) (by omega) (by simp;omega) ?_;intro B9 k9 w9 hown9 hc9 hb9 hg9 hB9);have HO9:=G hown9;have HB9:=U (By w w9) ((HBR.out.trans (show Below w.heap.size wr _ from(by repeat(first|exact Below.refl _ _|refine Below.alloc ?_ (by(try simp)<;>omega) _|refine Below.setCell ?_ (by(try simp)<;>omega) _)))).trans hb9);clear hown9 hc9 hb9 hg9 hB9;go_wp2_with fail;go_roundw
   case rel=>exact⟨i+1,B9,k9,by omega,by go_num,by rw[HA1.out,HAA.out],rfl,by rw[HF1.out,HW.out];exact HO9.out,HB9.out⟩
   simp[intOf];omega
 obtain rfl:i=es.length:=by omega
 have HL:=G (WLe.out es.length);rw[List.take_length,Nat.min_self]at HL;rw[List.take_length]at HO;have HBQ:=G hbr;clear WN AN WLe hbr;generalize eN va false es=ws at *;go_wp2_with fail;go_ret;exact⟨A,k,by rw[HL.out];rfl,by rw[HL.out];exact HO.out,HBQ.out⟩
end
section
open Go.RowKit Go.Maps Go.WideMaps
theorem K_(C:Oa)(n a:Nat)(B:Oa)(m b:Nat)(c:Col)(w:Wv)(h:aU w C n B m c)(hz:bW c)(he:¬aW c=0):
  Calls prog 151 #[aQ C n a B m b c] w (fun e w'=>e=.returned (aQ N 0 0 N 0 0 gI)/\By w w'):=by
 have B0:By w ((w.alloc (.cells #[H C n a,H B m b,I J c.base,I J c.second,I J c.third] 32)).alloc (.cells #[H N 0 0,H N 0 0,I J 0,I J 0,I J 0] 32)):=(ba _ _).alloc (by simp) _;have X0:Box ((w.alloc (.cells #[H C n a,H B m b,I J c.base,I J c.second,I J c.third] 32)).alloc (.cells #[H N 0 0,H N 0 0,I J 0,I J 0,I J 0] 32)) w.heap.size 32 [H C n a,H B m b,I J c.base,I J c.second,I J c.third]:=aS (Box.new w 32 [H C n a,H B m b,I J c.base,I J c.second,I J c.third] rfl) _;have X1:Box ((w.alloc (.cells #[H C n a,H B m b,I J c.base,I J c.second,I J c.third] 32)).alloc (.cells #[H N 0 0,H N 0 0,I J 0,I J 0,I J 0] 32)) (w.heap.size+1) 32 [H N 0 0,H N 0 0,I J 0,I J 0,I J 0]:=Box.new _ _ _ (by simp);have W0E:∃W0,((w.alloc (.cells #[H C n a,H B m b,I J c.base,I J c.second,I J c.third] 32)).alloc (.cells #[H N 0 0,H N 0 0,I J 0,I J 0,I J 0] 32))=W0:=⟨_,rfl⟩;have CK:=G (fun W(hb:By w W)=>tX C n a B m b c W (h.below hb) hz);clear h hz;generalize aW c=er at *;have q:(er !=0)=true:=by simpa using he
 clear he;unfold aQ gI at *;go_enter func151,ntmps151;go_wp2_with fail;obtain⟨W0,hW0⟩:=W0E;rw[hW0]at B0 X0 X1|-;clear hW0;have s0:=X0.lt;have s1:=X1.lt;have c0:=X0.c 0 rfl;have c1:=X0.c 1 rfl;have c2:=X0.c 2 rfl;have c3:=X0.c 3 rfl;have c4:=X0.c 4 rfl;go_wp2_with fail;with_reducible refine(CK.out W0 B0).mono ?_
 rintro e W1 ⟨rfl,hb1⟩;have Y1:=X1.below hb1 s1;have B1:=B0.trans (hb1.mono B0.size);clear c0 c1 c2 c3 c4 X0 X1 B0 hb1 CK;have d0:=Y1.c 0 rfl;have d1:=Y1.c 1 rfl;have d2:=Y1.c 2 rfl;have d3:=Y1.c 3 rfl;have d4:=Y1.c 4 rfl;have f0:=Y1.free 0;have f1:=Y1.free 1;have f2:=Y1.free 2;have f3:=Y1.free 3;have f4:=Y1.free 4;have HB:=G (fun(u0 u1 u2 u3 u4:Value)=>show By w (((((W1.setCell ⟨w.heap.size+1,0,N⟩ u0).setCell ⟨w.heap.size+1,1,N⟩ u1).setCell ⟨w.heap.size+1,2,N⟩ u2).setCell ⟨w.heap.size+1,3,N⟩ u3).setCell ⟨w.heap.size+1,4,N⟩ u4)from((((B1.setCell (by simp) _).setCell (by simp) _).setCell (by simp) _).setCell (by simp) _).setCell (by simp) _);go_wp2_with fail;(try simp only[Exit.inBlock,Exit.then]);refine bodyPost_ret (AY _ _ (b:=w.heap.size+1) (v0:=H N 0 0) (v1:=H N 0 0) (z0:=64448) (z1:=32) (z2:=2) rfl (by go_simp) (by go_simp) (by go_simp) (by go_simp) (by go_simp)) rfl ?_;exact⟨rfl,HB.out _ _ _ _ _⟩
noncomputable def cdV(C:Oa)(n a:Nat)(B:Oa)(m b:Nat)(c:Col):Value:=if aW c=0 then aQ C n a B m b c else aQ N 0 0 N 0 0 gI
theorem wS(C:Oa)(n a:Nat)(B:Oa)(m b:Nat)(c:Col)(w:Wv)(h:aU w C n B m c)(hz:bW c):
  Calls prog 151 #[aQ C n a B m b c] w (fun e w'=>e=.returned (cdV C n a B m b c)/\By w w'):=by
 unfold cdV;by_cases he:aW c=0
 ·rw[if_pos he];exact LA C n a B m b c w h hz he
 rw[if_neg he];exact K_ C n a B m b c w h hz he
theorem bW.d{c:Col}(h:bW c):bW (cC c):=by
 by_cases he:aW c=0
 ·rw[oN he];exact h
 rw[oM he];exact⟨fun i hi=>by simp[gI]at hi,by simp[gI],by simp[gI]⟩
theorem JW(w:Wv):aU w N 0 N 0 gI:=⟨⟨[],rfl,Sl.nil _ _,fun i hi=>by simp[gI]at hi⟩,Sl.nil _ _,rfl,rfl,fun g hg=>by simp[gI]at hg⟩
theorem vX{C:Oa}{n:Nat}{B:Oa}{m:Nat}{c:Col}{w:Wv}(h:aU w C n B m c)(a b:Nat):∃C' n' a' B' m' b',cdV C n a B m b c=aQ C' n' a' B' m' b' (cC c)/\∀W,By w W->aU W C' n' B' m' (cC c):=by
 unfold cdV;by_cases he:aW c=0
 ·rw[if_pos he,oN he]
  exact⟨_,_,_,_,_,_,rfl,fun W hb=>h.below hb⟩
 rw[if_neg he,oM he];exact⟨_,_,_,_,_,_,rfl,fun W _=>JW W⟩
theorem WB(A:Oa)(n a:Nat)(zs:Li)(x:Int)(w:Wv)(hA:aA w A zs)(hn:zs.length=n)(hb:n<=2097152):
  Calls prog 175 #[H A n a,I J x] w (bE (zs++[x]) w):=by
 subst hn;have hal:By w (w.alloc (.cells #[] 3)):=ba _ _;go_enter func175,ntmps175;go_wp2_with(first|(at_builtin;refine aJ _ _ 49 3 (I J 0) 1 8 rfl rfl underlying49 aM rfl (by decide) (by decide) rfl (iS [] 3 1 0 w.heap.size rfl rfl (Nat.le_refl _) (by omega)) rfl (Sl.alloc hA _) (by simp) (aR _) (by omega) (by simp) ?_;intro B3 k3 w3 hown3 hc3 hb3 hg3 hB3;simp only[Nat.zero_add,List.nil_append]at hown3 hc3)|(at_builtin;refine aJ _ _ 49 3 (I J 0) 1 8 rfl rfl underlying49 aM rfl (by decide) (by decide) rfl (hown3.alloc _) rfl (bZ w3 [x] _ rfl) (by simp) (aR _) (by omega) (by have:=hb3.size;simp at this|-;omega) ?_;intro B5 k5 w5 hown5 hc5 hb5 hg5 hB5));go_ret;refine⟨B5,k5,by rw[List.length_append];rfl,by rw[List.length_append,List.map_append];exact hown5,hal.trans (hb3.trans ?_)⟩;have h3:=hb3.size;simp at h3;exact((Below.refl _ _).alloc (by omega) _).trans hb5
theorem WA(C:Oa)(n a:Nat)(B:Oa)(m b:Nat)(c:Col)(x:Int)(w:Wv)(h:aU w C n B m c)(hz:bW c):
  Calls prog 153 #[aQ C n a B m b c,I J x] w (uU (dJ (cC c) x) w):=by
 have B0:By w (w.alloc (.cells #[H C n a,H B m b,I J c.base,I J c.second,I J c.third] 32)):=ba _ _;have X0:Box (w.alloc (.cells #[H C n a,H B m b,I J c.base,I J c.second,I J c.third] 32)) w.heap.size 32 [H C n a,H B m b,I J c.base,I J c.second,I J c.third]:=Box.new w 32 [H C n a,H B m b,I J c.base,I J c.second,I J c.third] rfl;have W0E:∃W0,(w.alloc (.cells #[H C n a,H B m b,I J c.base,I J c.second,I J c.third] 32))=W0:=⟨_,rfl⟩;have V:=G (fun W=>fW x W);have DC:=G (fun W(hb:By w W)=>wS C n a B m b c W (h.below hb) hz);obtain⟨C',n',a',B',m',b',hv,_⟩:=vX h a b;have hcb:=wO (oO c);rw[hv]at DC;clear hv h hz;unfold aQ at *;generalize cC c=e at *;by_cases hx:0<=x/\x<=1114111
 ·have hv:inR 0 1114111 x=true:=iO hx.1 hx.2
  have HI:=U (dJ e x=[⟨e.base+x/32768,e.second,e.third,false⟩,⟨32768+x%32768,0,0,false⟩]) (if_pos hx);generalize dJ e x=l at *;obtain rfl:=HI.out;rw[hv]at V;clear hv HI;obtain⟨_,hb1,hb2,_⟩:=hcb;generalize e.base=eb at *;generalize e.second=es at *;generalize e.third=et at *;go_enter func153,ntmps153;go_upto_region 1 with(fail)
  obtain⟨W0,hW0⟩:=W0E;rw[hW0]at B0 X0|-;clear hW0;go_wp2_with fail;with_reducible refine(V.out _).mono ?_
  rintro r w1 ⟨rfl,rfl⟩;have q0:=X0.c 0 rfl;have q1:=X0.c 1 rfl;have q2:=X0.c 2 rfl;have q3:=X0.c 3 rfl;have q4:=X0.c 4 rfl;go_wp2_with fail;with_reducible refine(DC.out _ B0).mono ?_
  rintro r w1 ⟨rfl,hbb⟩;have hb3:=B0.trans (hbb.mono B0.size);clear q0 q1 q2 q3 q4 X0 DC V;go_wp2_with fail;go_ret;exact⟨_,_,rfl,bU _ _ _ (by simp),(hb3.alloc hb3.size _).alloc (by have:=hb3.size;simp;omega) _⟩
 have hv:inR 0 1114111 x=false:=by rw[lN];omega
 have HI:=U (dJ e x=[]) (if_neg hx);generalize dJ e x=l at *;obtain rfl:=HI.out;rw[hv]at V;clear hv HI hcb;go_enter func153,ntmps153;go_wp2_with fail;with_reducible refine(V.out _).mono ?_
 rintro r w1 ⟨rfl,rfl⟩;go_wp2_with fail;go_ret;exact⟨N,0,rfl,Sl.nil _ _,B0⟩
end
end Go.Proofs.YtpfbnikbebccjaaGreatDoor
