import Derived.Test.YtpfbnikbebccjaaGreatDoorU00
import Derived.Test.YtpfbnikbebccjaaGreatDoorU10
import Derived.Test.YtpfbnikbebccjaaGreatDoorU26
set_option maxRecDepth 100000
set_option maxHeartbeats 51200000
namespace Go.Proofs.YtpfbnikbebccjaaGreatDoor
open Option renaming none->N,some->Z
open Value renaming int->I,slice->H
open IntKind renaming i64->J
open Go.Proofs.Tryz
section
open Go.RowKit Go.Maps Go.WideMaps Srl
theorem bx2(w:Wv)(T:TypeId)(cs:Lv)(T1:TypeId)(cs1:Lv):∃W0,(w.alloc (.cells cs.toArray T)).alloc (.cells cs1.toArray T1)=W0/\By w W0/\Box W0 w.heap.size T cs/\Box W0 (w.heap.size+1) T1 cs1:=
 ⟨_,rfl,(ba _ _).alloc (by simp) _,aS (Box.new w T cs rfl) _,Box.new _ _ _ (by simp)⟩
theorem bx1(w:Wv)(T:TypeId)(cs:Lv):∃W0,w.alloc (.cells cs.toArray T)=W0/\By w W0/\Box W0 w.heap.size T cs:=
 ⟨_,rfl,ba _ _,Box.new w T cs rfl⟩
theorem bx3(w:Wv)(T:TypeId)(cs:Lv)(T1:TypeId)(cs1:Lv)(T2:TypeId)(cs2:Lv):∃W0,((w.alloc (.cells cs.toArray T)).alloc (.cells cs1.toArray T1)).alloc (.cells cs2.toArray T2)=W0/\By w W0/\Box W0 w.heap.size T cs/\Box W0 (w.heap.size+1) T1 cs1/\Box W0 (w.heap.size+1+1) T2 cs2:=
 ⟨_,rfl,((ba _ _).alloc (by simp) _).alloc (by simp<;>omega) _,aS (aS (Box.new w T cs rfl) _) _,aS (Box.new _ T1 cs1 (by simp)) _,Box.new _ _ _ (by simp)⟩
theorem Box.c13{w:Wv}{b:Nat}{t:TypeId}{u0 u1 u2 u3 u4 u5 u6 u7 u8 u9 u10 u11 u12:Value}(h:Box w b t [u0,u1,u2,u3,u4,u5,u6,u7,u8,u9,u10,u11,u12]):w.cell? ⟨b,0,N⟩=Z u0/\w.cell? ⟨b,1,N⟩=Z u1/\w.cell? ⟨b,2,N⟩=Z u2/\w.cell? ⟨b,3,N⟩=Z u3/\w.cell? ⟨b,4,N⟩=Z u4/\w.cell? ⟨b,5,N⟩=Z u5/\w.cell? ⟨b,6,N⟩=Z u6/\w.cell? ⟨b,7,N⟩=Z u7/\w.cell? ⟨b,8,N⟩=Z u8/\w.cell? ⟨b,9,N⟩=Z u9/\w.cell? ⟨b,10,N⟩=Z u10/\w.cell? ⟨b,11,N⟩=Z u11/\w.cell? ⟨b,12,N⟩=Z u12:=
 ⟨h.c 0 rfl,h.c 1 rfl,h.c 2 rfl,h.c 3 rfl,h.c 4 rfl,h.c 5 rfl,h.c 6 rfl,h.c 7 rfl,h.c 8 rfl,h.c 9 rfl,h.c 10 rfl,h.c 11 rfl,h.c 12 rfl⟩
theorem Box.f13{w:Wv}{b:Nat}{t:TypeId}{cs:Lv}(h:Box w b t cs):w.frozen? ⟨b,0,N⟩=false/\w.frozen? ⟨b,1,N⟩=false/\w.frozen? ⟨b,2,N⟩=false/\w.frozen? ⟨b,3,N⟩=false/\w.frozen? ⟨b,4,N⟩=false/\w.frozen? ⟨b,5,N⟩=false/\w.frozen? ⟨b,6,N⟩=false/\w.frozen? ⟨b,7,N⟩=false/\w.frozen? ⟨b,8,N⟩=false/\w.frozen? ⟨b,9,N⟩=false/\w.frozen? ⟨b,10,N⟩=false/\w.frozen? ⟨b,11,N⟩=false/\w.frozen? ⟨b,12,N⟩=false:=
 ⟨h.free 0,h.free 1,h.free 2,h.free 3,h.free 4,h.free 5,h.free 6,h.free 7,h.free 8,h.free 9,h.free 10,h.free 11,h.free 12⟩
theorem CB{w:Wv}{b:Nat}{t:TypeId}{cs:Lv}(h:Box w b t cs)(hl:cs.length=13)(u0 u1 u2 u3 u4 u5 u6 u7 u8 u9 u10 u11 u12:Value):∃Wf,(((((((((((((w.setCell ⟨b,0,N⟩ u0).setCell ⟨b,1,N⟩ u1).setCell ⟨b,2,N⟩ u2).setCell ⟨b,3,N⟩ u3).setCell ⟨b,4,N⟩ u4).setCell ⟨b,5,N⟩ u5).setCell ⟨b,6,N⟩ u6).setCell ⟨b,7,N⟩ u7).setCell ⟨b,8,N⟩ u8).setCell ⟨b,9,N⟩ u9).setCell ⟨b,10,N⟩ u10).setCell ⟨b,11,N⟩ u11).setCell ⟨b,12,N⟩ u12)=Wf/\Box Wf b t [u0,u1,u2,u3,u4,u5,u6,u7,u8,u9,u10,u11,u12]/\w.grownBy Wf (Z b):=by
 have e:((((((((((((cs.set 0 u0).set 1 u1).set 2 u2).set 3 u3).set 4 u4).set 5 u5).set 6 u6).set 7 u7).set 8 u8).set 9 u9).set 10 u10).set 11 u11).set 12 u12=[u0,u1,u2,u3,u4,u5,u6,u7,u8,u9,u10,u11,u12]:=by
  match cs,hl with
  | [a0,a1,a2,a3,a4,a5,a6,a7,a8,a9,a10,a11,a12],_=>rfl
 refine⟨_,rfl,?_,bJ (p:=⟨b,12,N⟩) (bJ (p:=⟨b,11,N⟩) (bJ (p:=⟨b,10,N⟩) (bJ (p:=⟨b,9,N⟩) (bJ (p:=⟨b,8,N⟩) (bJ (p:=⟨b,7,N⟩) (bJ (p:=⟨b,6,N⟩) (bJ (p:=⟨b,5,N⟩) (bJ (p:=⟨b,4,N⟩) (bJ (p:=⟨b,3,N⟩) (bJ (p:=⟨b,2,N⟩) (bJ (p:=⟨b,1,N⟩) (bJ (p:=⟨b,0,N⟩) (aO _ _) _) _) _) _) _) _) _) _) _) _) _) _) _⟩;have:=(((((((((((((h.set 0 u0).set 1 u1).set 2 u2).set 3 u3).set 4 u4).set 5 u5).set 6 u6).set 7 u7).set 8 u8).set 9 u9).set 10 u10).set 11 u11).set 12 u12);rw[e]at this;exact this
structure Rit where
 id:Int
 t:Li
 T:Oa
 k:Nat
def Rit.cells(r:Rit):Lv:=[I J r.id,H r.T r.t.length r.k]
def plR(R:List Rit):Its:=R.map fun r=>(r.id,r.t)
def a_(R:List Rit)(id:Int):List Rit:=R.filter fun r=>decide (r.id≠id)
def fD:List Rit->Int->Option Rit
 | [],_=>N
 |r::R,id=>if r.id=id then Z r else fD R id
def Rls(w:Wv)(I:Oa)(R:List Rit):Prop:=cV Rit.cells w I R
theorem Rls.below{w w':Wv}{I:Oa}{R:List Rit}(h:Rls w I R)(hb:By w w'):Rls w' I R:=cV.below h hb
theorem Rls.at{w:Wv}{I:Oa}{R:List Rit}(h:Rls w I R){m:Nat}(hm:m<R.length):
  ∃b o,I=Z ⟨b,o,N⟩/\b<w.heap.size/\∀i,(hi:i<R.length)->w.cell? ⟨b,o+i*2,N⟩=Z (.int .i64 R[i].id)/\w.cell? ⟨b,o+i*2+1,N⟩=Z (H R[i].T R[i].t.length R[i].k):=by
 obtain⟨b,o,rfl,hb,hc⟩:=cV.at 2 (fun _=>rfl) (by omega) h hm;exact⟨b,o,rfl,hb,fun i hi=>⟨hc i hi 0 _ rfl,hc i hi 1 _ rfl⟩⟩
theorem iT(R:List Rit):(plR R).length=R.length:=by simp[plR]
theorem mL(R:List Rit)(id:Int):plR (a_ R id)=remL (plR R) id:=by
 unfold plR a_ remL;rw[List.filter_map];rfl
theorem WY{R:List Rit}{id:Int}{i:Nat}(hi:i<R.length):a_ (R.take (i+1)) id=if R[i].id=id then a_ (R.take i) id else a_ (R.take i) id++[R[i]]:=by
 unfold a_;rw[List.take_succ_eq_append_getElem hi,List.filter_append];split
 ·next h=>simp[h]
 next h=>simp[h]
theorem tY(R:List Rit)(id:Int):(a_ R id).length<=R.length:=List.length_filter_le _ _
theorem sH:∀{R:List Rit}{id:Int}{i:Nat}(hi:i<R.length),(∀k,(hk:k<i)->R[k].id≠id)->R[i].id=id->fD R id=Z R[i]/\posL (plR R) id=i
 |r::R,id,0,_,_,h=>by
  have h':r.id=id:=h;constructor
  ·unfold fD;rw[if_pos h'];rfl
  show posL ((r.id,r.t)::plR R) id=_
  unfold posL;rw[if_pos h'];rfl
 |r::R,id,i+1,hi,hn,h=>by
  have h0:r.id≠id:=hn 0 (by omega);have hi':i<R.length:=by simpa using hi
  obtain⟨g1,g2⟩:=sH (R:=R) (id:=id) hi' (fun k hk=>hn (k+1) (by omega)) h
  constructor
  ·unfold fD;rw[if_neg h0,g1];rfl
  show posL ((r.id,r.t)::plR R) id=_
  unfold posL;rw[if_neg h0,g2,if_neg (by omega)];simp
theorem sJ:∀{R:List Rit}{id:Int},(∀k,(hk:k<R.length)->R[k].id≠id)->fD R id=N/\posL (plR R) id=-1
 | [],_,_=>⟨rfl,rfl⟩
 |r::R,id,hn=>by
  have h0:r.id≠id:=hn 0 (by simp);obtain⟨g1,g2⟩:=sJ (R:=R) (id:=id) (fun k hk=>hn (k+1) (by simpa using hk));constructor
  ·unfold fD;rw[if_neg h0,g1]
  show posL ((r.id,r.t)::plR R) id=_
  unfold posL;rw[if_neg h0,g2,if_pos rfl]
theorem sG:∀(R:List Rit)(id:Int),getL (plR R) id=(fD R id).map (·.t)
 | [],_=>rfl
 |r::R,id=>by
  show getL ((r.id,r.t)::plR R) id=_
  unfold getL fD;split
  ·rfl
  exact sG R id
theorem sI:∀{R:List Rit}{id:Int}{r:Rit},fD R id=Z r->r∈R
 |r::R,id,r',h=>by
  unfold fD at h;split at h
  ·injection h with h;subst h;exact List.mem_cons_self
  exact List.mem_cons_of_mem _ (sI h)
def gtV(r:Option Rit):Value:=match r with
 |some r=>H r.T r.t.length r.k
 |none=>H N 0 0
theorem nA:(prog.info? 93).map (fun i=>(i.zero,i.size,i.bytes))=Z (Z (.agg #[I J 0,H N 0 0]),2,32):=by kernel_rfl
theorem pT(r:Rit):∀u∈r.cells,u.oneCell'=true:=by
 intro u hu;unfold Rit.cells at hu;simp only[List.mem_cons,List.not_mem_nil,or_false]at hu;rcases hu with rfl|rfl<;>rfl
def rB(V:eQ)(x:Nrm)(c:Col)(o:Opt)(R':List Rit)(b:Bool)(w:Wv)(e:Ending)(w':Wv):Prop:=
 ∃A k,e=.returned (.tuple #[.agg #[H V.A0 x.cls.length V.k0,H V.A1 x.dec.length V.k1,H V.A2 x.exc.length V.k2,H V.C c.ents.length V.a,H V.B c.grps.length V.b,I J c.base,I J c.second,I J c.third,I J o.st,I J o.va,.bool o.bk,.bool o.idn,H A R'.length k],.bool b])/\w'.ownsRow w.heap.size 93 2 (H A R'.length k) R'.length (aF Rit.cells R')/\By w w'
theorem BC(V:eQ)(x:Nrm)(c:Col)(o:Opt)(I:Oa)(ic:Nat)(R:List Rit)(id:Int)(w:Wv)(hI:Rls w I R)(hn:R.length<=1000):
  Calls prog 13 #[.agg #[H V.A0 x.cls.length V.k0,H V.A1 x.dec.length V.k1,H V.A2 x.exc.length V.k2,H V.C c.ents.length V.a,H V.B c.grps.length V.b,.int .i64 c.base,.int .i64 c.second,.int .i64 c.third,.int .i64 o.st,.int .i64 o.va,.bool o.bk,.bool o.idn,H I R.length ic],.int .i64 id] w (rB V x c o (a_ R id) (decide ((a_ R id).length<R.length)) w):=by
 have W0E:=bx2 w 46 [H V.A0 x.cls.length V.k0,H V.A1 x.dec.length V.k1,H V.A2 x.exc.length V.k2,H V.C c.ents.length V.a,H V.B c.grps.length V.b,.int .i64 c.base,.int .i64 c.second,.int .i64 c.third,.int .i64 o.st,.int .i64 o.va,.bool o.bk,.bool o.idn,H I R.length ic] 46 [H N 0 0,H N 0 0,H N 0 0,H N 0 0,H N 0 0,.int .i64 0,.int .i64 0,.int .i64 0,.int .i64 0,.int .i64 0,.bool false,.bool false,H N 0 0];have HI:=G hI;have HL:=G (tY R id);have HT:=G (fun i(hi:i<R.length)=>WY (id:=id) hi);have HLT:=G (fun i=>show(a_ (R.take i) id).length<=min i R.length from by have:=tY (R.take i) id;rw[List.length_take]at this;exact this);clear hI;go_enter func13,ntmps13;go_upto_region 1 with(fail)
 obtain⟨W0,hW0,B0,X0,X1⟩:=W0E;rw[hW0];clear hW0;have l0:=X0.lt;have l1:=X1.lt;have c12:=X0.c 12 rfl;have XS:=G X0;have XR:=G X1;have HI0:=G (HI.out.below B0);clear X0 X1 HI;go_wp2_with fail;go_loopw [6,13] (fun u v wr=>∃(i:Nat)(A:Oa)(k:Nat),i<=R.length/\v=.int .i64 i/\u=H A (a_ (R.take i) id).length k/\wr.ownsRow W0.heap.size 93 2 (H A (a_ (R.take i) id).length k) (a_ (R.take i) id).length (aF Rit.cells (a_ (R.take i) id))/\By W0 wr) (fun _ v _=>R.length-(intOf v).toNat)
 case atStart=>exact⟨0,N,0,Nat.zero_le _,rfl,rfl,World.ownsRow_nil _ _ _ _,Below.refl _ _⟩
 obtain⟨i,A,k,hi,rfl,rfl,ho,hbr⟩:=hrel;have hrs:=hbr.size;have HO:=G ho;have HBR:=G hbr;have hLT:=HLT.out i;clear ho;by_cases hlt:i<R.length
 ·obtain⟨b,p,rfl,hbl,hcell⟩:=(HI0.out.below hbr).at hlt
  obtain⟨g0,g1⟩:=hcell i hlt;have HTi:=G (HT.out i hlt);have hq:=G (HLT.out (i+1));clear hcell hbr;have hne:¬b=wr.heap.size:=by omega
  generalize hr1:a_ (R.take (i+1)) id=R1 at *;have HR1:=G hr1;clear hr1;generalize a_ (R.take i) id=R0 at *;have e0:R[i].cells=[.int .i64 R[i].id,H R[i].T R[i].t.length R[i].k]:=rfl;have HON:=G (pT R[i]);rw[e0]at HON;by_cases hid:R[i].id=id
  ·have HR:=U (R1=R0) (by rw[HTi.out,if_pos hid])
   clear HTi HON;generalize R[i]=r at *;obtain⟨rid,rt,rT,rk⟩:=r;dsimp only at *;subst hid;go_wp2_with fail;go_roundw
   case rel=>exact⟨i+1,A,k,by omega,by go_num,by rw[HR1.out,HR.out],by rw[HR1.out,HR.out];exact aK HO.out (by repeat(first|exact Below.refl _ _|refine Below.alloc ?_ (by(try simp)<;>omega) _|refine Below.setCell ?_ (by(try simp)<;>omega) _)),HBR.out.trans (by repeat(first|exact Below.refl _ _|refine Below.alloc ?_ (by(try simp)<;>omega) _|refine Below.setCell ?_ (by(try simp)<;>omega) _))⟩
   simp[intOf];omega
  have HR:=U (R1=R0++[R[i]]) (by rw[HTi.out,if_neg hid]);have HFK:=U (aF Rit.cells R1=aF Rit.cells R0++R[i].cells) (by rw[HR.out,iM];simp[aF]);have HLN:=U (R1.length=R0.length+1) (by rw[HR.out];simp);clear HTi HR;rw[e0]at HFK;generalize R[i]=r at *;obtain⟨rid,rt,rT,rk⟩:=r;dsimp only at *;have d:(rid !=id)=true:=by simpa using hid
  go_wp2_with(at_builtin;refine aJ _ _ 44 93 (.agg #[.int .i64 0,H N 0 0]) 2 32 rfl rfl underlying44 nA rfl (by decide) (by decide) rfl (aK HO.out (by repeat(first|exact Below.refl _ _|refine Below.alloc ?_ (by(try simp)<;>omega) _|refine Below.setCell ?_ (by(try simp)<;>omega) _))) rfl (bU _ [.int .i64 rid,H rT rt.length rk] _ (by simp)) rfl HON.out (by omega) (by simp;omega) ?_;intro B9 k9 w9 hown9 hc9 hb9 hg9 hB9);have HO9:=G hown9;have HB9:=U (By W0 w9) ((HBR.out.trans (show Below W0.heap.size wr _ from(by repeat(first|exact Below.refl _ _|refine Below.alloc ?_ (by(try simp)<;>omega) _|refine Below.setCell ?_ (by(try simp)<;>omega) _)))).trans hb9);clear hown9 hc9 hb9 hg9 hB9;go_wp2_with fail;go_roundw
  case rel=>exact⟨i+1,B9,k9,by omega,by go_num,by rw[HR1.out,HLN.out],by rw[HR1.out,HLN.out,HFK.out];exact HO9.out,HB9.out⟩
  simp[intOf];omega
 obtain rfl:i=R.length:=by omega
 rw[List.take_length]at hLT HO|-;have Y0:=XS.out.below hbr l0;have Y1:=XR.out.below hbr l1;generalize a_ R id=R' at *;have c12':=Y0.c 12 rfl;have f12:=Y0.free 12;have BW:=B0.trans (hbr.mono B0.size)
 have W1E:∃W1,wr.setCell ⟨w.heap.size,12,N⟩ (H A R'.length k)=W1/\Box W1 w.heap.size 46 [H V.A0 x.cls.length V.k0,H V.A1 x.dec.length V.k1,H V.A2 x.exc.length V.k2,H V.C c.ents.length V.a,H V.B c.grps.length V.b,.int .i64 c.base,.int .i64 c.second,.int .i64 c.third,.int .i64 o.st,.int .i64 o.va,.bool o.bk,.bool o.idn,H A R'.length k]/\Box W1 (w.heap.size+1) 46 [H N 0 0,H N 0 0,H N 0 0,H N 0 0,H N 0 0,.int .i64 0,.int .i64 0,.int .i64 0,.int .i64 0,.int .i64 0,.bool false,.bool false,H N 0 0]/\By w W1/\W1.ownsRow W0.heap.size 93 2 (H A R'.length k) R'.length (aF Rit.cells R'):=
  ⟨_,rfl,Y0.set 12 _,bG Y1 _ (by simp) _,BW.setCell (by simp) _,kR HO.out (by simp;omega) _⟩
 clear HT HLT HL hLT Y0 Y1 HO HBR XS XR hbr BW HI0 B0;go_upto_region 10 with(fail)
 obtain⟨W1,hW1,Z0,Z1,BW1,HO1⟩:=W1E;rw[hW1];clear hW1 c12' f12 c12;obtain⟨a0,a1,a2,a3,a4,a5,a6,a7,a8,a9,a10,a11,a12⟩:=Z0.c13;obtain⟨g0,g1,g2,g3,g4,g5,g6,g7,g8,g9,g10,g11,g12⟩:=Z1.c13;obtain⟨f0,f1,f2,f3,f4,f5,f6,f7,f8,f9,f10,f11,f12⟩:=Z1.f13;have W2E:=CB Z1 rfl (H V.A0 x.cls.length V.k0) (H V.A1 x.dec.length V.k1) (H V.A2 x.exc.length V.k2) (H V.C c.ents.length V.a) (H V.B c.grps.length V.b) (.int .i64 c.base) (.int .i64 c.second) (.int .i64 c.third) (.int .i64 o.st) (.int .i64 o.va) (.bool o.bk) (.bool o.idn) (H A R'.length k);have HB:=G BW1;have HO2:=G HO1;clear Z0 Z1 BW1 HO1;go_wp2_with fail;obtain⟨Wf,hWf,ZF,GF⟩:=W2E;rw[hWf];clear hWf;(try simp only[Exit.inBlock,Exit.then]);refine bodyPost_ret (nL rfl _ _ (b:=w.heap.size+1) rfl (ZF.c 0 rfl) (ZF.c 1 rfl) (ZF.c 2 rfl) (ZF.c 3 rfl) (ZF.c 4 rfl) (ZF.c 5 rfl) (ZF.c 6 rfl) (ZF.c 7 rfl) (ZF.c 8 rfl) (ZF.c 9 rfl) (ZF.c 10 rfl) (ZF.c 11 rfl) (ZF.c 12 rfl)) rfl ?_;refine⟨A,k,rfl,eL (HO2.out.kept GF (.inr ?_)) (by omega),?_⟩
 ·intro e
  have:=(HO2.out.lt _ e).1;omega
 exact HB.out.grown GF HB.out.size (fun q e=>by injection e with e;omega)
theorem X_(v0 v1 v2 v3 v4 v5 v6 v7 v8 v9 v10 v11:Value)(I:Oa)(ic:Nat)(R:List Rit)(id:Int)(w:Wv)(hI:Rls w I R)(hn:R.length<=1000):
  Calls prog 18 #[.agg #[v0,v1,v2,v3,v4,v5,v6,v7,v8,v9,v10,v11,H I R.length ic],.int .i64 id] w (fun e w'=>e=.returned (.tuple #[gtV (fD R id),.bool (fD R id).isSome])/\By w w'):=by
 have W0E:=bx1 w 46 [v0,v1,v2,v3,v4,v5,v6,v7,v8,v9,v10,v11,H I R.length ic];have HI:=G hI;have HG:=G (fun i(hi:i<R.length)(h:∀k,(hk:k<R.length)->k<i->R[k].id≠id)(he:R[i].id=id)=>sH hi (fun k hk=>h k (Nat.lt_trans hk hi) hk) he);have HN:=G (fun(h:∀k,(hk:k<R.length)->R[k].id≠id)=>sJ h);generalize fD R id=gr at *;generalize posL (plR R) id=ps at *;clear hI;go_enter func18,ntmps18;go_upto_region 1 with(fail)
 obtain⟨W0,hW0,B0,X0⟩:=W0E;rw[hW0];clear hW0;have c12:=X0.c 12 rfl;have HI0:=G (HI.out.below B0);clear X0 HI;go_wp2_with fail;go_loopw [11] (fun v wr=>∃(i:Nat),i<=R.length/\v=.int .i64 i/\(∀k,(hk:k<R.length)->k<i->R[k].id≠id)/\By W0 wr) (fun v _=>R.length-(intOf v).toNat)
 case atStart=>exact⟨0,Nat.zero_le _,rfl,fun k _ h=>by omega,Below.refl _ _⟩
 obtain⟨i,hi,rfl,hno,hbr⟩:=hrel;have hrs:=hbr.size;have HBR:=G hbr;have HNO:=G hno;clear hno;by_cases hlt:i<R.length
 ·obtain⟨b,p,rfl,hbl,hcell⟩:=(HI0.out.below hbr).at hlt
  obtain⟨g0,g1⟩:=hcell i hlt;clear hcell hbr;have hne:¬b=wr.heap.size:=by omega
  by_cases hid:R[i].id=id
  ·have HF:=G (HG.out i hlt HNO.out hid)
   clear HG HN HNO;generalize R[i]=r at *;obtain⟨rid,rt,rT,rk⟩:=r;dsimp only at *;have d:(rid==id)=true:=by simpa using hid
   have HID:=G hid;clear hid;go_wp2_with fail;obtain⟨rfl,-⟩:=HF.out;go_ret2;exact⟨rfl,B0.trans ((HBR.out.trans (by repeat(first|exact Below.refl _ _|refine Below.alloc ?_ (by(try simp)<;>omega) _|refine Below.setCell ?_ (by(try simp)<;>omega) _))).mono B0.size)⟩
  ·have HS:=G (fun k(hk:k<R.length)(hk1:k<i+1)=>show R[k].id≠id from by
    rcases Nat.lt_or_ge k i with q|q
    ·exact HNO.out k hk q
    ·have:k=i:=by omega
     subst this
     exact hid)
   clear HNO;generalize R[i]=r at *;obtain⟨rid,rt,rT,rk⟩:=r;dsimp only at *;have d:(rid==id)=false:=by simpa using hid
   go_wp2_with fail;go_roundw
   case rel=>exact⟨i+1,by omega,by go_num,HS.out,HBR.out.trans (by repeat(first|exact Below.refl _ _|refine Below.alloc ?_ (by(try simp)<;>omega) _|refine Below.setCell ?_ (by(try simp)<;>omega) _))⟩
   simp[intOf];omega
 have HF:=G (HN.out (fun k hk=>HNO.out k hk (by omega)));have hbn:=B0.trans (hbr.mono B0.size);clear HG HN HNO;go_wp2_with fail;obtain⟨rfl,-⟩:=HF.out;go_ret2;exact⟨rfl,hbn⟩
theorem YD(v0 v1 v2 v3 v4 v5 v6 v7 v8 v9 v10 v11:Value)(I:Oa)(ic:Nat)(R:List Rit)(id:Int)(w:Wv)(hI:Rls w I R)(hn:R.length<=1000):
  Calls prog 23 #[.agg #[v0,v1,v2,v3,v4,v5,v6,v7,v8,v9,v10,v11,H I R.length ic],.int .i64 id] w (cA (posL (plR R) id) w):=by
 have W0E:=bx1 w 46 [v0,v1,v2,v3,v4,v5,v6,v7,v8,v9,v10,v11,H I R.length ic];have HI:=G hI;have HG:=G (fun i(hi:i<R.length)(h:∀k,(hk:k<R.length)->k<i->R[k].id≠id)(he:R[i].id=id)=>sH hi (fun k hk=>h k (Nat.lt_trans hk hi) hk) he);have HN:=G (fun(h:∀k,(hk:k<R.length)->R[k].id≠id)=>sJ h);generalize fD R id=gr at *;generalize posL (plR R) id=ps at *;clear hI;go_enter func23,ntmps23;go_upto_region 1 with(fail)
 obtain⟨W0,hW0,B0,X0⟩:=W0E;rw[hW0];clear hW0;have c12:=X0.c 12 rfl;have HI0:=G (HI.out.below B0);clear X0 HI;go_wp2_with fail;go_loopw [10] (fun v wr=>∃(i:Nat),i<=R.length/\v=.int .i64 i/\(∀k,(hk:k<R.length)->k<i->R[k].id≠id)/\By W0 wr) (fun v _=>R.length-(intOf v).toNat)
 case atStart=>exact⟨0,Nat.zero_le _,rfl,fun k _ h=>by omega,Below.refl _ _⟩
 obtain⟨i,hi,rfl,hno,hbr⟩:=hrel;have hrs:=hbr.size;have HBR:=G hbr;have HNO:=G hno;clear hno;by_cases hlt:i<R.length
 ·obtain⟨b,p,rfl,hbl,hcell⟩:=(HI0.out.below hbr).at hlt
  obtain⟨g0,g1⟩:=hcell i hlt;clear hcell hbr;have hne:¬b=wr.heap.size:=by omega
  by_cases hid:R[i].id=id
  ·have HF:=G (HG.out i hlt HNO.out hid)
   clear HG HN HNO;generalize R[i]=r at *;obtain⟨rid,rt,rT,rk⟩:=r;dsimp only at *;have d:(rid==id)=true:=by simpa using hid
   have HID:=G hid;clear hid;go_wp2_with fail;obtain⟨-,rfl⟩:=HF.out;go_ret;exact⟨rfl,B0.trans ((HBR.out.trans (by repeat(first|exact Below.refl _ _|refine Below.alloc ?_ (by(try simp)<;>omega) _|refine Below.setCell ?_ (by(try simp)<;>omega) _))).mono B0.size)⟩
  ·have HS:=G (fun k(hk:k<R.length)(hk1:k<i+1)=>show R[k].id≠id from by
    rcases Nat.lt_or_ge k i with q|q
    ·exact HNO.out k hk q
    ·have:k=i:=by omega
     subst this
     exact hid)
   clear HNO;generalize R[i]=r at *;obtain⟨rid,rt,rT,rk⟩:=r;dsimp only at *;have d:(rid==id)=false:=by simpa using hid
   go_wp2_with fail;go_roundw
   case rel=>exact⟨i+1,by omega,by go_num,HS.out,HBR.out.trans (by repeat(first|exact Below.refl _ _|refine Below.alloc ?_ (by(try simp)<;>omega) _|refine Below.setCell ?_ (by(try simp)<;>omega) _))⟩
   simp[intOf];omega
 have HF:=G (HN.out (fun k hk=>HNO.out k hk (by omega)));have hbn:=B0.trans (hbr.mono B0.size);clear HG HN HNO;go_wp2_with fail;obtain⟨-,rfl⟩:=HF.out;go_ret;exact⟨rfl,hbn⟩
theorem OP{R:List Rit}{i:Nat}(hi:i<R.length):idsL (plR (R.take (i+1)))=idsL (plR (R.take i))++[R[i].id]:=by
 rw[List.take_succ_eq_append_getElem hi];unfold idsL plR;rw[List.map_append,List.map_append];rfl
theorem yC(R:List Rit):(idsL (plR R)).length=R.length:=by simp[idsL,plR]
theorem YA(v0 v1 v2 v3 v4 v5 v6 v7 v8 v9 v10 v11:Value)(I:Oa)(ic:Nat)(R:List Rit)(w:Wv)(hI:Rls w I R)(hn:R.length<=1000):
  Calls prog 21 #[.agg #[v0,v1,v2,v3,v4,v5,v6,v7,v8,v9,v10,v11,H I R.length ic]] w (bE (idsL (plR R)) w):=by
 have W0E:=bx1 w 46 [v0,v1,v2,v3,v4,v5,v6,v7,v8,v9,v10,v11,H I R.length ic];have HI:=G hI;have HT:=G (fun i(hi:i<R.length)=>OP hi);have HLT:=G (fun i=>show(idsL (plR (R.take i))).length=min i R.length from by rw[yC,List.length_take]);have HLF:=G (yC R);unfold bE;clear hI;go_enter func21,ntmps21;go_upto_region 1 with(fail)
 obtain⟨W0,hW0,B0,X0⟩:=W0E;rw[hW0];clear hW0;have c12:=X0.c 12 rfl;have HI0:=G (HI.out.below B0);clear X0 HI;go_wp2_with fail;go_loopw [3,9] (fun u v wr=>∃(i:Nat)(A:Oa)(k:Nat),i<=R.length/\v=.int .i64 i/\u=H A i k/\wr.ownsRow W0.heap.size 3 1 (H A i k) i ((idsL (plR (R.take i))).map (Value.int .i64))/\By W0 wr) (fun _ v _=>R.length-(intOf v).toNat)
 case atStart=>exact⟨0,N,0,Nat.zero_le _,rfl,rfl,World.ownsRow_nil _ _ _ _,Below.refl _ _⟩
 obtain⟨i,A,k,hi,rfl,rfl,ho,hbr⟩:=hrel;have hrs:=hbr.size;have HO:=G ho;have HBR:=G hbr;clear ho;by_cases hlt:i<R.length
 ·obtain⟨b,p,rfl,hbl,hcell⟩:=(HI0.out.below hbr).at hlt
  obtain⟨g0,g1⟩:=hcell i hlt;have HTi:=U ((idsL (plR (R.take (i+1)))).map (Value.int .i64)=(idsL (plR (R.take i))).map (Value.int .i64)++[.int .i64 R[i].id]) (by rw[HT.out i hlt,List.map_append];rfl);clear hcell hbr;have hne:¬b=wr.heap.size:=by omega
  generalize R[i]=r at *;obtain⟨rid,rt,rT,rk⟩:=r;dsimp only at *;go_wp2_with(at_builtin;refine aJ _ _ 49 3 (.int .i64 0) 1 8 rfl rfl underlying49 aM rfl (by decide) (by decide) rfl (aK HO.out (by repeat(first|exact Below.refl _ _|refine Below.alloc ?_ (by(try simp)<;>omega) _|refine Below.setCell ?_ (by(try simp)<;>omega) _))) rfl (bU _ [.int .i64 rid] _ (by simp)) rfl (aR [rid]) (by omega) (by simp;omega) ?_;intro B9 k9 w9 hown9 hc9 hb9 hg9 hB9);have HO9:=G hown9;have HB9:=U (By W0 w9) ((HBR.out.trans (show Below W0.heap.size wr _ from(by repeat(first|exact Below.refl _ _|refine Below.alloc ?_ (by(try simp)<;>omega) _|refine Below.setCell ?_ (by(try simp)<;>omega) _)))).trans hb9);clear hown9 hc9 hb9 hg9 hB9;go_wp2_with fail;go_roundw
  case rel=>exact⟨i+1,B9,k9,by omega,by go_num,rfl,by rw[HTi.out];exact HO9.out,HB9.out⟩
  simp[intOf];omega
 obtain rfl:i=R.length:=by omega
 rw[List.take_length]at HO;have hbn:=B0.trans (hbr.mono B0.size);clear HT HLT;go_wp2_with fail;go_ret;exact⟨A,k,by rw[HLF.out]<;>rfl,by rw[HLF.out];exact eL HO.out (by have:=B0.size;omega),hbn⟩
theorem p_(V:eQ)(x:Nrm)(c:Col)(o:Opt)(I:Oa)(n ic:Nat)(A:Oa)(ak:Nat)(s:Li)(B:Oa)(bk:Nat)(t:Li)(w:Wv)(hN:bA w V.A0 x.cls.length V.A1 x.dec.length V.A2 x.exc.length x)(hC:aU w V.C c.ents.length V.B c.grps.length c)(hz:cK x)(hcz:bW c)(hA:aA w A s)(hB:aA w B t)(hs:s.length<=16384)(ht:t.length<=16384):
  Calls prog 52 #[.agg #[H V.A0 x.cls.length V.k0,H V.A1 x.dec.length V.k1,H V.A2 x.exc.length V.k2,H V.C c.ents.length V.a,H V.B c.grps.length V.b,.int .i64 c.base,.int .i64 c.second,.int .i64 c.third,.int .i64 o.st,.int .i64 o.va,.bool o.bk,.bool o.idn,H I n ic],H A s.length ak,H B t.length bk] w (cA (aD (kyN x c o s) (kyN x c o t)) w):=by
 have W0E:=bx1 w 46 [H V.A0 x.cls.length V.k0,H V.A1 x.dec.length V.k1,H V.A2 x.exc.length V.k2,H V.C c.ents.length V.a,H V.B c.grps.length V.b,.int .i64 c.base,.int .i64 c.second,.int .i64 c.third,.int .i64 o.st,.int .i64 o.va,.bool o.bk,.bool o.idn,H I n ic];have KC:=G (fun W(hb:By w W)=>VU V x c o A ak s B bk t W (hN.below hb) (hC.below hb) hz hcz (hA.below hb) (hB.below hb) hs ht);unfold cA at KC|-;generalize aD (kyN x c o s) (kyN x c o t)=q at *;clear hN hC hz hcz hA hB;go_enter func52,ntmps52;go_upto_region 1 with(fail)
 obtain⟨W0,hW0,B0,X0⟩:=W0E;rw[hW0];clear hW0;obtain⟨a0,a1,a2,a3,a4,a5,a6,a7,a8,a9,a10,a11,a12⟩:=X0.c13;clear X0;have KCi:=G (KC.out W0 B0);clear KC;go_wp2_with fail;with_reducible refine KCi.out.mono ?_
 rintro e W1 ⟨rfl,hb1⟩;have hbn:=B0.trans (hb1.mono B0.size);go_wp2_with fail;go_ret;exact⟨rfl,hbn⟩
theorem YB(V:eQ)(x:Nrm)(c:Col)(o:Opt)(I:Oa)(n ic:Nat)(r q:Rit)(w:Wv)(hN:bA w V.A0 x.cls.length V.A1 x.dec.length V.A2 x.exc.length x)(hC:aU w V.C c.ents.length V.B c.grps.length c)(hz:cK x)(hcz:bW c)(hA:aA w r.T r.t)(hB:aA w q.T q.t)(hs:r.t.length<=16384)(ht:q.t.length<=16384):
  Calls prog 44 #[.agg #[H V.A0 x.cls.length V.k0,H V.A1 x.dec.length V.k1,H V.A2 x.exc.length V.k2,H V.C c.ents.length V.a,H V.B c.grps.length V.b,.int .i64 c.base,.int .i64 c.second,.int .i64 c.third,.int .i64 o.st,.int .i64 o.va,.bool o.bk,.bool o.idn,H I n ic],.agg #[.int .i64 r.id,H r.T r.t.length r.k],.agg #[.int .i64 q.id,H q.T q.t.length q.k]] w (fH (decide (ltI (kyN x c o r.t,r.id) (kyN x c o q.t,q.id))) w):=by
 have W0E:=bx3 w 46 [H V.A0 x.cls.length V.k0,H V.A1 x.dec.length V.k1,H V.A2 x.exc.length V.k2,H V.C c.ents.length V.a,H V.B c.grps.length V.b,.int .i64 c.base,.int .i64 c.second,.int .i64 c.third,.int .i64 o.st,.int .i64 o.va,.bool o.bk,.bool o.idn,H I n ic] 93 [.int .i64 r.id,H r.T r.t.length r.k] 93 [.int .i64 q.id,H q.T q.t.length q.k];have KC:=G (fun W(hb:By w W)=>p_ V x c o I n ic r.T r.k r.t q.T q.k q.t W (hN.below hb) (hC.below hb) hz hcz (hA.below hb) (hB.below hb) hs ht);have EL:=U (ltI (kyN x c o r.t,r.id) (kyN x c o q.t,q.id)=(aD (kyN x c o r.t) (kyN x c o q.t)<0\/(aD (kyN x c o r.t) (kyN x c o q.t)=0/\r.id<q.id))) rfl;have EL2:decide (ltI (kyN x c o r.t,r.id) (kyN x c o q.t,q.id))=decide (aD (kyN x c o r.t) (kyN x c o q.t)<0\/(aD (kyN x c o r.t) (kyN x c o q.t)=0/\r.id<q.id)):=rfl;rw[EL2];clear EL2 EL;unfold cA at KC;unfold fH;generalize aD (kyN x c o r.t) (kyN x c o q.t)=z at *;obtain⟨rid,rt,rT,rk⟩:=r;obtain⟨qid,qt,qT,qk⟩:=q;dsimp only at *;clear hN hC hz hcz hA hB;go_enter func44,ntmps44;go_upto_region 1 with(fail)
 obtain⟨W0,hW0,B0,X0,X1,X2⟩:=W0E;rw[hW0];clear hW0;have l1:=X1.lt;have l2:=X2.lt;obtain⟨a0,a1,a2,a3,a4,a5,a6,a7,a8,a9,a10,a11,a12⟩:=X0.c13;have b0:=X1.c 0 rfl;have b1:=X1.c 1 rfl;have c0:=X2.c 0 rfl;have c1:=X2.c 1 rfl;have XB:=G (And.intro X1 X2);clear X0 X1 X2;have KCi:=G (KC.out W0 B0);clear KC;go_wp2_with fail;with_reducible refine KCi.out.mono ?_
 rintro e W1 ⟨rfl,hb1⟩;have hbn:=B0.trans (hb1.mono B0.size);obtain⟨X1,X2⟩:=XB.out;have b0':=(X1.below hb1 l1).c 0 rfl;have c0':=(X2.below hb1 l2).c 0 rfl;clear a0 a1 a2 a3 a4 a5 a6 a7 a8 a9 a10 a11 a12 b0 b1 c0 c1 X1 X2 XB KCi hb1;by_cases h1:z<0
 ·have d1:decide (z<0)=true:=decide_eq_true h1
  have HE:=U (decide (z<0\/(z=0/\rid<qid))=true) (decide_eq_true (.inl h1));clear h1;go_wp2_with fail;go_ret;exact⟨by first|rfl|(rw[HE.out]<;>rfl),hbn⟩
 have d1:decide (z<0)=false:=decide_eq_false h1;by_cases h2:z=0
 ·subst h2
  have HE:=U (decide ((0:Int)<0\/((0:Int)=0/\rid<qid))=decide (rid<qid)) (by simp);clear h1;go_wp2_with fail;go_ret;exact⟨by first|rfl|(rw[HE.out]<;>rfl),hbn⟩
 have d2:(z==0)=false:=by simpa using h2
 have HE:=U (decide (z<0\/(z=0/\rid<qid))=false) (decide_eq_false (by omega));clear h1 h2;go_wp2_with fail;go_ret;exact⟨by first|rfl|(rw[HE.out]<;>rfl),hbn⟩
theorem YC(V:eQ)(x:Nrm)(c:Col)(o:Opt)(I:Oa)(ic:Nat)(R:List Rit)(A:Oa)(ak:Nat)(t:Li)(w:Wv)(hN:bA w V.A0 x.cls.length V.A1 x.dec.length V.A2 x.exc.length x)(hC:aU w V.C c.ents.length V.B c.grps.length c)(hz:cK x)(hcz:bW c)(hI:Rls w I R)(hX:∀r∈R,aA w r.T r.t/\r.t.length<=16384)(hn:R.length<=1000)(hA:aA w A t)(ht:t.length<=16384):
  Calls prog 25 #[.agg #[H V.A0 x.cls.length V.k0,H V.A1 x.dec.length V.k1,H V.A2 x.exc.length V.k2,H V.C c.ents.length V.a,H V.B c.grps.length V.b,.int .i64 c.base,.int .i64 c.second,.int .i64 c.third,.int .i64 o.st,.int .i64 o.va,.bool o.bk,.bool o.idn,H I R.length ic],H A t.length ak] w (bE (idsL (lookL (kyN x c o) (plR R) t)) w):=by
 have W0E:=bx1 w 46 [H V.A0 x.cls.length V.k0,H V.A1 x.dec.length V.k1,H V.A2 x.exc.length V.k2,H V.C c.ents.length V.a,H V.B c.grps.length V.b,.int .i64 c.base,.int .i64 c.second,.int .i64 c.third,.int .i64 o.st,.int .i64 o.va,.bool o.bk,.bool o.idn,H I R.length ic];have HI:=G hI;have KC:=G (fun W(hb:By w W)i(hi:i<R.length)=>p_ V x c o I R.length ic R[i].T R[i].k R[i].t A ak t W (hN.below hb) (hC.below hb) hz hcz ((hX _ (List.getElem_mem hi)).1.below hb) (hA.below hb) (hX _ (List.getElem_mem hi)).2 ht);unfold cA at KC
 have HLE:=G (fun i=>show(idsL (lookL (kyN x c o) (plR (R.take i)) t)).length<=min i R.length from by
  have h1:(idsL (lookL (kyN x c o) (plR (R.take i)) t)).length<=(plR (R.take i)).length:=by rw[idsL_len];exact List.length_filter_le _ _
  rw[iT,List.length_take]at h1
  exact h1)
 have HT:=G (fun i(hi:i<R.length)=>show idsL (lookL (kyN x c o) (plR (R.take (i+1))) t)=idsL (lookL (kyN x c o) (plR (R.take i)) t)++(if aD (kyN x c o R[i].t) (kyN x c o t)=0 then [R[i].id]else [])from by
  have e:plR (R.take (i+1))=plR (R.take i)++[(R[i].id,R[i].t)]:=by unfold plR;rw[List.take_succ_eq_append_getElem hi,List.map_append];rfl
  rw[e]
  unfold lookL idsL
  rw[List.filter_append,List.map_append,List.filter_cons]
  by_cases hp:aD (kyN x c o R[i].t) (kyN x c o t)=0
  ·rw[if_pos hp];congr 1;rw[if_pos (by simpa using hp)];rfl
  ·rw[if_neg hp];congr 1;rw[if_neg (by simpa using hp)];rfl)
 unfold bE;clear hI hN hC hz hcz hX;go_enter func25,ntmps25;go_upto_region 1 with(fail)
 obtain⟨W0,hW0,B0,X0⟩:=W0E;rw[hW0];clear hW0;have l0:=X0.lt;have c12:=X0.c 12 rfl;have HI0:=G (HI.out.below B0);have XS:=G X0;clear X0 HI;go_wp2_with fail;go_loopw [5,11] (fun u v wr=>∃(i:Nat)(A:Oa)(k:Nat),i<=R.length/\v=.int .i64 i/\u=H A (idsL (lookL (kyN x c o) (plR (R.take i)) t)).length k/\wr.ownsRow W0.heap.size 3 1 (H A (idsL (lookL (kyN x c o) (plR (R.take i)) t)).length k) (idsL (lookL (kyN x c o) (plR (R.take i)) t)).length ((idsL (lookL (kyN x c o) (plR (R.take i)) t)).map (Value.int .i64))/\By W0 wr) (fun _ v _=>R.length-(intOf v).toNat)
 case atStart=>exact⟨0,N,0,Nat.zero_le _,rfl,rfl,World.ownsRow_nil _ _ _ _,Below.refl _ _⟩
 obtain⟨i,A9,k9,hi,rfl,rfl,ho,hbr⟩:=hrel;have hrs:=hbr.size;have HO:=G ho;have HBR:=G hbr;have hLT:=HLE.out i;clear ho;by_cases hlt:i<R.length
 ·obtain⟨b,p,rfl,hbl,hcell⟩:=(HI0.out.below hbr).at hlt
  obtain⟨g0,g1⟩:=hcell i hlt;have HTi:=G (HT.out i hlt);have hq:=G (HLE.out (i+1));have hne:¬b=wr.heap.size:=by omega
  have hs0:w.heap.size<wr.heap.size:=by omega
  have hne0:¬w.heap.size=wr.heap.size:=by omega
  have BW:=G (B0.trans (hbr.mono B0.size));obtain⟨a0,a1,a2,a3,a4,a5,a6,a7,a8,a9,a10,a11,a12⟩:=(XS.out.below hbr l0).c13;generalize hr1:idsL (lookL (kyN x c o) (plR (R.take (i+1))) t)=R1 at *;have HR1:=G hr1;clear hr1;generalize idsL (lookL (kyN x c o) (plR (R.take i)) t)=R0 at *;have KCi:=G (fun W(hb:By w W)=>KC.out W hb i hlt);generalize aD (kyN x c o R[i].t) (kyN x c o t)=z at *;clear hcell hbr;generalize R[i]=r at *;obtain⟨rid,rt,rT,rk⟩:=r;dsimp only at *;have W1E:=bx1 wr 93 [.int .i64 rid,H rT rt.length rk];go_wp2_with fail;obtain⟨W1,hW1,BW1,X1⟩:=W1E;rw[hW1];clear hW1;have l1:=X1.lt;have BW2:=BW.out.trans (BW1.mono BW.out.size);have XI:=G X1;clear X1 a0 a1 a2 a3 a4 a5 a6 a7 a8 a9 a10 a11 a12 g0 g1 hne;with_reducible refine(KCi.out _ BW2).mono ?_
  rintro e W2 ⟨rfl,hb2⟩;have HB12:=BW1.trans (hb2.mono BW1.size);have HO2:=G (aK HO.out HB12);have HBR2:=G (HBR.out.trans (HB12.mono hrs));have hs2:=HB12.size;have c0:=(XI.out.below hb2 l1).c 0 rfl;clear HO HBR KCi KC XI hb2 BW1 BW2;by_cases hz0:z=0
  ·subst hz0
   have HLN:=U (R1.length=R0.length+1) (by rw[HTi.out,if_pos rfl];simp);have HFK:=U (R1.map (Value.int .i64)=R0.map (Value.int .i64)++[.int .i64 rid]) (by rw[HTi.out,if_pos rfl,List.map_append];rfl);clear HTi;go_wp2_with(at_builtin;refine aJ _ _ 49 3 (.int .i64 0) 1 8 rfl rfl underlying49 aM rfl (by decide) (by decide) rfl (aK HO2.out (by repeat(first|exact Below.refl _ _|refine Below.alloc ?_ (by(try simp)<;>omega) _|refine Below.setCell ?_ (by(try simp)<;>omega) _))) rfl (bU _ [.int .i64 rid] _ (by simp)) rfl (aR [rid]) (by omega) (by simp;omega) ?_;intro B9 k9 w9 hown9 hc9 hb9 hg9 hB9);have HO9:=G hown9;have HB9:=U (By W0 w9) ((HBR2.out.trans (show Below W0.heap.size W2 _ from(by repeat(first|exact Below.refl _ _|refine Below.alloc ?_ (by(try simp)<;>omega) _|refine Below.setCell ?_ (by(try simp)<;>omega) _)))).trans hb9);clear hown9 hc9 hb9 hg9 hB9;go_wp2_with fail;go_roundw
   case rel=>exact⟨i+1,B9,k9,by omega,by go_num,by rw[HR1.out,HLN.out],by rw[HR1.out,HLN.out,HFK.out];exact HO9.out,HB9.out⟩
   simp[intOf];omega
  have d:(z==0)=false:=by simpa using hz0
  have HR:=U (R1=R0) (by rw[HTi.out,if_neg hz0,List.append_nil]);clear HTi;go_wp2_with fail;go_roundw
  case rel=>exact⟨i+1,A9,k9,by omega,by go_num,by rw[HR1.out,HR.out],by rw[HR1.out,HR.out];exact HO2.out,HBR2.out⟩
  simp[intOf];omega
 obtain rfl:i=R.length:=by omega
 have ETL:=U (R.take R.length=R) List.take_length;have hbn:=B0.trans (hbr.mono B0.size);clear HT HLE hLT;go_wp2_with fail;go_ret;have HO2:=HO.out;rw[ETL.out]at HO2;exact⟨A9,k9,by rw[ETL.out]<;>rfl,eL HO2 (by have:=B0.size;omega),hbn⟩
theorem XZ(V:eQ)(x:Nrm)(c:Col)(o:Opt)(I:Oa)(ic:Nat)(R:List Rit)(A:Oa)(ak:Nat)(t:Li)(B:Oa)(bk:Nat)(t2:Li)(w:Wv)(hN:bA w V.A0 x.cls.length V.A1 x.dec.length V.A2 x.exc.length x)(hC:aU w V.C c.ents.length V.B c.grps.length c)(hz:cK x)(hcz:bW c)(hI:Rls w I R)(hX:∀r∈R,aA w r.T r.t/\r.t.length<=16384)(hn:R.length<=1000)(hA:aA w A t)(ht:t.length<=16384)(hB:aA w B t2)(hu:t2.length<=16384):
  Calls prog 27 #[.agg #[H V.A0 x.cls.length V.k0,H V.A1 x.dec.length V.k1,H V.A2 x.exc.length V.k2,H V.C c.ents.length V.a,H V.B c.grps.length V.b,.int .i64 c.base,.int .i64 c.second,.int .i64 c.third,.int .i64 o.st,.int .i64 o.va,.bool o.bk,.bool o.idn,H I R.length ic],H A t.length ak,H B t2.length bk] w (bE (idsL (btwL (kyN x c o) (plR R) t t2)) w):=by
 have W0E:=bx1 w 46 [H V.A0 x.cls.length V.k0,H V.A1 x.dec.length V.k1,H V.A2 x.exc.length V.k2,H V.C c.ents.length V.a,H V.B c.grps.length V.b,.int .i64 c.base,.int .i64 c.second,.int .i64 c.third,.int .i64 o.st,.int .i64 o.va,.bool o.bk,.bool o.idn,H I R.length ic];have HI:=G hI;have KC:=G (fun W(hb:By w W)i(hi:i<R.length)=>p_ V x c o I R.length ic R[i].T R[i].k R[i].t A ak t W (hN.below hb) (hC.below hb) hz hcz ((hX _ (List.getElem_mem hi)).1.below hb) (hA.below hb) (hX _ (List.getElem_mem hi)).2 ht);unfold cA at KC;have KD:=G (fun W(hb:By w W)i(hi:i<R.length)=>p_ V x c o I R.length ic R[i].T R[i].k R[i].t B bk t2 W (hN.below hb) (hC.below hb) hz hcz ((hX _ (List.getElem_mem hi)).1.below hb) (hB.below hb) (hX _ (List.getElem_mem hi)).2 hu);unfold cA at KD
 have HLE:=G (fun i=>show(idsL (btwL (kyN x c o) (plR (R.take i)) t t2)).length<=min i R.length from by
  have h1:(idsL (btwL (kyN x c o) (plR (R.take i)) t t2)).length<=(plR (R.take i)).length:=by rw[idsL_len];exact List.length_filter_le _ _
  rw[iT,List.length_take]at h1
  exact h1)
 have HT:=G (fun i(hi:i<R.length)=>show idsL (btwL (kyN x c o) (plR (R.take (i+1))) t t2)=idsL (btwL (kyN x c o) (plR (R.take i)) t t2)++(if 0<=aD (kyN x c o R[i].t) (kyN x c o t)/\aD (kyN x c o R[i].t) (kyN x c o t2)<0 then [R[i].id]else [])from by
  have e:plR (R.take (i+1))=plR (R.take i)++[(R[i].id,R[i].t)]:=by unfold plR;rw[List.take_succ_eq_append_getElem hi,List.map_append];rfl
  rw[e]
  unfold btwL idsL
  rw[List.filter_append,List.map_append,List.filter_cons]
  by_cases hp:0<=aD (kyN x c o R[i].t) (kyN x c o t)/\aD (kyN x c o R[i].t) (kyN x c o t2)<0
  ·rw[if_pos hp];congr 1;rw[if_pos (by simpa using hp)];rfl
  ·rw[if_neg hp];congr 1;rw[if_neg (by simpa using hp)];rfl)
 unfold bE;clear hI hN hC hz hcz hX;go_enter func27,ntmps27;go_upto_region 1 with(fail)
 obtain⟨W0,hW0,B0,X0⟩:=W0E;rw[hW0];clear hW0;have l0:=X0.lt;have c12:=X0.c 12 rfl;have HI0:=G (HI.out.below B0);have XS:=G X0;clear X0 HI;go_wp2_with fail;go_loopw [7,13] (fun u v wr=>∃(i:Nat)(A:Oa)(k:Nat),i<=R.length/\v=.int .i64 i/\u=H A (idsL (btwL (kyN x c o) (plR (R.take i)) t t2)).length k/\wr.ownsRow W0.heap.size 3 1 (H A (idsL (btwL (kyN x c o) (plR (R.take i)) t t2)).length k) (idsL (btwL (kyN x c o) (plR (R.take i)) t t2)).length ((idsL (btwL (kyN x c o) (plR (R.take i)) t t2)).map (Value.int .i64))/\By W0 wr) (fun _ v _=>R.length-(intOf v).toNat)
 case atStart=>exact⟨0,N,0,Nat.zero_le _,rfl,rfl,World.ownsRow_nil _ _ _ _,Below.refl _ _⟩
 obtain⟨i,A9,k9,hi,rfl,rfl,ho,hbr⟩:=hrel;have hrs:=hbr.size;have HO:=G ho;have HBR:=G hbr;have hLT:=HLE.out i;clear ho;by_cases hlt:i<R.length
 ·obtain⟨b,p,rfl,hbl,hcell⟩:=(HI0.out.below hbr).at hlt
  obtain⟨g0,g1⟩:=hcell i hlt;have HTi:=G (HT.out i hlt);have hq:=G (HLE.out (i+1));have hne:¬b=wr.heap.size:=by omega
  have hs0:w.heap.size<wr.heap.size:=by omega
  have hne0:¬w.heap.size=wr.heap.size:=by omega
  have BW:=G (B0.trans (hbr.mono B0.size));obtain⟨a0,a1,a2,a3,a4,a5,a6,a7,a8,a9,a10,a11,a12⟩:=(XS.out.below hbr l0).c13;generalize hr1:idsL (btwL (kyN x c o) (plR (R.take (i+1))) t t2)=R1 at *;have HR1:=G hr1;clear hr1;generalize idsL (btwL (kyN x c o) (plR (R.take i)) t t2)=R0 at *;have KCi:=G (fun W(hb:By w W)=>KC.out W hb i hlt);have KDi:=G (fun W(hb:By w W)=>KD.out W hb i hlt);have hbr2:=G hbr;generalize aD (kyN x c o R[i].t) (kyN x c o t)=z at *;generalize aD (kyN x c o R[i].t) (kyN x c o t2)=z' at *;clear hcell hbr;generalize R[i]=r at *;obtain⟨rid,rt,rT,rk⟩:=r;dsimp only at *;have W1E:=bx1 wr 93 [.int .i64 rid,H rT rt.length rk];go_wp2_with fail;obtain⟨W1,hW1,BW1,X1⟩:=W1E;rw[hW1];clear hW1;have l1:=X1.lt;have BW2:=BW.out.trans (BW1.mono BW.out.size);have XI:=G X1;clear X1 a0 a1 a2 a3 a4 a5 a6 a7 a8 a9 a10 a11 a12 g0 g1 hne;with_reducible refine(KCi.out _ BW2).mono ?_
  rintro e W2 ⟨rfl,hb2⟩;have HB12:=BW1.trans (hb2.mono BW1.size);have BW3:=BW2.trans (hb2.mono BW2.size);have X2:=XI.out.below hb2 l1;have l2:=X2.lt;have XJ:=G X2;clear KCi KC XI hb2 BW1 BW2;by_cases h1:0<=z;rotate_left
  ·have d1:decide (0<=z)=false:=decide_eq_false h1
   have HO2:=G (aK HO.out HB12);have HBR2:=G (HBR.out.trans (HB12.mono hrs));clear HO HBR KDi KD XJ X2 HB12;have HR:=U (R1=R0) (by rw[HTi.out,if_neg (fun q=>h1 q.1),List.append_nil]);clear HTi;go_wp2_with fail;go_roundw
   case rel=>exact⟨i+1,A9,k9,by omega,by go_num,by rw[HR1.out,HR.out],by rw[HR1.out,HR.out];exact HO2.out,HBR2.out⟩
   simp[intOf];omega
  have d1:decide (0<=z)=true:=decide_eq_true h1;have hs2:=HB12.size;obtain⟨a0,a1,a2,a3,a4,a5,a6,a7,a8,a9,a10,a11,a12⟩:=((XS.out.below hbr2.out l0).below HB12 (by have:=hbr2.out.size;omega)).c13;have e1:=X2.c 1 rfl;clear X2;go_wp2_with fail;with_reducible refine(KDi.out _ BW3).mono ?_
  rintro e W3 ⟨rfl,hb3⟩;have HB13:=HB12.trans (hb3.mono hs2);have HO2:=G (aK HO.out HB13);have HBR2:=G (HBR.out.trans (HB13.mono hrs));have hs3:=HB13.size;have c0:=(XJ.out.below hb3 l2).c 0 rfl;clear HO HBR KDi KD XJ hb3 HB12 HB13 BW3 a0 a1 a2 a3 a4 a5 a6 a7 a8 a9 a10 a11 a12 e1;by_cases h2:z' < 0
  ·have d2:decide (z' < 0)=true:=decide_eq_true h2
   have HLN:=U (R1.length=R0.length+1) (by rw[HTi.out,if_pos ⟨h1,h2⟩];simp);have HFK:=U (R1.map (Value.int .i64)=R0.map (Value.int .i64)++[.int .i64 rid]) (by rw[HTi.out,if_pos ⟨h1,h2⟩,List.map_append];rfl);clear HTi;go_wp2_with(at_builtin;refine aJ _ _ 49 3 (.int .i64 0) 1 8 rfl rfl underlying49 aM rfl (by decide) (by decide) rfl (aK HO2.out (by repeat(first|exact Below.refl _ _|refine Below.alloc ?_ (by(try simp)<;>omega) _|refine Below.setCell ?_ (by(try simp)<;>omega) _))) rfl (bU _ [.int .i64 rid] _ (by simp)) rfl (aR [rid]) (by omega) (by simp;omega) ?_;intro B9 k9 w9 hown9 hc9 hb9 hg9 hB9);have HO9:=G hown9;have HB9:=U (By W0 w9) ((HBR2.out.trans (show Below W0.heap.size W3 _ from(by repeat(first|exact Below.refl _ _|refine Below.alloc ?_ (by(try simp)<;>omega) _|refine Below.setCell ?_ (by(try simp)<;>omega) _)))).trans hb9);clear hown9 hc9 hb9 hg9 hB9;go_wp2_with fail;go_roundw
   case rel=>exact⟨i+1,B9,k9,by omega,by go_num,by rw[HR1.out,HLN.out],by rw[HR1.out,HLN.out,HFK.out];exact HO9.out,HB9.out⟩
   simp[intOf];omega
  have d2:decide (z' < 0)=false:=decide_eq_false h2;have HR:=U (R1=R0) (by rw[HTi.out,if_neg (fun q=>h2 q.2),List.append_nil]);clear HTi;go_wp2_with fail;go_roundw
  case rel=>exact⟨i+1,A9,k9,by omega,by go_num,by rw[HR1.out,HR.out],by rw[HR1.out,HR.out];exact HO2.out,HBR2.out⟩
  simp[intOf];omega
 obtain rfl:i=R.length:=by omega
 have ETL:=U (R.take R.length=R) List.take_length;have hbn:=B0.trans (hbr.mono B0.size);clear HT HLE hLT;go_wp2_with fail;go_ret;have HO2:=HO.out;rw[ETL.out]at HO2;exact⟨A9,k9,by rw[ETL.out]<;>rfl,eL HO2 (by have:=B0.size;omega),hbn⟩
end
end Go.Proofs.YtpfbnikbebccjaaGreatDoor
