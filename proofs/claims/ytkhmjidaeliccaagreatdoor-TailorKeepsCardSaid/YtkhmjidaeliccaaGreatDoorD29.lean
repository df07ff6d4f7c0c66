import Derived.Test.YtkhmjidaeliccaaGreatDoorD00
import Derived.Test.YtkhmjidaeliccaaGreatDoorD08
import Derived.Test.YtkhmjidaeliccaaGreatDoorD14
import Derived.Test.YtkhmjidaeliccaaGreatDoorD18
import Derived.Test.YtkhmjidaeliccaaGreatDoorD24
import Derived.Test.YtkhmjidaeliccaaGreatDoorD27
import Derived.Test.YtkhmjidaeliccaaGreatDoorD28
import Derived.Deep.Cut
set_option maxRecDepth 100000
set_option maxHeartbeats 51200000
namespace Go.Proofs.YtkhmjidaeliccaaGreatDoor
open Option renaming none->N,some->Z
open Value renaming int->I,slice->H
open IntKind renaming i64->J
open Go.Proofs.Tryz
section
open Go.RowKit Go.Maps Go.WideMaps Tl
def frB(d u:Li):Bool:=decide (0<d.length)&&u.all (fun z=>decide (z≠d.headD 0))
theorem rE{d u:Li}(h:frB d u=true):freeT d u:=by
 unfold frB at h;rw[Bool.and_eq_true,List.all_eq_true]at h;cases d with
 |nil=>simp at h
 |cons a d=>exact⟨a,d,rfl,fun hm=>by have:=h.2 a hm;simp at this⟩
theorem JT{d u:Li}(h:¬0<d.length):frB d u=false:=by unfold frB;rw[decide_eq_false h];rfl
theorem JR{d u:Li}{i:Nat}(hi:i<u.length)(h:u[i]=d.headD 0):frB d u=false:=by
 cases hf:frB d u with
 |false=>rfl
 |true=>
  unfold frB at hf;rw[Bool.and_eq_true,List.all_eq_true]at hf;have:=of_decide_eq_true (hf.2 _ (List.getElem_mem hi));exact absurd h this
theorem JS{d u:Li}(hd:0<d.length)(h:∀j,(hj:j<u.length)->j<u.length->u[j]≠d.headD 0):frB d u=true:=by
 unfold frB;rw[decide_eq_true hd,Bool.true_and,List.all_eq_true];intro z hz;obtain⟨j,hj,rfl⟩:=List.getElem_of_mem hz;exact decide_eq_true (h j hj hj)
theorem LJ{d:Li}(h:0<d.length):d.headD 0=d[0]:=by cases d with
 |nil=>simp at h
 |cons a d=>rfl
theorem rF(V:iT)(x:Nrm)(c:Col)(t:Tlr)(A:Oa)(k:Nat)(u:Li)(w:Wv)(hS:jQ w V x c t)(hL:cK w)(hz:cC x)(hq:t.cds.length<=12)(hA:aB w A u)(hu:u.length<=12)(hio:∀z∈u,iok z):
  Calls prog 24 #[.agg #[H V.A0 x.cls.length V.k0,H V.A1 x.dec.length V.k1,H V.A2 x.exc.length V.k2,H V.C c.ents.length V.a,H V.B c.grps.length V.b,I J c.base,I J c.second,I J c.third,H V.P t.anc.length V.p,H V.Q t.cds.length V.q,I J t.lvl,.bool t.bef],H A u.length k] w (eD (frB (dtx x false t.cds) (dtx x false u)) w):=by
 have B0:By w (w.alloc (.cells #[H V.A0 x.cls.length V.k0,H V.A1 x.dec.length V.k1,H V.A2 x.exc.length V.k2,H V.C c.ents.length V.a,H V.B c.grps.length V.b,I J c.base,I J c.second,I J c.third,H V.P t.anc.length V.p,H V.Q t.cds.length V.q,I J t.lvl,.bool t.bef] 37)):=ba _ _;have X0:Box (w.alloc (.cells #[H V.A0 x.cls.length V.k0,H V.A1 x.dec.length V.k1,H V.A2 x.exc.length V.k2,H V.C c.ents.length V.a,H V.B c.grps.length V.b,I J c.base,I J c.second,I J c.third,H V.P t.anc.length V.p,H V.Q t.cds.length V.q,I J t.lvl,.bool t.bef] 37)) w.heap.size 37 [H V.A0 x.cls.length V.k0,H V.A1 x.dec.length V.k1,H V.A2 x.exc.length V.k2,H V.C c.ents.length V.a,H V.B c.grps.length V.b,I J c.base,I J c.second,I J c.third,H V.P t.anc.length V.p,H V.Q t.cds.length V.q,I J t.lvl,.bool t.bef]:=Box.new _ _ _ rfl;have W0E:∃W0,(w.alloc (.cells #[H V.A0 x.cls.length V.k0,H V.A1 x.dec.length V.k1,H V.A2 x.exc.length V.k2,H V.C c.ents.length V.a,H V.B c.grps.length V.b,I J c.base,I J c.second,I J c.third,H V.P t.anc.length V.p,H V.Q t.cds.length V.q,I J t.lvl,.bool t.bef] 37))=W0:=⟨_,rfl⟩;have K1:=G (fun W(hb:By w W)=>kW V.A0 _ V.k0 V.A1 _ V.k1 V.A2 _ V.k2 x V.Q _ V.q t.cds false W (hS.nrm.below hb) hz (hL.below hb) (hS.cds.1.below hb) rfl (by omega) hS.cds.2.2.2);have K2:=G (fun W(hb:By w W)=>kW V.A0 _ V.k0 V.A1 _ V.k1 V.A2 _ V.k2 x A _ k u false W (hS.nrm.below hb) hz (hL.below hb) (hA.below hb) rfl (by omega) hio);have hl1:(dtx x false t.cds).length<=1048576:=by have:=jZ x false t.cds;omega
 have hl2:(dtx x false u).length<=1048576:=by have:=jZ x false u;omega
 obtain⟨n0,hn0⟩:∃n,w.heap.size=n:=⟨_,rfl⟩;rw[hn0]at X0;have RN:=G (fun(h:¬0<(dtx x false t.cds).length)=>JT (u:=dtx x false u) h);have RB:=G (fun i(hi:i<(dtx x false u).length)h=>JR (d:=dtx x false t.cds) hi h);have RE:=G (fun hd h=>JS (d:=dtx x false t.cds) (u:=dtx x false u) hd h);generalize dtx x false t.cds=dd at *;generalize dtx x false u=du at *;generalize frB dd du=r at *;unfold eS at K1 K2;clear hS hL hz hA hio;go_enter func24,ntmps24;go_upto_region 1 with(fail)
 obtain⟨W0,hW0⟩:=W0E;try rw[hW0]at B0 X0|-
 try rw[hn0]
 clear hW0;have HX:=G X0;have l0:=X0.lt;have HB0:=G B0;clear X0 B0;have d0:=(HX.out).c 0 rfl;have d1:=(HX.out).c 1 rfl;have d2:=(HX.out).c 2 rfl;have d9:=(HX.out).c 9 rfl;go_wp2_with fail;with_reducible refine(K1.out W0 HB0.out).mono ?_
 rintro e W1 ⟨D,dk,rfl,hD,hb1⟩;have HB1:=G (HB0.out.trans (hb1.mono HB0.out.size));have HX1:=G (HX.out.below hb1 l0);have HD1:=G (Sl.of_own hD);clear hD hb1 HB0 HX K1 d0 d1 d2 d9;have e0:=(HX1.out).c 0 rfl;have e1:=(HX1.out).c 1 rfl;have e2:=(HX1.out).c 2 rfl;go_wp2_with fail;with_reducible refine(K2.out W1 HB1.out).mono ?_
 rintro e W2 ⟨E,ek,rfl,hE,hb2⟩;have HB2:=G (HB1.out.trans (hb2.mono HB1.out.size));have HD2:=U (aB W2 D dd) (HD1.out.below hb2);have HE2:=U (aB W2 E du) (Sl.of_own hE);clear hE hb2 HD1 HB1 HX1 K2 e0 e1 e2;by_cases hd:0<dd.length;rotate_left
 ·have d1:decide (0<dd.length)=false:=decide_eq_false hd
  obtain rfl:=RN.out hd;by_cases hu0:0<du.length
  ·have d2:decide (0<du.length)=true:=decide_eq_true hu0
   go_wp2_with fail;go_loopw [7] (fun v wr=>v=I J 0/\wr=W2) (fun _ _=>0)
   case atStart=>exact⟨rfl,rfl⟩
   obtain⟨rfl,rfl⟩:=hrel;go_wp2_with fail;go_ret;exact⟨rfl,HB2.out⟩
  have d2:decide (0<du.length)=false:=decide_eq_false hu0;go_wp2_with fail;go_loopw [7] (fun v wr=>v=I J 0/\wr=W2) (fun _ _=>0)
  case atStart=>exact⟨rfl,rfl⟩
  obtain⟨rfl,rfl⟩:=hrel;go_wp2_with fail;go_ret;exact⟨rfl,HB2.out⟩
 have d1:decide (0<dd.length)=true:=decide_eq_true hd;obtain⟨b1,o1,rfl,hcell⟩:=HD2.out.at hd;have hc1:=U (W2.cell? ⟨b1,o1,N⟩=Z (I J (dd.headD 0))) (by rw[LJ hd];simpa using hcell 0 hd);have HRE:=G (fun h=>RE.out hd h);clear hcell RE RN HD2;generalize dd.headD 0=h0 at *;go_wp2_with fail;go_loopw [7] (fun v wr=>∃i:Nat,i<=du.length/\v=I J i/\Hid (∀j,(hj:j<du.length)->j<i->du[j]≠h0)/\Qt W2 wr) (fun v _=>du.length-(intOf v).toNat)
 case atStart=>exact⟨0,Nat.zero_le _,rfl,G (fun j _ h=>absurd h (by omega)),Qt.refl _⟩
 obtain⟨i,hi,rfl,hall,hqt⟩:=hrel;by_cases hlt:i<du.length
 ·obtain⟨b2,o2,rfl,hcell2⟩:=(HE2.out.below hqt.below).at hlt
  have e1:=hcell2 i hlt;have e2:=(hqt.below.cell (p:=⟨b1,o1,N⟩) (World.block_lt_of_cell? _ _ hc1.out)).trans hc1.out;have q2:(i:Int)<(du.length:Int):=by omega
  have q3:(0:Int)<(dd.length:Int):=by omega
  have HBAD:=G (RB.out i hlt)
  have HEX:=G (fun(h:du[i]≠h0)=>show ∀j,(hj:j<du.length)->j<i+1->du[j]≠h0 from fun j hj hji=>by
   rcases Nat.lt_or_ge j i with g|g
   ·exact hall.out j hj g
   ·obtain rfl:j=i:=by omega
    exact h)
  clear hcell2 hall;generalize du[i]=z at *;by_cases hzx:z=h0
  ·obtain rfl:=HBAD.out hzx
   have q4:(z==h0)=true:=by simp[hzx]
   clear HBAD HEX;go_wp2_with fail;go_quiet(fail);go_wp2_with fail;go_ret;exact⟨rfl,HB2.out.trans ((hqt.drewN _).below.mono HB2.out.size)⟩
  have q4:(z==h0)=false:=by simp[hzx]
  have HNX:=G (HEX.out hzx);clear HBAD HEX;go_wp2_with fail;go_quiet(fail);go_wp2_with fail;go_roundw
  case rel=>exact⟨i+1,by omega,by go_num,G HNX.out,hqt.drewN _⟩
  simp[intOf];omega
 obtain rfl:i=du.length:=by omega
 have hr:=HRE.out (fun j hj _=>hall.out j hj hj);subst hr;go_wp2_with fail;go_ret;exact⟨rfl,HB2.out.trans (hqt.below.mono HB2.out.size)⟩
theorem xX(s:Int)(w:Wv):Calls prog 25 #[I J s] w (fun e w'=>e=.returned (.agg #[I J s,I J 1,.bool false,.bool false])/\By w w'):=by
 have B0:By w (w.alloc (.cells #[I J s,I J 1,.bool false,.bool false] 62)):=ba _ _;have X0:Box (w.alloc (.cells #[I J s,I J 1,.bool false,.bool false] 62)) w.heap.size 62 [I J s,I J 1,.bool false,.bool false]:=Box.new _ _ _ rfl;have W0E:∃W0,(w.alloc (.cells #[I J s,I J 1,.bool false,.bool false] 62))=W0:=⟨_,rfl⟩;go_enter func25,ntmps25;go_wp2_with fail;obtain⟨W0,hW0⟩:=W0E;rw[hW0]at B0 X0|-;clear hW0;(try simp only[Exit.inBlock,Exit.then]);refine bodyPost_ret (sV rfl _ _ (b:=w.heap.size) rfl (X0.c 0 rfl) (X0.c 1 rfl) (X0.c 2 rfl) (X0.c 3 rfl)) rfl ?_;exact⟨rfl,B0⟩
theorem wO(s:Int)(h4:s<=4)(x:Nrm)(c:Col)(t:Li)(h:t.length<=12):(bO (optN s) (aI x c t) (dtx x false t)).length<=1048576:=by
 have h1:=wN (optN s) (aI x c t) h4 (fB (optN s) (aI x c t)).length;rw[List.take_length]at h1;have h2:=kZ x c t;have h3:=jZ x false t;have h5:=wD (dtx x false t);unfold bO;rw[List.length_append];split
 ·rw[List.length_cons];omega
 simp;omega
theorem oT(V:iT)(x:Nrm)(C:Oa)(n a:Nat)(B:Oa)(m b:Nat)(c:Col)(D:Oa)(k:Nat)(u:Li)(s:Int)(h1:1<=s)(h4:s<=4)(W:Wv)(hN:dC W V.A0 x.cls.length V.A1 x.dec.length V.A2 x.exc.length x)(hz:cC x)(hL:cK W)(hC:aY W C n B m c)(hcz:aZ c)(hD:aB W D u)(hu:u.length<=12)(hio:∀z∈u,iok z):
  Calls prog 27 #[.agg #[H V.A0 x.cls.length V.k0,H V.A1 x.dec.length V.k1,H V.A2 x.exc.length V.k2],.agg #[H C n a,H B m b,I J c.base,I J c.second,I J c.third],.agg #[I J s,I J 1,.bool false,.bool false],H D u.length k] W (eS (bO (optN s) (aI x c u) (dtx x false u)) W):=by
 have h:=NG V.A0 _ V.k0 V.A1 _ V.k1 V.A2 _ V.k2 x C n a B m b c (optN s) D _ k u W hN hz hL hC hcz hD rfl (by omega) hio;rw[optN_D h1 h4]at h;exact h
theorem TailorGreater_any(V:iT)(x:Nrm)(c:Col)(t:Tlr)(w:Wv)(hS:jQ w V x c t)(hL:cK w):Calls prog 8 #[.agg #[H V.A0 x.cls.length V.k0,H V.A1 x.dec.length V.k1,H V.A2 x.exc.length V.k2,H V.C c.ents.length V.a,H V.B c.grps.length V.b,I J c.base,I J c.second,I J c.third,H V.P t.anc.length V.p,H V.Q t.cds.length V.q,I J t.lvl,.bool t.bef]] w (iY w):=by
 have B0:By w (w.alloc (.cells #[H V.A0 x.cls.length V.k0,H V.A1 x.dec.length V.k1,H V.A2 x.exc.length V.k2,H V.C c.ents.length V.a,H V.B c.grps.length V.b,I J c.base,I J c.second,I J c.third,H V.P t.anc.length V.p,H V.Q t.cds.length V.q,I J t.lvl,.bool t.bef] 37)):=ba _ _;have X0:Box (w.alloc (.cells #[H V.A0 x.cls.length V.k0,H V.A1 x.dec.length V.k1,H V.A2 x.exc.length V.k2,H V.C c.ents.length V.a,H V.B c.grps.length V.b,I J c.base,I J c.second,I J c.third,H V.P t.anc.length V.p,H V.Q t.cds.length V.q,I J t.lvl,.bool t.bef] 37)) w.heap.size 37 [H V.A0 x.cls.length V.k0,H V.A1 x.dec.length V.k1,H V.A2 x.exc.length V.k2,H V.C c.ents.length V.a,H V.B c.grps.length V.b,I J c.base,I J c.second,I J c.third,H V.P t.anc.length V.p,H V.Q t.cds.length V.q,I J t.lvl,.bool t.bef]:=Box.new _ _ _ rfl;have W0E:∃W0,(w.alloc (.cells #[H V.A0 x.cls.length V.k0,H V.A1 x.dec.length V.k1,H V.A2 x.exc.length V.k2,H V.C c.ents.length V.a,H V.B c.grps.length V.b,I J c.base,I J c.second,I J c.third,H V.P t.anc.length V.p,H V.Q t.cds.length V.q,I J t.lvl,.bool t.bef] 37))=W0:=⟨_,rfl⟩;have AL:=G (fun W(hb:By w W)=>oC W (hL.below hb));have HS:=G (fun W(hb:By w W)=>show jQ W V x c t from⟨hS.nrm.below hb,hS.ln,hS.col.below hb,hS.na,hS.aa,hS.mb,hS.bb,hS.anc.below hb,hS.cds.below hb⟩);have KS:=G (fun W(hb:By w W)=>s_ V x c t W (HS.out W hb));have KT:=G (fun W(hb:By w W)(hz:cC x)(hz2:aZ c)(h1:t.anc.length<=12)(h2:t.cds.length<=12)=>pI V.A0 _ V.k0 V.A1 _ V.k1 V.A2 _ V.k2 x V.C _ V.a V.B _ V.b c V.P V.p V.Q V.q t W (hS.nrm.below hb) hz (hL.below hb) (hS.col.below hb) hz2 (hS.anc.1.below hb) (hS.cds.1.below hb) (by omega) (by omega) hS.anc.2.2.2 hS.cds.2.2.2 (by have:=kZ x c t.anc;omega));have SM:=G (fun(h:iP x c t=true)=>tC h);have KF:=G (fun W(hb:By w W)(hz:cC x)(h1:t.anc.length<=12)(h2:t.cds.length<=12)=>rF V x c t V.P V.p t.anc W (HS.out W hb) (hL.below hb) hz h2 (hS.anc.1.below hb) h1 hS.anc.2.2.2)
 have EO:=G (fun c'(h:cZ x c t=(0,c'))(hf:frB (dtx x false t.cds) (dtx x false t.anc)=true)=>show aH c'=0/\c'.ents.length<=c.ents.length+1/\c'.grps.length=c.grps.length/\∀s,(s=1\/s=2\/s=3)->aA (bO (optN s) (aI x c' t.cds) (dtx x false t.cds)) (bO (optN s) (aI x c' t.anc) (dtx x false t.anc))=if 0<t.lvl/\t.lvl<=s then(if t.bef=true then -1 else 1)else 0 from by
  rw[nR]at h
  obtain⟨l,-,-,-,h1,h2⟩:=stepP_found h
  exact⟨stepP_valid h,h2,h1,fun s hs=>stepP_great h (rE hf) hs _ _⟩)
 have KK:=G (fun C n a B m b(c':Col)(s:Int)(h1:1<=s)(h4:s<=4)W(hb:By w W)(hz:cC x)(hC:aY W C n B m c')(hcz:aZ c')(hu:t.cds.length<=12)=>oT V x C n a B m b c' V.Q V.q t.cds s h1 h4 W (hS.nrm.below hb) hz (hL.below hb) hC hcz (hS.cds.1.below hb) hu hS.cds.2.2.2);have KL:=G (fun C n a B m b(c':Col)(s:Int)(h1:1<=s)(h4:s<=4)W(hb:By w W)(hz:cC x)(hC:aY W C n B m c')(hcz:aZ c')(hu:t.anc.length<=12)=>oT V x C n a B m b c' V.P V.p t.anc s h1 h4 W (hS.nrm.below hb) hz (hL.below hb) hC hcz (hS.anc.1.below hb) hu hS.anc.2.2.2);have LN:=G (fun(s:Int) (h4:s<=4) (c':Col) (u:Li) (h:u.length<=12)=>wO s h4 x c' u h);generalize frB (dtx x false t.cds) (dtx x false t.anc)=fb at *;unfold eS at KK KL;obtain⟨n0,hn0⟩:∃n,w.heap.size=n:=⟨_,rfl⟩;rw[hn0]at X0;generalize hst:cZ x c t=st at KT EO;generalize iP x c t=sm at *;unfold iY at AL|-;unfold mL at KT;unfold eD at KS KF;unfold aS at KT;clear hS hL hst HS;go_enter func8,ntmps8;go_upto_region 1 with(fail)
 obtain⟨W0,hW0⟩:=W0E;try rw[hW0]at B0 X0|-
 try rw[hn0]
 clear hW0;have HX:=G X0;have l0:=X0.lt;have HB0:=G B0;clear X0;have d0:=(HX.out).c 0 rfl;have d1:=(HX.out).c 1 rfl;have d2:=(HX.out).c 2 rfl;have d3:=(HX.out).c 3 rfl;have d4:=(HX.out).c 4 rfl;have d5:=(HX.out).c 5 rfl;have d6:=(HX.out).c 6 rfl;have d7:=(HX.out).c 7 rfl;have d8:=(HX.out).c 8 rfl;have d9:=(HX.out).c 9 rfl;have d10:=(HX.out).c 10 rfl;have d11:=(HX.out).c 11 rfl;go_wp2_with fail;with_reducible refine(KS.out W0 B0).mono ?_
 rintro e W1 ⟨rfl,hb1⟩;have B1:=B0.trans (hb1.mono B0.size);have HX1:=G (HX.out.below hb1 l0);have l1:=HX1.out.lt;clear KS d0 d1 d2 d3 d4 d5 d6 d7 d8 d9 d10 d11;cases sm with
 |false=>
  go_wp2_with fail;with_reducible refine(AL.out _ (B1)).mono ?_
  rintro e Wz ⟨rfl,hbz⟩;have HBz:=G ((B1).trans (hbz.mono (B1).size));clear hbz;go_wp2_with fail;go_ret;exact⟨rfl,HBz.out⟩
 |true=>
 obtain⟨hz,hz2,hz3,hz4,hz5⟩:=SM.out rfl;have HKF:=G (KF.out W1 B1 hz hz4 hz5);have HB1:=G B1;clear SM KF HB0 B0 hb1 HX;have e0:=(HX1.out).c 0 rfl;have e1:=(HX1.out).c 1 rfl;have e2:=(HX1.out).c 2 rfl;have e3:=(HX1.out).c 3 rfl;have e4:=(HX1.out).c 4 rfl;have e5:=(HX1.out).c 5 rfl;have e6:=(HX1.out).c 6 rfl;have e7:=(HX1.out).c 7 rfl;have e8:=(HX1.out).c 8 rfl;have e9:=(HX1.out).c 9 rfl;have e10:=(HX1.out).c 10 rfl;have e11:=(HX1.out).c 11 rfl;go_wp2_with fail;with_reducible refine HKF.out.mono ?_
 rintro e Wf ⟨rfl,hbf⟩;have Bf:=HB1.out.trans (hbf.mono HB1.out.size);have HXf:=G (HX1.out.below hbf l1);have lf:=HXf.out.lt;clear HKF hbf B1 HB1 HX1 e0 e1 e2 e3 e4 e5 e6 e7 e8 e9 e10 e11;cases fb with
 |false=>
  go_wp2_with fail;with_reducible refine(AL.out _ (Bf)).mono ?_
  rintro e Wz ⟨rfl,hbz⟩;have HBz:=G ((Bf).trans (hbz.mono (Bf).size));clear hbz;go_wp2_with fail;go_ret;exact⟨rfl,HBz.out⟩
 |true=>
 have HKT:=G (KT.out Wf Bf hz hz2 hz4 hz5);have HBs:=G (Bf);have e0:=(HXf.out).c 0 rfl;have e1:=(HXf.out).c 1 rfl;have e2:=(HXf.out).c 2 rfl;have e3:=(HXf.out).c 3 rfl;have e4:=(HXf.out).c 4 rfl;have e5:=(HXf.out).c 5 rfl;have e6:=(HXf.out).c 6 rfl;have e7:=(HXf.out).c 7 rfl;have e8:=(HXf.out).c 8 rfl;have e9:=(HXf.out).c 9 rfl;have e10:=(HXf.out).c 10 rfl;have e11:=(HXf.out).c 11 rfl;go_wp2_with fail;with_reducible refine HKT.out.mono ?_
 rintro e W2 ⟨A',a',B',b',rfl,hca,-,hb2⟩;have HX2:=G (HXf.out.below hb2 lf);have HB2:=G (HBs.out.trans (hb2.mono HBs.out.size));have HCA:=G hca;clear HKT KT hb2 hca HBs HXf e0 e1 e2 e3 e4 e5 e6 e7 e8 e9 e10 e11;obtain⟨er,c'⟩:=st;dsimp only at *;obtain⟨es',gs',cb',cs',ct'⟩:=c';dsimp only at *;have BA:=(HB2.out).alloc (HB2.out).size (.cells #[H A' es'.length a',H B' gs'.length b',I J cb',I J cs',I J ct'] 32);have XF:Box (W2.alloc (.cells #[H A' es'.length a',H B' gs'.length b',I J cb',I J cs',I J ct'] 32)) W2.heap.size 32 [H A' es'.length a',H B' gs'.length b',I J cb',I J cs',I J ct']:=Box.new W2 32 [H A' es'.length a',H B' gs'.length b',I J cb',I J cs',I J ct'] rfl;have BB:=(Below.refl W2.heap.size W2).alloc (Nat.le_refl _) (.cells #[H A' es'.length a',H B' gs'.length b',I J cb',I J cs',I J ct'] 32);have WE:=U (∃V,W2.alloc (.cells #[H A' es'.length a',H B' gs'.length b',I J cb',I J cs',I J ct'] 32)=V) (⟨_,rfl⟩);obtain⟨n3,hn3⟩:∃n,W2.heap.size=n:=⟨_,rfl⟩;go_upto_region 4 with(fail)
 obtain⟨W3,hV⟩:=WE.out;try rw[hV]at XF BA BB|-
 clear hV WE;rw[hn3]at XF;have HX3:=G (HX2.out.below BB (by exact HX2.out.lt));have HCB:=G (HCA.out.below BB);have HB3:=G BA;have HXF:=G XF;clear HX2 HCA HB2 BA BB XF hn3;have l2:=HX3.out.lt;have l3:=HXF.out.lt;by_cases he:er=0;rotate_left
 ·have q1:(er !=0)=true:=by simp[he]
  clear EO;go_wp2_with fail;with_reducible refine(AL.out _ (HB3.out)).mono ?_
  rintro e Wz ⟨rfl,hbz⟩;have HBz:=G ((HB3.out).trans (hbz.mono (HB3.out).size));clear hbz;go_wp2_with fail;go_ret;exact⟨rfl,HBz.out⟩
 subst he;have q1:((0:Int)!=0)=false:=rfl;obtain⟨hv,hl1,hl2,hgr⟩:=EO.out _ rfl (by trivial);dsimp only at hl1 hl2 hgr;have hz6:aZ ⟨es',gs',cb',cs',ct'⟩:=oJ hv (by dsimp only;omega) (by dsimp only;have:=hz2.m;omega);have HGR:=G hgr;have HL1:=G (fun(s:Int) (h1:1<=s) (h4:s<=4) W (hb:By W3 W)=>KK.out A' _ a' B' _ b' ⟨es',gs',cb',cs',ct'⟩ s h1 h4 W (HB3.out.trans (hb.mono HB3.out.size)) hz (HCB.out.below hb) hz6 hz5);have HL2:=G (fun(s:Int) (h1:1<=s) (h4:s<=4) W (hb:By W3 W)=>KL.out A' _ a' B' _ b' ⟨es',gs',cb',cs',ct'⟩ s h1 h4 W (HB3.out.trans (hb.mono HB3.out.size)) hz (HCB.out.below hb) hz6 hz4);have LN1:=G (fun s h4=>LN.out s h4 ⟨es',gs',cb',cs',ct'⟩ t.cds hz5);have LN2:=G (fun s h4=>LN.out s h4 ⟨es',gs',cb',cs',ct'⟩ t.anc hz4);dsimp only at HL1 HL2;clear EO KK KL LN hgr hv hl1 hl2 hz hz2 hz3 hz4 hz5 hz6;go_wp2_with fail;go_loopw [5] (fun u wr=>∃i:Nat,1<=i/\i<=4/\u=I J i/\By W3 wr) (fun u _=>4-(intOf u).toNat)
 case atStart=>exact⟨1,by omega,by omega,rfl,Below.refl _ _⟩
 obtain⟨i,hi1,hi4,rfl,hbr⟩:=hrel;by_cases hlt:i<4;rotate_left
 ·obtain rfl:i=4:=by omega
  have HBr:=G (HB3.out.trans (hbr.mono HB3.out.size));go_wp2_with fail;with_reducible refine(AL.out _ (HBr.out)).mono ?_
  rintro e Wz ⟨rfl,hbz⟩;have HBz:=G ((HBr.out).trans (hbz.mono (HBr.out).size));clear hbz;go_wp2_with fail;go_ret;exact⟨rfl,HBz.out⟩
 have HBr:=G (HB3.out.trans (hbr.mono HB3.out.size));have HXr:=G (HX3.out.below hbr l2);have HFr:=G (HXF.out.below hbr l3);have HRr:=G hbr;have d1:decide ((i:Int)<=3)=true:=decide_eq_true (by omega);have KA:=G (HL1.out i (by omega) (by omega));have KB:=G (HL2.out i (by omega) (by omega));have hn1:=LN1.out i (by omega);have hn2:=LN2.out i (by omega);have HG:=G (HGR.out i (by omega));generalize bO (optN (i:Int)) (aI x ⟨es',gs',cb',cs',ct'⟩ t.cds) (dtx x false t.cds)=k1 at *;generalize bO (optN (i:Int)) (aI x ⟨es',gs',cb',cs',ct'⟩ t.anc) (dtx x false t.anc)=k2 at *;go_wp2_with fail;with_reducible refine(xX _ _).mono ?_
 rintro e W4 ⟨rfl,hb4⟩;have HR4:=G (HRr.out.trans (hb4.mono HRr.out.size));have BA:=(HR4.out).alloc (HR4.out).size (.cells #[I J (i:Int),I J 1,.bool false,.bool false] 62);have XF:Box (W4.alloc (.cells #[I J (i:Int),I J 1,.bool false,.bool false] 62)) W4.heap.size 62 [I J (i:Int),I J 1,.bool false,.bool false]:=Box.new W4 62 [I J (i:Int),I J 1,.bool false,.bool false] rfl;have WE:=U (∃V,W4.alloc (.cells #[I J (i:Int),I J 1,.bool false,.bool false] 62)=V) (⟨_,rfl⟩);obtain⟨n5,hn5⟩:∃n,W4.heap.size=n:=⟨_,rfl⟩;clear hb4 HR4;go_upto_region 10 with(fail)
 obtain⟨W5,hV⟩:=WE.out;try rw[hV]at XF BA|-
 clear hV WE;rw[hn5]at XF;have HR5:=G BA;have HO5:=G XF;clear BA XF hn5;have HX5:=G (HX3.out.below HR5.out l2);have HF5:=G (HXF.out.below HR5.out l3);have HB5:=G (HB3.out.trans (HR5.out.mono HB3.out.size));have l5:=HX5.out.lt;have l6:=HF5.out.lt;have l7:=HO5.out.lt;clear HRr HXr HFr HBr hbr;have KA5:=G (fun W(hb:By W5 W)=>KA.out W (HR5.out.trans (hb.mono HR5.out.size)));have KB5:=G (fun W(hb:By W5 W)=>KB.out W (HR5.out.trans (hb.mono HR5.out.size)));clear KA KB;have KA:=KA5;have KB:=KB5;clear KA5 KB5;have x0:=HX5.out.c 0 rfl;have x1:=HX5.out.c 1 rfl;have x2:=HX5.out.c 2 rfl;have x8:=HX5.out.c 8 rfl;have x9:=HX5.out.c 9 rfl;have y0:=HF5.out.c 0 rfl;have y1:=HF5.out.c 1 rfl;have y2:=HF5.out.c 2 rfl;have y3:=HF5.out.c 3 rfl;have y4:=HF5.out.c 4 rfl;have z0:=HO5.out.c 0 rfl;have z1:=HO5.out.c 1 rfl;have z2:=HO5.out.c 2 rfl;have z3:=HO5.out.c 3 rfl;have SH:=G (fun W'(hb':By W5 W')=>show W'.cell? ⟨n0,0,N⟩=Z (H V.A0 x.cls.length V.k0)/\W'.cell? ⟨n0,1,N⟩=Z (H V.A1 x.dec.length V.k1)/\W'.cell? ⟨n0,2,N⟩=Z (H V.A2 x.exc.length V.k2)/\W'.cell? ⟨n0,8,N⟩=Z (H V.P t.anc.length V.p)/\W'.cell? ⟨n0,9,N⟩=Z (H V.Q t.cds.length V.q)/\W'.cell? ⟨n3,0,N⟩=Z (H A' es'.length a')/\W'.cell? ⟨n3,1,N⟩=Z (H B' gs'.length b')/\W'.cell? ⟨n3,2,N⟩=Z (I J cb')/\W'.cell? ⟨n3,3,N⟩=Z (I J cs')/\W'.cell? ⟨n3,4,N⟩=Z (I J ct')/\W'.cell? ⟨n5,0,N⟩=Z (I J (i:Int))/\W'.cell? ⟨n5,1,N⟩=Z (I J 1)/\W'.cell? ⟨n5,2,N⟩=Z (.bool false)/\W'.cell? ⟨n5,3,N⟩=Z (.bool false)/\By W5 W' from⟨(hb'.cell l5).trans x0,(hb'.cell l5).trans x1,(hb'.cell l5).trans x2,(hb'.cell l5).trans x8,(hb'.cell l5).trans x9,(hb'.cell l6).trans y0,(hb'.cell l6).trans y1,(hb'.cell l6).trans y2,(hb'.cell l6).trans y3,(hb'.cell l6).trans y4,(hb'.cell l7).trans z0,(hb'.cell l7).trans z1,(hb'.cell l7).trans z2,(hb'.cell l7).trans z3,hb'⟩);have TKA:=G (fun W(hb':By W5 W)=>(KA.out W hb').mono (R':=fun e W'=>∃v,e=.returned v/\(W'.cell? ⟨n0,0,N⟩=Z (H V.A0 x.cls.length V.k0)/\W'.cell? ⟨n0,1,N⟩=Z (H V.A1 x.dec.length V.k1)/\W'.cell? ⟨n0,2,N⟩=Z (H V.A2 x.exc.length V.k2)/\W'.cell? ⟨n0,8,N⟩=Z (H V.P t.anc.length V.p)/\W'.cell? ⟨n0,9,N⟩=Z (H V.Q t.cds.length V.q)/\W'.cell? ⟨n3,0,N⟩=Z (H A' es'.length a')/\W'.cell? ⟨n3,1,N⟩=Z (H B' gs'.length b')/\W'.cell? ⟨n3,2,N⟩=Z (I J cb')/\W'.cell? ⟨n3,3,N⟩=Z (I J cs')/\W'.cell? ⟨n3,4,N⟩=Z (I J ct')/\W'.cell? ⟨n5,0,N⟩=Z (I J (i:Int))/\W'.cell? ⟨n5,1,N⟩=Z (I J 1)/\W'.cell? ⟨n5,2,N⟩=Z (.bool false)/\W'.cell? ⟨n5,3,N⟩=Z (.bool false)/\By W5 W')/\(∃D dk,v=H D k1.length dk/\aB W' D k1/\By W W')) (fun e W'⟨D,dk,he,h1,h2⟩=>⟨_,he,SH.out W' (hb'.trans (h2.mono hb'.size)),D,dk,rfl,Sl.of_own h1,h2⟩));have TKB:=G (fun W(hb':By W5 W)=>(KB.out W hb').mono (R':=fun e W'=>∃v,e=.returned v/\(W'.cell? ⟨n0,0,N⟩=Z (H V.A0 x.cls.length V.k0)/\W'.cell? ⟨n0,1,N⟩=Z (H V.A1 x.dec.length V.k1)/\W'.cell? ⟨n0,2,N⟩=Z (H V.A2 x.exc.length V.k2)/\W'.cell? ⟨n0,8,N⟩=Z (H V.P t.anc.length V.p)/\W'.cell? ⟨n0,9,N⟩=Z (H V.Q t.cds.length V.q)/\W'.cell? ⟨n3,0,N⟩=Z (H A' es'.length a')/\W'.cell? ⟨n3,1,N⟩=Z (H B' gs'.length b')/\W'.cell? ⟨n3,2,N⟩=Z (I J cb')/\W'.cell? ⟨n3,3,N⟩=Z (I J cs')/\W'.cell? ⟨n3,4,N⟩=Z (I J ct')/\W'.cell? ⟨n5,0,N⟩=Z (I J (i:Int))/\W'.cell? ⟨n5,1,N⟩=Z (I J 1)/\W'.cell? ⟨n5,2,N⟩=Z (.bool false)/\W'.cell? ⟨n5,3,N⟩=Z (.bool false)/\By W5 W')/\(∃D dk,v=H D k2.length dk/\aB W' D k2/\By W W')) (fun e W'⟨D,dk,he,h1,h2⟩=>⟨_,he,SH.out W' (hb'.trans (h2.mono hb'.size)),D,dk,rfl,Sl.of_own h1,h2⟩));have TC:=G (fun W D dk E ek(hb':By W5 W)hD hE=>(pR D E _ _ dk ek k1 k2 W hD hE rfl rfl (by omega) (by omega)).mono (R':=fun e W'=>e=.returned (I J (aA k1 k2))/\(W'.cell? ⟨n0,0,N⟩=Z (H V.A0 x.cls.length V.k0)/\W'.cell? ⟨n0,1,N⟩=Z (H V.A1 x.dec.length V.k1)/\W'.cell? ⟨n0,2,N⟩=Z (H V.A2 x.exc.length V.k2)/\W'.cell? ⟨n0,8,N⟩=Z (H V.P t.anc.length V.p)/\W'.cell? ⟨n0,9,N⟩=Z (H V.Q t.cds.length V.q)/\W'.cell? ⟨n3,0,N⟩=Z (H A' es'.length a')/\W'.cell? ⟨n3,1,N⟩=Z (H B' gs'.length b')/\W'.cell? ⟨n3,2,N⟩=Z (I J cb')/\W'.cell? ⟨n3,3,N⟩=Z (I J cs')/\W'.cell? ⟨n3,4,N⟩=Z (I J ct')/\W'.cell? ⟨n5,0,N⟩=Z (I J (i:Int))/\W'.cell? ⟨n5,1,N⟩=Z (I J 1)/\W'.cell? ⟨n5,2,N⟩=Z (.bool false)/\W'.cell? ⟨n5,3,N⟩=Z (.bool false)/\By W5 W')) (fun e W'⟨he,hq⟩=>⟨he,SH.out W' (hb'.trans (hq.below.mono hb'.size))⟩));clear x0 x1 x2 x8 x9 y0 y1 y2 y3 y4 z0 z1 z2 z3 KA KB;refine wp_region_held_drew (S:=fun W'=>W'.cell? ⟨n0,0,N⟩=Z (H V.A0 x.cls.length V.k0)/\W'.cell? ⟨n0,1,N⟩=Z (H V.A1 x.dec.length V.k1)/\W'.cell? ⟨n0,2,N⟩=Z (H V.A2 x.exc.length V.k2)/\W'.cell? ⟨n0,8,N⟩=Z (H V.P t.anc.length V.p)/\W'.cell? ⟨n0,9,N⟩=Z (H V.Q t.cds.length V.q)/\W'.cell? ⟨n3,0,N⟩=Z (H A' es'.length a')/\W'.cell? ⟨n3,1,N⟩=Z (H B' gs'.length b')/\W'.cell? ⟨n3,2,N⟩=Z (I J cb')/\W'.cell? ⟨n3,3,N⟩=Z (I J cs')/\W'.cell? ⟨n3,4,N⟩=Z (I J ct')/\W'.cell? ⟨n5,0,N⟩=Z (I J (i:Int))/\W'.cell? ⟨n5,1,N⟩=Z (I J 1)/\W'.cell? ⟨n5,2,N⟩=Z (.bool false)/\W'.cell? ⟨n5,3,N⟩=Z (.bool false)/\By W5 W') (by kernel_rfl) (SH.out _ ((Below.refl _ _).drew)) (fun hHeld=>?_);refine tK 0 40 ?_;refine tK 1 41 ?_;refine tK 2 42 ?_;refine tK 3 43 ?_;refine tK 4 44 ?_;refine tK 5 45 ?_;refine tK 6 46 ?_;refine tK 8 48 ?_;refine tK 9 49 ?_;refine tK 10 50 ?_;refine tK 11 51 ?_;refine tK 12 52 ?_;refine tK 13 53 ?_;refine tK 14 54 ?_;refine qE 7 47 (TKA.out _ (hHeld.2.2.2.2.2.2.2.2.2.2.2.2.2.2)) ?_;clear hHeld;rintro _ Va hHeld ⟨D,dk,rfl,hD,-⟩;refine qE 15 55 (TKB.out _ (hHeld.2.2.2.2.2.2.2.2.2.2.2.2.2.2)) ?_;clear hHeld;rintro _ Vb hHeld ⟨E,ek,rfl,hE,hab⟩;refine qK 16 56 (TC.out _ D dk E ek (hHeld.2.2.2.2.2.2.2.2.2.2.2.2.2.2) (Sl.below hD hab) hE) ?_;clear hHeld;intro Vc hHeld;refine tK 17 7 ?_;refine wpAnyH_done (by kernel_rfl) ?_ _;have hbc:=hHeld.2.2.2.2.2.2.2.2.2.2.2.2.2.2;clear hHeld SH TKA TKB TC hD hE hab;have HX9:=G (HX5.out.below hbc l5);have HR9:=G (HR5.out.trans (hbc.mono HR5.out.size));have x10:=HX9.out.c 10 rfl;have x11:=HX9.out.c 11 rfl;clear hbc HX5 HF5 HO5 HR5 HB5;have hgv:=HG.out;clear HG hn1 hn2;generalize aA k1 k2=gv at *;by_cases hl0:0<t.lvl
 ·have q2:decide (0<t.lvl)=true:=decide_eq_true hl0
  by_cases hli:t.lvl<=(i:Int)
  ·have q3:decide (t.lvl<=(i:Int))=true:=decide_eq_true hli
   rw[if_pos ⟨hl0,hli⟩]at hgv;by_cases hbf:t.bef=true
   ·rw[if_pos hbf]at hgv
    have y11:=hbf ▸ x11;subst hgv;clear hl0 hli hbf x11;go_wp2_with fail;go_roundw
    case rel=>exact⟨i+1,by omega,by omega,by go_num,HR9.out⟩
    simp[intOf];omega
   rw[if_neg hbf]at hgv;have y11:=(Bool.eq_false_iff.2 hbf) ▸ x11;subst hgv;clear hl0 hli hbf x11;go_wp2_with fail;go_roundw
   case rel=>exact⟨i+1,by omega,by omega,by go_num,HR9.out⟩
   simp[intOf];omega
  have q3:decide (t.lvl<=(i:Int))=false:=decide_eq_false hli;rw[if_neg (fun h=>hli h.2)]at hgv;subst hgv;clear hl0 hli;go_wp2_with fail;go_roundw
  case rel=>exact⟨i+1,by omega,by omega,by go_num,HR9.out⟩
  simp[intOf];omega
 have q2:decide (0<t.lvl)=false:=decide_eq_false hl0;rw[if_neg (fun h=>hl0 h.1)]at hgv;subst hgv;clear hl0;go_wp2_with fail;go_roundw
 case rel=>exact⟨i+1,by omega,by omega,by go_num,HR9.out⟩
 simp[intOf];omega
end
end Go.Proofs.YtkhmjidaeliccaaGreatDoor
