import Derived.Test.YtpfbnikbebccjaaGreatDoorT00
import Derived.Test.YtpfbnikbebccjaaGreatDoorT27
set_option maxRecDepth 100000
set_option maxHeartbeats 51200000
namespace Go.Proofs.YtpfbnikbebccjaaGreatDoor
open Option renaming none→N,some→Z
open Value renaming int→I,slice→H
open IntKind renaming i64→J
open Go.Proofs.Tryz
section
open Go.RowKit Go.Maps Go.WideMaps Srl
def kS(A:Option Addr)(a lo:Nat):Option Addr:=if a=lo then A else A.map (fun x=>x.add (lo*4))
theorem sU:(prog.info? 51).map (fun i=>(i.zero,i.size,i.bytes))=Z (Z (.agg #[I J 0,H N 0 0,.bool false,H N 0 0]),4,64):=by kernel_rfl
theorem XH(A:Option Addr)(n a lo:Nat)(h1:lo≤n)(W:World):(Instr.sliceAt 37 (H A n a) (Z (I J lo)) N N).run prog W=.ok (H (kS A a lo) (n-lo) (a-lo)) W:=by
 have hu:=underlying37;have he:prog.elem 37=51:=by kernel_rfl
 obtain⟨i,hi',_,hs,_⟩:=info_parts sU;rw[run_sliceAt_slice (h:=by rw[he];exact hu),run_slice_l (ht:=by rw[he];exact hu) (h0:=by omega) (h1:=by omega)];simp[sizeOf,typeInfo,he,hi',hs,sliced,kS]
theorem cnt_drop(l:List Stp)(i:Nat)(hi:i<l.length):cntL (l.drop i)=(if((l.drop (i+1)).all fun s'=>decide (s'.id≠l[i].id))&&!l[i].rm then 1 else 0)+cntL (l.drop (i+1)):=by
 conv=>lhs;rw[←List.getElem_cons_drop hi]
 rw[cntL_cons]
theorem JJ{K:List Int→List Int}(l:List Stp):(runL K [] l).length=cntL l:=by
 rw[runL_cnt l srt_nil];simp[idsL]
theorem GE(l:List Stp)(i k:Nat)(z:Int)(h:i+1+k<l.length):((l.drop (i+1)).take (k+1)).all (fun s'=>decide (s'.id≠z))=(((l.drop (i+1)).take k).all (fun s'=>decide (s'.id≠z))&&decide (l[i+1+k].id≠z)):=by
 rw[List.take_succ_eq_append_getElem (by rw[List.length_drop];omega),List.all_append,List.getElem_drop];simp
theorem YV{K:List Int→List Int}{L:Its}(h:Srt K L){i:Nat}(hi:i<L.length)(h0:0<i):aD (K (L[i-1]'(by omega)).2) (K L[i].2)<0∨(aD (K (L[i-1]'(by omega)).2) (K L[i].2)=0∧(L[i-1]'(by omega)).1<L[i].1):=by
 have:=List.pairwise_iff_getElem.1 h.asc (i-1) i (by rw[kL_len];omega) (by rw[kL_len];omega) (by omega);rw[kL_get (i-1) (by omega),kL_get i hi]at this;exact this
theorem SortlistSorted_any(V:gP)(x:Nrm)(c:Col)(o:Opt)(A:Option Addr)(a:Nat)(l:List Stp)(w:World)(hS:jL w V x c)(hl:gE w A l)(hna:l.length≤a)(haz:a≤9223372036854775807)(hL:cT w):
  Calls prog 4 #[.agg #[H V.A0 x.cls.length V.k0,H V.A1 x.dec.length V.k1,H V.A2 x.exc.length V.k2,H V.C c.ents.length V.a,H V.B c.grps.length V.b,I J c.base,I J c.second,I J c.third,I J o.st,I J o.va,.bool o.bk,.bool o.idn],H A l.length a] w (lC w):=by
 have B0:Below w.heap.size w (w.alloc (.cells #[H V.A0 x.cls.length V.k0,H V.A1 x.dec.length V.k1,H V.A2 x.exc.length V.k2,H V.C c.ents.length V.a,H V.B c.grps.length V.b,I J c.base,I J c.second,I J c.third,I J o.st,I J o.va,.bool o.bk,.bool o.idn] 36)):=ba _ _;have X0:Box (w.alloc (.cells #[H V.A0 x.cls.length V.k0,H V.A1 x.dec.length V.k1,H V.A2 x.exc.length V.k2,H V.C c.ents.length V.a,H V.B c.grps.length V.b,I J c.base,I J c.second,I J c.third,I J o.st,I J o.va,.bool o.bk,.bool o.idn] 36)) w.heap.size 36 [H V.A0 x.cls.length V.k0,H V.A1 x.dec.length V.k1,H V.A2 x.exc.length V.k2,H V.C c.ents.length V.a,H V.B c.grps.length V.b,I J c.base,I J c.second,I J c.third,I J o.st,I J o.va,.bool o.bk,.bool o.idn]:=Box.new _ _ _ rfl;have W0E:∃W0,(w.alloc (.cells #[H V.A0 x.cls.length V.k0,H V.A1 x.dec.length V.k1,H V.A2 x.exc.length V.k2,H V.C c.ents.length V.a,H V.B c.grps.length V.b,I J c.base,I J c.second,I J c.third,I J o.st,I J o.va,.bool o.bk,.bool o.idn] 36))=W0:=⟨_,rfl⟩;have HS:=G hS;have HL:=G hl;have HLd:=G hL;have KF:=G (fun W(hb:Below w.heap.size w W)=>sE V x c o A a l W (hS.below hb) (hl.below hb) (by omega));have KA:=G (fun W(hb:Below w.heap.size w W)=>rK W (hL.below hb));have KV:=G (fun W(hb:Below w.heap.size w W)(hf:Few x c l)=>uF V x c o W (hS.nrm.below hb) (hS.col.below hb) hf.x hf.c);have KM:=G (fun W(hb:Below w.heap.size w W)(hf:Few x c l)(hok:bR x c o=0)=>qH V x c o A a l W (hS.below hb) (hl.below hb) hf hok (hL.below hb));have FB:=G (fun h=>oT (x:=x) (c:=c) (l:=l) h);unfold lC at KA;clear hS hl hL;go_enter func4,ntmps4;go_upto_region 1 with(fail)
 obtain⟨W0,hW0⟩:=W0E;try rw[hW0]at B0 X0⊢
 clear hW0;have HX:=G X0;clear X0;have d0:=(HX.out.below (Below.refl _ _) HX.out.lt).cell (i:=0) rfl;have d1:=(HX.out.below (Below.refl _ _) HX.out.lt).cell (i:=1) rfl;have d2:=(HX.out.below (Below.refl _ _) HX.out.lt).cell (i:=2) rfl;have d3:=(HX.out.below (Below.refl _ _) HX.out.lt).cell (i:=3) rfl;have d4:=(HX.out.below (Below.refl _ _) HX.out.lt).cell (i:=4) rfl;have d5:=(HX.out.below (Below.refl _ _) HX.out.lt).cell (i:=5) rfl;have d6:=(HX.out.below (Below.refl _ _) HX.out.lt).cell (i:=6) rfl;have d7:=(HX.out.below (Below.refl _ _) HX.out.lt).cell (i:=7) rfl;have d8:=(HX.out.below (Below.refl _ _) HX.out.lt).cell (i:=8) rfl;have d9:=(HX.out.below (Below.refl _ _) HX.out.lt).cell (i:=9) rfl;have d10:=(HX.out.below (Below.refl _ _) HX.out.lt).cell (i:=10) rfl;have d11:=(HX.out.below (Below.refl _ _) HX.out.lt).cell (i:=11) rfl;go_wp2_with fail;with_reducible refine(KF.out W0 B0).mono ?_
 rintro e W1 ⟨rfl,hb1⟩;have B1:=B0.trans (hb1.mono B0.size);clear d0 d1 d2 d3 d4 d5 d6 d7 d8 d9 d10 d11 KF;cases hfw:fC x c l with
 |false=>
  clear hfw;go_wp2_with fail;with_reducible refine(KA.out W1 B1).mono ?_
  rintro e W9 ⟨rfl,hb9⟩;have hbn:=(B1).trans (hb9.mono (B1).size);go_wp2_with fail;go_ret;exact⟨rfl,hbn⟩
 |true=>
 have HFW:=G (FB.out hfw);clear hfw FB;have d0:=(HX.out.below hb1 HX.out.lt).cell (i:=0) rfl;have d1:=(HX.out.below hb1 HX.out.lt).cell (i:=1) rfl;have d2:=(HX.out.below hb1 HX.out.lt).cell (i:=2) rfl;have d3:=(HX.out.below hb1 HX.out.lt).cell (i:=3) rfl;have d4:=(HX.out.below hb1 HX.out.lt).cell (i:=4) rfl;have d5:=(HX.out.below hb1 HX.out.lt).cell (i:=5) rfl;have d6:=(HX.out.below hb1 HX.out.lt).cell (i:=6) rfl;have d7:=(HX.out.below hb1 HX.out.lt).cell (i:=7) rfl;have d8:=(HX.out.below hb1 HX.out.lt).cell (i:=8) rfl;have d9:=(HX.out.below hb1 HX.out.lt).cell (i:=9) rfl;have d10:=(HX.out.below hb1 HX.out.lt).cell (i:=10) rfl;have d11:=(HX.out.below hb1 HX.out.lt).cell (i:=11) rfl;have KVi:=G (KV.out W1 B1 HFW.out);go_wp2_with fail;with_reducible refine KVi.out.mono ?_
 rintro e W2 ⟨rfl,hb2⟩;have hb02:=hb1.trans (hb2.mono hb1.size);have B2:=B1.trans (hb2.mono B1.size);clear d0 d1 d2 d3 d4 d5 d6 d7 d8 d9 d10 d11 KV KVi hb1 hb2 B1;by_cases hok:bR x c o=0;rotate_left
 ·have dok:decide (bR x c o=0)=false:=decide_eq_false hok
  rw[dok];clear dok hok;go_wp2_with fail;with_reducible refine(KA.out W2 B2).mono ?_
  rintro e W9 ⟨rfl,hb9⟩;have hbn:=(B2).trans (hb9.mono (B2).size);go_wp2_with fail;go_ret;exact⟨rfl,hbn⟩
 have dok:decide (bR x c o=0)=true:=decide_eq_true hok;rw[dok];have HOK:=G hok;clear dok hok;have d0:=(HX.out.below hb02 HX.out.lt).cell (i:=0) rfl;have d1:=(HX.out.below hb02 HX.out.lt).cell (i:=1) rfl;have d2:=(HX.out.below hb02 HX.out.lt).cell (i:=2) rfl;have d3:=(HX.out.below hb02 HX.out.lt).cell (i:=3) rfl;have d4:=(HX.out.below hb02 HX.out.lt).cell (i:=4) rfl;have d5:=(HX.out.below hb02 HX.out.lt).cell (i:=5) rfl;have d6:=(HX.out.below hb02 HX.out.lt).cell (i:=6) rfl;have d7:=(HX.out.below hb02 HX.out.lt).cell (i:=7) rfl;have d8:=(HX.out.below hb02 HX.out.lt).cell (i:=8) rfl;have d9:=(HX.out.below hb02 HX.out.lt).cell (i:=9) rfl;have d10:=(HX.out.below hb02 HX.out.lt).cell (i:=10) rfl;have d11:=(HX.out.below hb02 HX.out.lt).cell (i:=11) rfl;have KMi:=G (KM.out W2 B2 HFW.out HOK.out);unfold nV at KMi;go_wp2_with fail;with_reducible refine KMi.out.mono ?_
 rintro e W3 ⟨lb,V',mb,O,oc,f,rfl,⟨cnt,hcn,hlst⟩,hb3⟩;have hb03:=hb02.trans (hb3.mono hb02.size);have HH:=G hlst;have IC:=G (qG hlst);unfold bF at IC;have HRL:=G (fun(i:Nat) (hi:i<l.length) hlast=>runL_last (K:=kyN x c o) (L:=[]) srt_nil (l:=l) hi hlast);have HCN:=G (JJ (K:=kyN x c o) l);generalize runL (kyN x c o) [] l=L at *;rw[idsL_len]at IC;have hL100:=hlst.len;clear d0 d1 d2 d3 d4 d5 d6 d7 d8 d9 d10 d11 KM KMi hlst hb3 hb02 B2;go_wp2_with fail;with_reducible refine IC.out.mono ?_
 rintro e W4 ⟨AI,kI,rfl,hI,hb4⟩;have hb04:=hb03.trans (hb4.mono hb03.size);have B4:=B0.trans (hb04.mono B0.size);have H4:=G (HH.out.below hb4);have HI4:=G (Sl.of_own hI:aA W4 AI (idsL L));clear IC hI hb4 hb03 HH;go_wp2_with fail;go_loopw [45] (fun u wr=>∃i:Nat,i≤L.length∧u=I J i∧Below W4.heap.size W4 wr) (fun u _=>L.length-(intOf u).toNat)
 case atStart=>exact⟨0,Nat.zero_le _,rfl,Below.refl _ _⟩
 obtain⟨i,hi,rfl,hbr⟩:=hrel;have hbw:=hb04.trans (hbr.mono hb04.size);have HBR:=G hbr;by_cases hlt:i<L.length
 ·obtain⟨bi,oi,rfl,hci⟩:=(show aA wr AI (idsL L)from HI4.out.below hbr).at (k:=i) (by rw[idsL_len];exact hlt)
  have hcell:=hci i (by rw[idsL_len];exact hlt);have eid:(idsL L)[i]'(by rw[idsL_len];exact hlt)=L[i].1:=by unfold idsL;simp
  rw[eid]at hcell;have hok:=H4.out.ok _ (List.getElem_mem hlt);have GC:=G (nL (H4.out.below hbr) L[i].1 hok.1);rw[getL_mem H4.out.srt.one (show(L[i].1,L[i].2)∈L from List.getElem_mem hlt)]at GC;unfold k_ at GC;dsimp only[Option.getD_some,Option.isSome_some]at GC;have PCX:=G (fun W(hb:Below W4.heap.size W4 W)=>qI (H4.out.below hb) L[i].1 hok.1);rw[posL_at H4.out.srt.one hlt]at PCX;have NX:=G (fun(h0:0<i)=>YV H4.out.srt hlt h0);have TL:=hok.2.1;have HPREV:=G (fun(h0:0<i)=>show ∃pid ptx,(L[i-1]'(by omega))=(pid,ptx)∧(pid,ptx)∈L from⟨_,_,rfl,List.getElem_mem (by omega)⟩)
  have HCP:=G (fun(h0:0<i)=>show(wr.cell? ⟨bi,oi+(i-1),N⟩=Z (I J (L[i-1]'(by omega)).1))from by
   have h1:=hci (i-1) (by rw[idsL_len];omega)
   have e2:(idsL L)[i-1]'(by rw[idsL_len];omega)=(L[i-1]'(by omega)).1:=by unfold idsL;simp
   rw[e2]at h1
   exact h1)
  have hblt:=World.block_lt_of_cell? wr _ hcell;clear hci hok eid;generalize hLi:L[i]=p at *;obtain⟨id,tx⟩:=p;dsimp only at *;clear hLi;go_wp2_with fail;with_reducible refine GC.out.mono ?_
  rintro e W5 ⟨AT,kt,rfl,hT,_,hb5⟩;have hb45:=hbr.trans (hb5.mono hbr.size);have PCi:=G (PCX.out W5 hb45);have HT5:=G hT;unfold cJ at PCi;clear GC PCX hT;go_wp2_with fail;with_reducible refine PCi.out.mono ?_
  rintro e W6 ⟨rfl,hb6⟩;have hb46:=hb45.trans (hb6.mono hb45.size);have HT6:=G (HT5.out.below hb6);have hb56:=hb5.trans (hb6.mono hb5.size);clear PCi hb6 hb5 HT5;by_cases h0:0<i
  ·have q0:decide ((0:Int)<(i:Int))=true:=by simp;omega
   have hcp:=HCP.out h0;have hnx:=NX.out h0;obtain⟨pid,ptx,hpe,hpm⟩:=HPREV.out h0;rw[hpe]at hcp hnx;have hokp:=H4.out.ok _ hpm;have hcp6:=(hb56.cell (p:=⟨bi,oi+(i-1),N⟩) hblt).trans hcp;have hsub:(i:Int)-1=((i-1:Nat):Int):=by omega
   have HSUB:=G hsub;have GC:=G (nL (H4.out.below hb46) pid hokp.1);rw[getL_mem H4.out.srt.one hpm]at GC;unfold k_ at GC;dsimp only[Option.getD_some,Option.isSome_some]at GC hnx hokp;have hpl:=hokp.2.1;clear hpe hpm hokp HCP NX HPREV hcp;go_wp2_with fail;with_reducible refine GC.out.mono ?_
   rintro e W7 ⟨AP,kp,rfl,hP,_,hb7⟩;have hb47:=hb46.trans (hb7.mono hb46.size);have hb57:=hb56.trans (hb7.mono hb56.size);have hbx:=hb04.trans (hb47.mono hb04.size);have hbw7:=B4.trans (hb47.mono B4.size);have KC:=G (pV V x c o AP kp ptx AT kt tx W7 (HS.out.nrm.below hbw7) (HS.out.col.below hbw7) HFW.out.x HFW.out.c hP (HT6.out.below hb7) (by omega) (by omega));unfold cJ at KC;obtain⟨cv,hcv⟩:∃cv,aD (kyN x c o ptx) (kyN x c o tx)=cv:=⟨_,rfl⟩;rw[hcv]at KC hnx;have hcp7:=(hb7.cell (p:=⟨bi,oi+(i-1),N⟩) (World.block_lt_of_cell? _ _ hcp6)).trans hcp6;have d0:=(HX.out.below hbx HX.out.lt).cell (i:=0) rfl;have d1:=(HX.out.below hbx HX.out.lt).cell (i:=1) rfl;have d2:=(HX.out.below hbx HX.out.lt).cell (i:=2) rfl;have d3:=(HX.out.below hbx HX.out.lt).cell (i:=3) rfl;have d4:=(HX.out.below hbx HX.out.lt).cell (i:=4) rfl;have d5:=(HX.out.below hbx HX.out.lt).cell (i:=5) rfl;have d6:=(HX.out.below hbx HX.out.lt).cell (i:=6) rfl;have d7:=(HX.out.below hbx HX.out.lt).cell (i:=7) rfl;have d8:=(HX.out.below hbx HX.out.lt).cell (i:=8) rfl;have d9:=(HX.out.below hbx HX.out.lt).cell (i:=9) rfl;have d10:=(HX.out.below hbx HX.out.lt).cell (i:=10) rfl;have d11:=(HX.out.below hbx HX.out.lt).cell (i:=11) rfl;have HB47:=G hb47;have h7lt:=World.block_lt_of_cell? _ _ hcp7;clear GC hP hb7 HT6 hb46 hb45 hb57 hb56 hbx hbw7 hcv hcp6 hcell;go_wp2_with fail;with_reducible refine KC.out.mono ?_
   rintro e W8 ⟨rfl,hb8⟩;have hcp8:=(hb8.cell (p:=⟨bi,oi+(i-1),N⟩) h7lt).trans hcp7;have HB8:=G (HB47.out.trans (hb8.mono HB47.out.size));clear KC d0 d1 d2 d3 d4 d5 d6 d7 d8 d9 d10 d11 hb8 hcp7 h7lt HB47;rcases hnx with hneg|⟨rfl,hid⟩
   ·have q1:decide ((0:Int)<cv)=false:=by simp;omega
    have q2:(cv==0)=false:=by simp;omega
    clear hcp8;go_wp2_with fail;go_roundw
    case rel=>exact⟨i+1,by omega,by go_num,HB8.out⟩
    simp[intOf];omega
   have q3:decide (id≤pid)=false:=by simp;omega
   go_wp2_with fail;go_roundw
   case rel=>exact⟨i+1,by omega,by go_num,HB8.out⟩
   simp[intOf];omega
  obtain rfl:i=0:=by omega
  have HB6:=G hb46;clear HCP NX HPREV hb46 hb45 hb56;go_wp2_with fail;go_roundw
  case rel=>exact⟨1,by omega,by go_num,HB6.out⟩
  simp[intOf];omega
 obtain rfl:i=L.length:=by omega
 have HB1:=G hbr;have hnc:(0:Nat)+cntL (l.drop 0)=cntL l:=by simp
 have HNC:=G hnc;clear hbr hnc HBR hbw;go_wp2_with fail;go_loopw [15,104] (fun u v wr=>∃i n:Nat,i≤l.length∧v=I J i∧u=I J n∧n≤i∧n+cntL (l.drop i)=cntL l∧Below W4.heap.size W4 wr) (fun _ v _=>l.length-(intOf v).toNat)
 case atStart=>exact⟨0,0,Nat.zero_le _,rfl,rfl,Nat.le_refl _,HNC.out,HB1.out⟩
 obtain⟨i,n,hi,rfl,rfl,hni,hcnt,hbr⟩:=hrel;have HCT:=G hcnt;clear hcnt HNC HB1;by_cases hlt:i<l.length
 ·have hbw:=B4.trans (hbr.mono B4.size)
  obtain⟨b1,o1,rfl,hbl,hcell⟩:=HL.out.at hlt;obtain⟨T,tk,Q,qk,k0,k1,k2,k3,ht1,ht2,hio⟩:=hcell i hlt;have c0:=(hbw.cell (p:=⟨b1,o1+i*4,N⟩) hbl).trans k0;have c1:=(hbw.cell (p:=⟨b1,o1+i*4+1,N⟩) hbl).trans k1;have c2:=(hbw.cell (p:=⟨b1,o1+i*4+2,N⟩) hbl).trans k2;have c3:=(hbw.cell (p:=⟨b1,o1+i*4+3,N⟩) hbl).trans k3;have CD:=G (cnt_drop l i hlt);have RL:=G (HRL.out i hlt);have HCELL:=G (fun(k:Nat) (hk:i+1+k<l.length)=>hcell (i+1+k) hk);have HIO:=G hio;have HT1:=G ht1;clear hcell k0 k1 k2 k3 ht1 ht2 hio;generalize hls:l[i]=s at *;obtain⟨sid,stx,srm,sak⟩:=s;dsimp only at *;clear hls;have hbs:=hbr.alloc hbr.size (.cells #[I J sid,H T stx.length tk,.bool srm,H Q sak.length qk] 51);have XS:Box (wr.alloc (.cells #[I J sid,H T stx.length tk,.bool srm,H Q sak.length qk] 51)) wr.heap.size 51 [I J sid,H T stx.length tk,.bool srm,H Q sak.length qk]:=Box.new _ _ _ rfl;have WSE:∃Ws,(wr.alloc (.cells #[I J sid,H T stx.length tk,.bool srm,H Q sak.length qk] 51))=Ws:=⟨_,rfl⟩;obtain⟨SS,hSS⟩:∃SS,kS (Z ⟨b1,o1,N⟩) a (i+1)=SS:=⟨_,rfl⟩
  have HSS:=G (fun(h:i+1<l.length)=>show SS=Z ⟨b1,o1+(i+1)*4,N⟩from by
   rw[←hSS]
   unfold kS
   rw[if_neg (by omega)]
   unfold Addr.add
   rw[Option.map_some,if_neg (by omega)])
  have rc:=XH (Z ⟨b1,o1,N⟩) l.length a (i+1) (by omega);rw[hSS,show((i+1:Nat):Int)=(i:Int)+1 from rfl]at rc;obtain⟨bx,hbx⟩:∃bx,wr.heap.size=bx:=⟨_,rfl⟩;clear hSS hbr hbw;go_upto_region 23 with(fail)
  obtain⟨Ws,hWs⟩:=WSE;try rw[hWs]at hbs XS⊢
  clear hWs c0 c1 c2 c3;rw[hbx]at XS;try rw[hbx]
  clear hbx;have HXS:=G XS;have hlen:((l.length-(i+1):Nat):Int)=(l.length:Int)-((i:Int)+1):=by omega
  have HLEN:=G hlen;have hall:((l.drop (i+1)).take 0).all (fun s'=>decide (s'.id≠sid))=true:=by simp
  have HALL:=G hall;clear XS hlen hall;go_wp2_with fail;go_loopw [18,114] (fun u v wr=>∃k:Nat,k≤l.length-(i+1)∧v=I J k∧u=.bool (((l.drop (i+1)).take k).all (fun s'=>decide (s'.id≠sid)))∧Below Ws.heap.size Ws wr) (fun _ v _=>(l.length-(i+1))-(intOf v).toNat)
  case atStart=>exact⟨0,Nat.zero_le _,rfl,by rw[HALL.out],Below.refl _ _⟩
  obtain⟨k,hk,rfl,rfl,hbk⟩:=hrel;have x0:=(HXS.out.below hbk HXS.out.lt).cell (i:=0) rfl;by_cases hkl:k<l.length-(i+1)
  ·have hik:i+1+k<l.length:=by omega
   obtain rfl:=HSS.out (by omega);obtain⟨T',tk',Q',qk',k0,k1,k2,k3,_,_,_⟩:=HCELL.out k hik;have hbw2:=B4.trans ((hbs.trans (hbk.mono hbs.size)).mono B4.size);have c0:=(hbw2.cell (p:=⟨b1,o1+(i+1+k)*4,N⟩) hbl).trans k0;have c1:=(hbw2.cell (p:=⟨b1,o1+(i+1+k)*4+1,N⟩) hbl).trans k1;have c2:=(hbw2.cell (p:=⟨b1,o1+(i+1+k)*4+2,N⟩) hbl).trans k2;have c3:=(hbw2.cell (p:=⟨b1,o1+(i+1+k)*4+3,N⟩) hbl).trans k3;have ha:o1+(i+1+k)*4=o1+(i+1)*4+k*4:=by omega
   rw[ha]at c0 c1 c2 c3;have AT:=G (GE l i k sid hik);clear k0 k1 k2 k3 ha hbw2;generalize hls:l[i+1+k]=s at *;obtain⟨zid,ztx,zrm,zak⟩:=s;dsimp only at *;clear hls;generalize ((l.drop (i+1)).take k).all (fun s'=>decide (s'.id≠sid))=bv at *;have hbz:=hbk.alloc hbk.size (.cells #[I J zid,H T' ztx.length tk',.bool zrm,H Q' zak.length qk'] 51);have HBZ:=G hbz;have XZ:Box (wr.alloc (.cells #[I J zid,H T' ztx.length tk',.bool zrm,H Q' zak.length qk'] 51)) wr.heap.size 51 [I J zid,H T' ztx.length tk',.bool zrm,H Q' zak.length qk']:=Box.new _ _ _ rfl;have XQ:=HXS.out.below hbz HXS.out.lt;have WZE:∃Wz,(wr.alloc (.cells #[I J zid,H T' ztx.length tk',.bool zrm,H Q' zak.length qk'] 51))=Wz:=⟨_,rfl⟩;clear hbz x0 hbk;go_upto_region 27 with(fail)
   obtain⟨Wz,hWz⟩:=WZE;try rw[hWz]at XZ XQ HBZ⊢
   clear hWz c0 c1 c2 c3;have z0:=XZ.cell (i:=0) rfl;have q0:=XQ.cell (i:=0) rfl;clear XZ XQ;cases bv with
   |true=>
    go_wp2_with fail;go_roundw
    case rel=>exact⟨k+1,by omega,by go_num,by rw[AT.out];exact congrArg Value.bool (by by_cases e:zid=sid<;>simp[e]),HBZ.out⟩
    simp[intOf];omega
   |false=>
    go_wp2_with fail;go_roundw
    case rel=>exact⟨k+1,by omega,by go_num,by rw[AT.out];rfl,HBZ.out⟩
    simp[intOf];omega
  have hkk:k=l.length-(i+1):=by omega
  have EA:=G (show((l.drop (i+1)).take k).all (fun s'=>decide (s'.id≠sid))=(l.drop (i+1)).all (fun s'=>decide (s'.id≠sid)) by rw[List.take_of_length_le (by simp;omega)]);rw[EA.out];have hbq:=hbs.trans (hbk.mono hbs.size);have HBQ:=G hbq;have H5:=G (H4.out.below hbq);have GC:=G (nL H5.out sid HIO.out);have x1:=(HXS.out.below hbk HXS.out.lt).cell (i:=1) rfl;have x2:=(HXS.out.below hbk HXS.out.lt).cell (i:=2) rfl;have HT5:=G (HT1.out.1.below (B4.trans (hbq.mono B4.size)));have HXQ:=G (HXS.out.below hbk HXS.out.lt);have htl:=(HFW.out.e _ (List.getElem_mem hlt));have RLX:=RL.out;have CDX:=CD.out;clear EA hkk hbq hbk H5 htl;cases hb:(l.drop (i+1)).all (fun s'=>decide (s'.id≠sid))with
  |false=>
   rw[hb]at CDX;have hc2:n+cntL (l.drop (i+1))=cntL l:=by rw[←HCT.out,CDX];simp
   have HC2:=G hc2;clear hc2 CDX RLX hb GC;go_wp2_with fail;go_roundw
   case rel=>exact⟨i+1,n,by omega,by go_num,rfl,by omega,HC2.out,HBQ.out⟩
   simp[intOf];omega
  |true=>
   rw[hb]at CDX
   have hg:=RLX (fun s hs=>by
    have:=List.all_eq_true.1 hb s hs
    simpa using this)
   have HG:=G hg;clear hb RLX hg;cases srm with
   |true=>
    have hc2:n+cntL (l.drop (i+1))=cntL l:=by rw[←HCT.out,CDX];simp
    have HC2:=G hc2;rw[HG.out.trans (if_pos rfl)]at GC;unfold k_ at GC;dsimp only[Option.getD_none,Option.isSome_none,List.length_nil]at GC;clear hc2 CDX;go_wp2_with fail;with_reducible refine GC.out.mono ?_
    rintro e W6 ⟨AG,kg,rfl,_,_,hb6⟩;have y2:=(HXQ.out.below hb6 HXQ.out.lt).cell (i:=2) rfl;have HB6:=G (HBQ.out.trans (hb6.mono HBQ.out.size));clear GC hb6 x0 x1 x2;go_wp2_with fail;go_roundw
    case rel=>exact⟨i+1,n,by omega,by go_num,rfl,by omega,HC2.out,HB6.out⟩
    simp[intOf];omega
   |false=>
    have hc2:n+1+cntL (l.drop (i+1))=cntL l:=by rw[←HCT.out,CDX];simp;omega
    have HC2:=G hc2;rw[HG.out.trans (if_neg (by decide))]at GC;unfold k_ at GC;dsimp only[Option.getD_some,Option.isSome_some]at GC;clear hc2 CDX;go_wp2_with fail;with_reducible refine GC.out.mono ?_
    rintro e W6 ⟨AG,kg,rfl,hG,_,hb6⟩;have y2:=(HXQ.out.below hb6 HXQ.out.lt).cell (i:=2) rfl;have y1:=(HXQ.out.below hb6 HXQ.out.lt).cell (i:=1) rfl;have EC:=G (jZ AG T stx.length stx.length kg tk stx stx W6 hG (HT5.out.below hb6) rfl rfl (by have:=HT1.out.2;omega) (by have:=HT1.out.2;omega));rw[decide_eq_true rfl]at EC;have HB6:=G (HBQ.out.trans (hb6.mono HBQ.out.size));clear GC hb6 x0 x1 x2 hG;go_wp2_with fail;with_reducible refine EC.out.mono ?_
    rintro e W7 ⟨rfl,hq7⟩;have HB7:=G (HB6.out.trans (hq7.below.mono HB6.out.size));clear EC hq7 y1 y2;go_wp2_with fail;go_roundw
    case rel=>exact⟨i+1,n+1,by omega,by go_num,by go_num,by omega,HC2.out,HB7.out⟩
    simp[intOf];omega
 obtain rfl:i=l.length:=by omega
 have hn:n=L.length:=by
  have:=HCT.out;rw[List.drop_length]at this;rw[HCN.out,←this];rfl
 have hbf:=B4.trans (hbr.mono B4.size);have q1:((n:Int)==(L.length:Int))=true:=by simp[hn]
 clear hbr hn;go_wp2_with fail;with_reducible refine(KA.out _ hbf).mono ?_
 rintro e W9 ⟨rfl,hb9⟩;have hbn:=hbf.trans (hb9.mono hbf.size);go_wp2_with fail;go_ret;exact⟨rfl,hbn⟩
theorem XJ(A:Option Addr)(n a hi:Nat)(h2:hi≤a)(W:World):(Instr.sliceAt 37 (H A n a) N (Z (I J hi)) N).run prog W=.ok (H (kS A a 0) (hi-0) (a-0)) W:=by
 have hu:=underlying37;have he:prog.elem 37=51:=by kernel_rfl
 obtain⟨i,hi',_,hs,_⟩:=info_parts sU;rw[run_sliceAt_slice (h:=by rw[he];exact hu),run_slice_h (ht:=by rw[he];exact hu) (h0:=by omega) (h2:=by omega)];simp[sizeOf,typeInfo,he,hi',hs,sliced,kS]
theorem ZA(b o a:Nat):kS (Z ⟨b,o,N⟩) a 0=Z ⟨b,o,N⟩:=by
 unfold kS;split
 ·rfl
 simp[Addr.add]
theorem Few.rev{x:Nrm}{c:Col}{l:List Stp}(h:Few x c l):Few x c l.reverse:=⟨by rw[List.length_reverse];exact h.n,h.x,h.c,fun s hs=>h.e s (List.mem_reverse.1 hs)⟩
theorem stC_one{w:World}{vs:List (Int×Value×Bool×Value)}{l:List Stp}(h:∀i,(hi:i<l.length)→(hv:i<vs.length)→jM w vs[i] l[i]){i:Nat}(hi:i<l.length)(hv:i<vs.length):∀u∈stC vs[i],u.oneCell'=true:=by
 obtain⟨T,tk,A,ak,e,_⟩:=(h i hi hv).ex;intro u hu;rw[e]at hu;simp only[stC,List.mem_cons,List.not_mem_nil,or_false]at hu;rcases hu with rfl|rfl|rfl|rfl<;>rfl
theorem Y_{w:World}{B:Option Addr}{vs:List (Int×Value×Bool×Value)}{l:List Stp}(hv:vs.length=l.length)(hr:cY stC w B vs.reverse)(h:∀i,(hi:i<l.length)→(hv:i<vs.length)→jM w vs[i] l[i]):gE w B l.reverse:=
 ⟨vs.reverse,by simp[hv],hr,fun i hi hj=>by
  rw[List.length_reverse]at hi hj
  rw[List.getElem_reverse,List.getElem_reverse]
  have:=h (l.length-1-i) (by omega) (by omega)
  simpa only[hv]using this⟩
theorem YZ{w:World}{A:Option Addr}{vs:List (Int×Value×Bool×Value)}{l:List Stp}(hvl:vs.length=l.length)(hvr:cY stC w A vs)(hve:∀i,(hi:i<l.length)→(hv:i<vs.length)→jM w vs[i] l[i]){m:Nat}(hm:m<l.length):
  ∃b o,A=Z ⟨b,o,N⟩∧b<w.heap.size∧∀i,(hi:i<l.length)→∃T tk Q qk,vs[i]'(by omega)=(l[i].id,H T l[i].text.length tk,l[i].rm,H Q l[i].ask.length qk)∧w.cell? ⟨b,o+i*4,N⟩=Z (I J l[i].id)∧w.cell? ⟨b,o+i*4+1,N⟩=Z (H T l[i].text.length tk)∧w.cell? ⟨b,o+i*4+2,N⟩=Z (.bool l[i].rm)∧w.cell? ⟨b,o+i*4+3,N⟩=Z (H Q l[i].ask.length qk):=by
 obtain⟨b,o,rfl,hb,hc⟩:=cY.at 4 (fun _=>rfl) (by omega) hvr (m:=m) (by omega);refine⟨b,o,rfl,hb,fun i hi=>?_⟩;obtain⟨T,tk,Q,qk,hv,_,_⟩:=(hve i hi (by omega)).ex;have c0:=hc i (by omega) 0 _ rfl;have c1:=hc i (by omega) 1 _ rfl;have c2:=hc i (by omega) 2 _ rfl;have c3:=hc i (by omega) 3 _ rfl;rw[hv]at c0 c1 c2 c3;exact⟨T,tk,Q,qk,hv,c0,c1,c2,c3⟩
theorem XF(vs:List (Int×Value×Bool×Value))(i:Nat)(hi:i<vs.length):aI stC (vs.drop i).reverse=aI stC (vs.drop (i+1)).reverse++stC vs[i]:=by
 rw[←List.getElem_cons_drop hi,List.reverse_cons];simp[aI]
def kZ(l:List Stp)(k:Nat):Prop:=∀j,(hj:j<l.length)→k≤j→l[j].rm=false∧∀t,(ht:t<j)→(l[t]'(by omega)).id≠l[j].id
theorem kZ.puts{l:List Stp}(h:kZ l 0):(∀s∈l,s.rm=false)∧l.Pairwise (fun a b=>a.id≠b.id):=by
 refine⟨fun s hs=>?_,?_⟩
 ·obtain⟨j,hj,rfl⟩:=List.getElem_of_mem hs
  exact(h j hj (Nat.zero_le _)).1
 rw[List.pairwise_iff_getElem];intro i j hi hj hij;exact(h j hj (Nat.zero_le _)).2 i hij
theorem kZ.more{l:List Stp}{k:Nat}(h:kZ l (k+1))(hk:k<l.length)(h1:l[k].rm=false)(h2:∀t,(ht:t<k)→(l[t]'(by omega)).id≠l[k].id):kZ l k:=fun j hj hkj=>by
 rcases Nat.lt_or_ge k j with g|g
 ·exact h j hj g
 obtain rfl:j=k:=by omega
 exact⟨h1,h2⟩
theorem SortlistTurns_any(V:gP)(x:Nrm)(c:Col)(o:Opt)(A:Option Addr)(a:Nat)(l:List Stp)(w:World)(hS:jL w V x c)(hl:gE w A l)(hna:l.length≤a)(haz:a≤9223372036854775807)(hL:cT w):
  Calls prog 5 #[.agg #[H V.A0 x.cls.length V.k0,H V.A1 x.dec.length V.k1,H V.A2 x.exc.length V.k2,H V.C c.ents.length V.a,H V.B c.grps.length V.b,I J c.base,I J c.second,I J c.third,I J o.st,I J o.va,.bool o.bk,.bool o.idn],H A l.length a] w (lC w):=by
 have B0:Below w.heap.size w (w.alloc (.cells #[H V.A0 x.cls.length V.k0,H V.A1 x.dec.length V.k1,H V.A2 x.exc.length V.k2,H V.C c.ents.length V.a,H V.B c.grps.length V.b,I J c.base,I J c.second,I J c.third,I J o.st,I J o.va,.bool o.bk,.bool o.idn] 36)):=ba _ _;have X0:Box (w.alloc (.cells #[H V.A0 x.cls.length V.k0,H V.A1 x.dec.length V.k1,H V.A2 x.exc.length V.k2,H V.C c.ents.length V.a,H V.B c.grps.length V.b,I J c.base,I J c.second,I J c.third,I J o.st,I J o.va,.bool o.bk,.bool o.idn] 36)) w.heap.size 36 [H V.A0 x.cls.length V.k0,H V.A1 x.dec.length V.k1,H V.A2 x.exc.length V.k2,H V.C c.ents.length V.a,H V.B c.grps.length V.b,I J c.base,I J c.second,I J c.third,I J o.st,I J o.va,.bool o.bk,.bool o.idn]:=Box.new _ _ _ rfl;have W0E:∃W0,(w.alloc (.cells #[H V.A0 x.cls.length V.k0,H V.A1 x.dec.length V.k1,H V.A2 x.exc.length V.k2,H V.C c.ents.length V.a,H V.B c.grps.length V.b,I J c.base,I J c.second,I J c.third,I J o.st,I J o.va,.bool o.bk,.bool o.idn] 36))=W0:=⟨_,rfl⟩;have HS:=G hS;have HL:=G hl;have HLd:=G hL;have KF:=G (fun W(hb:Below w.heap.size w W)=>sE V x c o A a l W (hS.below hb) (hl.below hb) (by omega));have KA:=G (fun W(hb:Below w.heap.size w W)=>rK W (hL.below hb));have KV:=G (fun W(hb:Below w.heap.size w W)(hf:Few x c l)=>uF V x c o W (hS.nrm.below hb) (hS.col.below hb) hf.x hf.c);have KM:=G (fun W(hb:Below w.heap.size w W)(hf:Few x c l)(hok:bR x c o=0)=>qH V x c o A a l W (hS.below hb) (hl.below hb) hf hok (hL.below hb));have FB:=G (fun h=>oT (x:=x) (c:=c) (l:=l) h);unfold lC at KA;clear hS hL;obtain⟨vs,hvl,hvr,hve⟩:=hl;have HVE:=G hve;have HVL:=G hvl;have HMV:=G (fun W(hb:Below w.heap.size w W)(hf:Few x c l)(hok:bR x c o=0)B k(hB:gE W B l.reverse)=>qH V x c o B k l.reverse W (HS.out.below hb) hB hf.rev hok (HLd.out.below hb));have HRAW:=G (fun m(hm:m<l.length)=>YZ HVL.out hvr hve hm);clear hve hvl hvr;go_enter func5,ntmps5;go_upto_region 1 with(fail)
 obtain⟨W0,hW0⟩:=W0E;try rw[hW0]at B0 X0⊢
 clear hW0;have HX:=G X0;clear X0;have d0:=(HX.out.below (Below.refl _ _) HX.out.lt).cell (i:=0) rfl;have d1:=(HX.out.below (Below.refl _ _) HX.out.lt).cell (i:=1) rfl;have d2:=(HX.out.below (Below.refl _ _) HX.out.lt).cell (i:=2) rfl;have d3:=(HX.out.below (Below.refl _ _) HX.out.lt).cell (i:=3) rfl;have d4:=(HX.out.below (Below.refl _ _) HX.out.lt).cell (i:=4) rfl;have d5:=(HX.out.below (Below.refl _ _) HX.out.lt).cell (i:=5) rfl;have d6:=(HX.out.below (Below.refl _ _) HX.out.lt).cell (i:=6) rfl;have d7:=(HX.out.below (Below.refl _ _) HX.out.lt).cell (i:=7) rfl;have d8:=(HX.out.below (Below.refl _ _) HX.out.lt).cell (i:=8) rfl;have d9:=(HX.out.below (Below.refl _ _) HX.out.lt).cell (i:=9) rfl;have d10:=(HX.out.below (Below.refl _ _) HX.out.lt).cell (i:=10) rfl;have d11:=(HX.out.below (Below.refl _ _) HX.out.lt).cell (i:=11) rfl;go_wp2_with fail;with_reducible refine(KF.out W0 B0).mono ?_
 rintro e W1 ⟨rfl,hb1⟩;have B1:=B0.trans (hb1.mono B0.size);clear d0 d1 d2 d3 d4 d5 d6 d7 d8 d9 d10 d11 KF;cases hfw:fC x c l with
 |false=>
  clear hfw;go_wp2_with fail;with_reducible refine(KA.out W1 B1).mono ?_
  rintro e W9 ⟨rfl,hb9⟩;have hbn:=(B1).trans (hb9.mono (B1).size);go_wp2_with fail;go_ret;exact⟨rfl,hbn⟩
 |true=>
 have HFW:=G (FB.out hfw);clear hfw FB;have d0:=(HX.out.below hb1 HX.out.lt).cell (i:=0) rfl;have d1:=(HX.out.below hb1 HX.out.lt).cell (i:=1) rfl;have d2:=(HX.out.below hb1 HX.out.lt).cell (i:=2) rfl;have d3:=(HX.out.below hb1 HX.out.lt).cell (i:=3) rfl;have d4:=(HX.out.below hb1 HX.out.lt).cell (i:=4) rfl;have d5:=(HX.out.below hb1 HX.out.lt).cell (i:=5) rfl;have d6:=(HX.out.below hb1 HX.out.lt).cell (i:=6) rfl;have d7:=(HX.out.below hb1 HX.out.lt).cell (i:=7) rfl;have d8:=(HX.out.below hb1 HX.out.lt).cell (i:=8) rfl;have d9:=(HX.out.below hb1 HX.out.lt).cell (i:=9) rfl;have d10:=(HX.out.below hb1 HX.out.lt).cell (i:=10) rfl;have d11:=(HX.out.below hb1 HX.out.lt).cell (i:=11) rfl;have KVi:=G (KV.out W1 B1 HFW.out);go_wp2_with fail;with_reducible refine KVi.out.mono ?_
 rintro e W2 ⟨rfl,hb2⟩;have hb02:=hb1.trans (hb2.mono hb1.size);have B2:=B1.trans (hb2.mono B1.size);clear d0 d1 d2 d3 d4 d5 d6 d7 d8 d9 d10 d11 KV KVi hb1 hb2 B1;by_cases hok:bR x c o=0;rotate_left
 ·have dok:decide (bR x c o=0)=false:=decide_eq_false hok
  rw[dok];clear dok hok;go_wp2_with fail;with_reducible refine(KA.out W2 B2).mono ?_
  rintro e W9 ⟨rfl,hb9⟩;have hbn:=(B2).trans (hb9.mono (B2).size);go_wp2_with fail;go_ret;exact⟨rfl,hbn⟩
 have dok:decide (bR x c o=0)=true:=decide_eq_true hok;rw[dok];have HOK:=G hok;clear dok hok;have HB2:=G hb02;have hln:=HFW.out.n;clear hb02;go_wp2_with fail;go_loopw [5,6] (fun u v wr=>∃(k:Nat)(z:Int)(B:Option Addr)(bc:Nat),k≤l.length∧v=I J z∧z=(k:Int)-1∧u=H B (l.length-k) bc∧wr.ownsRow W2.heap.size 51 4 (H B (l.length-k) bc) (l.length-k) (aI stC (vs.drop k).reverse)∧kZ l k∧Below W2.heap.size W2 wr) (fun _ v _=>(intOf v+1).toNat)
 case atStart=>exact⟨l.length,(l.length:Int)-1,N,0,Nat.le_refl _,rfl,rfl,by rw[Nat.sub_self],by rw[Nat.sub_self,List.drop_of_length_le (by rw[HVL.out];exact Nat.le_refl _)];exact World.ownsRow_nil _ _ _ _,fun j hj hk=>by omega,Below.refl _ _⟩
 obtain⟨k,z,B,bc,hk,rfl,hz,rfl,hown,hokf,hbr⟩:=hrel;have HOWN:=G hown;have HOKF:=G hokf;have hbw:=B2.trans (hbr.mono B2.size);clear hown hokf;cases k with
 |zero=>
  obtain rfl:z=-1:=by omega
  clear hz;have hbx:=HB2.out.trans (hbr.mono HB2.out.size);have KMi:=G (KM.out wr hbw HFW.out HOK.out)
  have KMr:=G (fun W(hb:Below wr.heap.size wr W)=>HMV.out W (hbw.trans (hb.mono hbw.size)) HFW.out HOK.out B bc (Y_ HVL.out (by
   have h1:=Sl.of_own HOWN.out
   rw[List.drop_zero]at h1
   exact Sl.below h1 hb) (fun i hi hv=>(HVE.out i hi hv).below (hbw.trans (hb.mono hbw.size)))))
  have HT:=G (turns (K:=kyN x c o) HOKF.out.puts.1 HOKF.out.puts.2);unfold nV at KMi KMr;rw[List.length_reverse]at KMr;have d0:=(HX.out.below hbx HX.out.lt).cell (i:=0) rfl;have d1:=(HX.out.below hbx HX.out.lt).cell (i:=1) rfl;have d2:=(HX.out.below hbx HX.out.lt).cell (i:=2) rfl;have d3:=(HX.out.below hbx HX.out.lt).cell (i:=3) rfl;have d4:=(HX.out.below hbx HX.out.lt).cell (i:=4) rfl;have d5:=(HX.out.below hbx HX.out.lt).cell (i:=5) rfl;have d6:=(HX.out.below hbx HX.out.lt).cell (i:=6) rfl;have d7:=(HX.out.below hbx HX.out.lt).cell (i:=7) rfl;have d8:=(HX.out.below hbx HX.out.lt).cell (i:=8) rfl;have d9:=(HX.out.below hbx HX.out.lt).cell (i:=9) rfl;have d10:=(HX.out.below hbx HX.out.lt).cell (i:=10) rfl;have d11:=(HX.out.below hbx HX.out.lt).cell (i:=11) rfl;clear KM HMV;go_wp2_with fail;with_reducible refine KMi.out.mono ?_
  rintro e W5 ⟨lb,V',mb,O,oc,f,rfl,⟨cnt,hcn,hlst⟩,hb5⟩;have HA:=G hlst;have hb5x:=hbx.trans (hb5.mono hbx.size);have KMs:=G (KMr.out W5 hb5);have B5:=hbw.trans (hb5.mono hbw.size);clear d0 d1 d2 d3 d4 d5 d6 d7 d8 d9 d10 d11 KMi KMr hlst hbx hbw hb5;have d0:=(HX.out.below hb5x HX.out.lt).cell (i:=0) rfl;have d1:=(HX.out.below hb5x HX.out.lt).cell (i:=1) rfl;have d2:=(HX.out.below hb5x HX.out.lt).cell (i:=2) rfl;have d3:=(HX.out.below hb5x HX.out.lt).cell (i:=3) rfl;have d4:=(HX.out.below hb5x HX.out.lt).cell (i:=4) rfl;have d5:=(HX.out.below hb5x HX.out.lt).cell (i:=5) rfl;have d6:=(HX.out.below hb5x HX.out.lt).cell (i:=6) rfl;have d7:=(HX.out.below hb5x HX.out.lt).cell (i:=7) rfl;have d8:=(HX.out.below hb5x HX.out.lt).cell (i:=8) rfl;have d9:=(HX.out.below hb5x HX.out.lt).cell (i:=9) rfl;have d10:=(HX.out.below hb5x HX.out.lt).cell (i:=10) rfl;have d11:=(HX.out.below hb5x HX.out.lt).cell (i:=11) rfl;go_wp2_with fail;with_reducible refine KMs.out.mono ?_
  rintro e W6 ⟨lb',V'',mb',O',oc',f',rfl,⟨cnt',hcn',hlst⟩,hb6⟩;have HB:=G hlst;have HA6:=G (HA.out.below hb6);have B6:=B5.trans (hb6.mono B5.size);have IA:=G (fun W(hb:Below W6.heap.size W6 W)=>qG (HA6.out.below hb));have IB:=G (fun W(hb:Below W6.heap.size W6 W)=>qG (HB.out.below hb));unfold bF at IA IB;rw[idsL_len,HT.out.2]at IA;rw[←HT.out.1]at IB;have hil:(idsL (runL (kyN x c o) [] l)).length=l.length:=by rw[idsL_len];exact HT.out.2
  have HIL:=G hil;rw[hil]at IB;generalize idsL (runL (kyN x c o) [] l)=ids at *;clear d0 d1 d2 d3 d4 d5 d6 d7 d8 d9 d10 d11 KMs hlst hb6 hb5x B5 hil;go_wp2_with fail;with_reducible refine(IA.out W6 (Below.refl _ _)).mono ?_
  rintro e W7 ⟨A7,k7,rfl,hI7,hb7⟩;have IA8:=G (IA.out W7 hb7);clear IA hI7;go_wp2_with fail;with_reducible refine IA8.out.mono ?_
  rintro e W8 ⟨A8,k8,rfl,hI8,hb8⟩;have hb68:=hb7.trans (hb8.mono hb7.size);have HI8:=G (Sl.of_own hI8:aA W8 A8 ids);have IB9:=G (IB.out W8 hb68);clear IA8 IB hI8 hb7 hb8;go_wp2_with fail;with_reducible refine IB9.out.mono ?_
  rintro e W9 ⟨A9,k9,rfl,hI9,hb9⟩;have hb69:=hb68.trans (hb9.mono hb68.size);have EC:=G (jZ A8 A9 l.length l.length k8 k9 ids ids W9 (HI8.out.below hb9) (Sl.of_own hI9) HIL.out HIL.out (by omega) (by omega));rw[decide_eq_true rfl]at EC;clear IB9 hI9 hb9 hb68;go_wp2_with fail;with_reducible refine EC.out.mono ?_
  rintro e Wa ⟨rfl,hqa⟩;have Ba:=B6.trans ((hb69.trans (hqa.below.mono hb69.size)).mono B6.size);clear EC hqa hb69;go_wp2_with fail;with_reducible refine(KA.out Wa Ba).mono ?_
  rintro e Wb ⟨rfl,hbb⟩;have hbn:=Ba.trans (hbb.mono Ba.size);go_wp2_with fail;go_ret;exact⟨rfl,hbn⟩
 |succ i=>
  obtain rfl:z=(i:Int):=by omega
  have hlt:i<l.length:=by omega
  obtain⟨b1,o1,rfl,hbl,hcell⟩:=HRAW.out i hlt;obtain⟨T,tk,Q,qk,ev,k0,k1,k2,k3⟩:=hcell i hlt;have c2:=(hbw.cell (p:=⟨b1,o1+i*4+2,N⟩) hbl).trans k2;have HCELL:=G hcell;have HK:=G (And.intro k0 (And.intro k1 (And.intro k2 k3)));have HBW:=G hbw;have HBR:=G hbr;have OM:=G (fun h1 h2=>kZ.more HOKF.out hlt h1 h2);have ROW:=G (XF vs i (by rw[HVL.out];exact hlt));rw[ev]at ROW;clear hcell hz k0 k1 k2 k3 ev;have HSEQ:=G (fun t(ht:t<l.length)=>show ∃s,l[t]=s from⟨_,rfl⟩);obtain⟨sid,hsid⟩:∃z,l[i].id=z:=⟨_,rfl⟩;obtain⟨stx,hstx⟩:∃z,l[i].text=z:=⟨_,rfl⟩;obtain⟨srm,hsrm⟩:∃z,l[i].rm=z:=⟨_,rfl⟩;obtain⟨sak,hsak⟩:∃z,l[i].ask=z:=⟨_,rfl⟩;rw[hsid,hstx,hsrm,hsak]at HK ROW;rw[hsrm]at c2;rw[hsid,hsrm]at OM;clear hsid hstx hsrm hsak HSEQ;cases srm with
  |true=>
   clear hbr;go_wp2_with fail;with_reducible refine(KA.out wr hbw).mono ?_
   rintro e W9 ⟨rfl,hb9⟩;have hbn:=hbw.trans (hb9.mono hbw.size);go_wp2_with fail;go_ret;exact⟨rfl,hbn⟩
  |false=>
   have rc:=XJ (Z ⟨b1,o1,N⟩) l.length a i (by omega);rw[ZA,Nat.sub_zero,Nat.sub_zero]at rc;obtain⟨Wo,rfl⟩:∃Wo,Wo=wr:=⟨_,rfl⟩;clear hbr;go_wp2_with fail;go_loopw [40] (fun u wr=>∃j:Nat,j≤i∧u=I J j∧(∀t,(ht:t<i)→t<j→(l[t]'(by omega)).id≠sid)∧Below Wo.heap.size Wo wr) (fun u _=>i-(intOf u).toNat)
   case atStart=>exact⟨0,Nat.zero_le _,rfl,fun t _ h=>by omega,Below.refl _ _⟩
   obtain⟨j,hj,rfl,hno,hbj⟩:=hrel;have HNO:=G hno;have hbwj:=HBW.out.trans (hbj.mono HBW.out.size);clear hno c2;by_cases hjl:j<i
   ·obtain⟨T',tk',Q',qk',_,k0,k1,k2,k3⟩:=HCELL.out j (by omega)
    have c0:=(hbwj.cell (p:=⟨b1,o1+j*4,N⟩) hbl).trans k0;have c1:=(hbwj.cell (p:=⟨b1,o1+j*4+1,N⟩) hbl).trans k1;have c2:=(hbwj.cell (p:=⟨b1,o1+j*4+2,N⟩) hbl).trans k2;have c3:=(hbwj.cell (p:=⟨b1,o1+j*4+3,N⟩) hbl).trans k3
    have HN2:=G (fun(h:(l[j]'(by omega)).id≠sid) t (ht:t<i) (h2:t<j+1)=>show(l[t]'(by omega)).id≠sid from by
     rcases Nat.lt_or_ge t j with g|g
     ·exact HNO.out t ht g
     ·obtain rfl:t=j:=by omega
      exact h)
    clear k0 k1 k2 k3;obtain⟨zid,hzid⟩:∃z,(l[j]'(by omega)).id=z:=⟨_,rfl⟩;obtain⟨ztx,hztx⟩:∃z,(l[j]'(by omega)).text=z:=⟨_,rfl⟩;obtain⟨zrm,hzrm⟩:∃z,(l[j]'(by omega)).rm=z:=⟨_,rfl⟩;obtain⟨zak,hzak⟩:∃z,(l[j]'(by omega)).ask=z:=⟨_,rfl⟩;rw[hzid]at c0 HN2;rw[hztx]at c1;rw[hzrm]at c2;rw[hzak]at c3;clear hzid hztx hzrm hzak;have hbz:=hbj.alloc hbj.size (.cells #[I J zid,H T' ztx.length tk',.bool zrm,H Q' zak.length qk'] 51);have XZ:Box (wr.alloc (.cells #[I J zid,H T' ztx.length tk',.bool zrm,H Q' zak.length qk'] 51)) wr.heap.size 51 [I J zid,H T' ztx.length tk',.bool zrm,H Q' zak.length qk']:=Box.new _ _ _ rfl;have WZE:∃Wz,(wr.alloc (.cells #[I J zid,H T' ztx.length tk',.bool zrm,H Q' zak.length qk'] 51))=Wz:=⟨_,rfl⟩;obtain⟨bz,hbzz⟩:∃bz,wr.heap.size=bz:=⟨_,rfl⟩;clear hbwj hbj;go_upto_region 12 with(fail)
    obtain⟨Wz,hWz⟩:=WZE;try rw[hWz]at XZ hbz⊢
    clear hWz c0 c1 c2 c3;rw[hbzz]at XZ;try rw[hbzz]
    clear hbzz;have hbwz:=HBW.out.trans (hbz.mono HBW.out.size);have e0:=(hbwz.cell (p:=⟨b1,o1+i*4,N⟩) hbl).trans HK.out.1;have hlz:=World.block_lt_of_cell? _ _ e0;have SH:=G (fun W'(hb':Below Wz.heap.size Wz W')=>show W'.cell? ⟨bz,0,N⟩=Z (I J zid)∧W'.cell? ⟨b1,o1+i*4,N⟩=Z (I J sid)∧Below Wz.heap.size Wz W' from⟨(XZ.below hb' XZ.lt).cell (i:=0) rfl,(hb'.cell (p:=⟨b1,o1+i*4,N⟩) hlz).trans e0,hb'⟩);have HBZ:=G hbz;clear hbwz e0 hbz;go_wp2_with fail;refine wp_region_held_drew (S:=fun W'=>W'.cell? ⟨bz,0,N⟩=Z (I J zid)∧W'.cell? ⟨b1,o1+i*4,N⟩=Z (I J sid)∧Below Wz.heap.size Wz W') (by kernel_rfl) (SH.out _ ((Below.refl _ _).drew)) (fun hHeld=>?_);refine tK 0 44 ?_;refine tK 1 45 ?_;refine tK 2 46 ?_;refine tK 3 47 ?_;refine tK 4 48 ?_;refine tK 5 49 ?_;refine tK 6 50 ?_;refine tK 7 51 ?_;refine wpAnyH_done (by kernel_rfl) ?_ _;have hbf:=HBZ.out.trans (hHeld.2.2.mono HBZ.out.size);clear hHeld SH XZ;by_cases heq:zid=sid
    ·have q1:(zid==sid)=true:=by simpa using heq
     have hbw9:=HBW.out.trans (hbf.mono HBW.out.size);clear heq;go_wp2_with fail;with_reducible refine(KA.out _ hbw9).mono ?_
     rintro e W9 ⟨rfl,hb9⟩;have hbn:=hbw9.trans (hb9.mono hbw9.size);go_wp2_with fail;go_ret;exact⟨rfl,hbn⟩
    have q1:(zid==sid)=false:=by simpa using heq
    have HN3:=G (HN2.out heq);clear heq HN2;have HBF:=G hbf;clear hbf;go_wp2_with fail;go_roundw
    case rel=>exact⟨j+1,by omega,by go_num,HN3.out,HBF.out⟩
    simp[intOf];omega
   obtain rfl:j=i:=by omega
   have c0:=(hbwj.cell (p:=⟨b1,o1+j*4,N⟩) hbl).trans HK.out.1;have c1:=(hbwj.cell (p:=⟨b1,o1+j*4+1,N⟩) hbl).trans HK.out.2.1;have c2:=(hbwj.cell (p:=⟨b1,o1+j*4+2,N⟩) hbl).trans HK.out.2.2.1;have c3:=(hbwj.cell (p:=⟨b1,o1+j*4+3,N⟩) hbl).trans HK.out.2.2.2;have bal:Below wr.heap.size wr (wr.alloc (.cells #[I J sid,H T stx.length tk,.bool false,H Q sak.length qk] 51)):=ba _ _;have hownR:=aN (aN HOWN.out hbj) bal;have hrow:Sl (wr.alloc (.cells #[I J sid,H T stx.length tk,.bool false,H Q sak.length qk] 51)) (Z ⟨wr.heap.size,0,N⟩) [I J sid,H T stx.length tk,.bool false,H Q sak.length qk]:=cK wr [I J sid,H T stx.length tk,.bool false,H Q sak.length qk] 51 rfl;have hone:∀u∈([I J sid,H T stx.length tk,.bool false,H Q sak.length qk]:List Value),u.oneCell'=true:=by
    intro u hu;simp only[List.mem_cons,List.not_mem_nil,or_false]at hu;rcases hu with rfl|rfl|rfl|rfl<;>rfl
   have hb2r:=HBR.out.trans (hbj.mono HBR.out.size);have hsz:W2.heap.size≤(wr.alloc (.cells #[I J sid,H T stx.length tk,.bool false,H Q sak.length qk] 51)).heap.size:=Nat.le_trans hb2r.size bal.size;have HB2R:=G (hb2r.alloc hb2r.size (.cells #[I J sid,H T stx.length tk,.bool false,H Q sak.length qk] 51));have HOM:=G (OM.out trivial (fun t ht=>HNO.out t ht ht));have hsub:l.length-j=l.length-(j+1)+1:=by omega
   have HSUB:=G hsub;clear hbwj hb2r hsub;go_wp2_with(at_builtin;refine aJ _ _ 37 51 (.agg #[I J 0,H N 0 0,.bool false,H N 0 0]) 4 64 rfl rfl underlying37 sU rfl (by decide) (by decide) rfl hownR rfl hrow rfl hone (by omega) hsz ?_;intro B1 bc1 w1 hown1 hc1 hb1 _ _);have HO1:=G hown1;have HB1:=G (HB2R.out.trans hb1);clear hown1 hb1 hownR hrow hone hsz bal c0 c1 c2 c3 hc1;go_wp2_with fail;go_roundw
   case rel=>exact⟨j,(j:Int)-1,B1,bc1,by omega,by go_num,rfl,by rw[HSUB.out],by rw[HSUB.out,ROW.out];exact HO1.out,HOM.out,HB1.out⟩
   simp[intOf]
end
end Go.Proofs.YtpfbnikbebccjaaGreatDoor
