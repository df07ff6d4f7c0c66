import Derived.Test.YtpfbnikbebccjaaGreatDoorU00
import Derived.Test.YtpfbnikbebccjaaGreatDoorU13
import Derived.Test.YtpfbnikbebccjaaGreatDoorU16
import Derived.Test.YtpfbnikbebccjaaGreatDoorU18
import Derived.Deep.Cut
set_option maxRecDepth 100000
set_option maxHeartbeats 51200000
namespace Go.Proofs.YtpfbnikbebccjaaGreatDoor
open Option renaming none->N,some->Z
open Value renaming int->I,slice->H
open IntKind renaming i64->J
open Go.Proofs.Tryz
section
open Go.RowKit Go.Maps Go.WideMaps
namespace Mtc
section
variable {E:Type}{cl:Int->Int}{ent:Li->Option (List E)}{t d part lft:Li}{z i:Nat}{hi:Int}
theorem MG.take_eq(h:MG cl ent t z d part lft i hi):d.take part.length=part:=by rw[h.eq,List.append_assoc,List.take_left]
theorem MG.mem(h:MG cl ent t z d part lft i hi){x:Int}(hx:x∈part):x∈d:=by rw[h.eq];simp[hx]
theorem MG.le_i(h:MG cl ent t z d part lft i hi):part.length<=i:=by have:=h.at_;omega
end
end Mtc
theorem IA{a w:Wv}(h:a.grownBy w N):By a w:=⟨h.os,h.tape,h.output,h.size,fun k hk=>h.block k hk (by simp)⟩
theorem vY{w:Wv}{b off:Nat}{zs:Li}(h:aA w (Z ⟨b,off,N⟩) zs){j:Nat}{u:Value}(hu:(zs.map (Value.int .i64))[j]?=Z u):w.cell? ⟨b,off+j,N⟩=Z u:=by
 obtain⟨b',o',hA,hc⟩:=h (by intro e;rw[e]at hu;simp at hu);injection hA with hA;injection hA with h1 h2;subst h1;subst h2;exact hc j u hu
theorem zAt(T:Nat)(c:Col)(cs:List Spn)(A0:Oa)(k0 b off cap:Nat)(pre post:Lv)(t:Li)(w0 w:Wv)(hM:uR T c cs A0 k0 b w0)(hw:Below w0.heap.size w0 w)(hR:Row w b off 3 pre post t)(ht:t≠[])(hbig:t.length<=1048576)(hcap:t.length<=cap)(hcm:cap<=9223372036854775807)(hio:∀z∈t,iok z):
  Calls prog 147 #[.pointer (Z ⟨T,0,N⟩),H (Z ⟨b,off,N⟩) t.length cap] w (qW (cls cs) (aL c.ents) (dJ c) b off pre post t w):=by
 have FC:=G (fun(A':Oa) n cc zs W (hb:Below w0.heap.size w0 W) (hC:aA W A' zs) (hn:zs.length=n) hn2 hw=>zAs T c (H A0 cs.length k0) (f_ cs) A' n cc zs W (hM.tab.below hb) hC hn hn2 hM.ent hw);have CC:=G (fun x W(hb:Below w0.heap.size w0 W)=>zAr T A0 k0 cs x W (hM.sp.below hb) hM.csz hM.asc (hM.tab.below hb).cl.2 (hM.tab.below hb).cl.1);have IC:=G (fun x W(hb:Below w0.heap.size w0 W)=>OQ T c _ _ x W (hM.tab.below hb) hM.base);have TC:=G (fun W(hb:Below w0.heap.size w0 W)=>(hM.tab.below hb).cells);have LB:=tF (k:=8) (fun x hx=>(hM.ent x hx).2);have SM:=U (Mtc.sz (aL c.ents) t t.length=Mtc.sz (aL c.ents) t (min (dA c.ents).toNat t.length)) (Mtc.sz_min (fun zs hz=>yM (by omega)) _ (Nat.le_refl _));have CT:=G (JK cs);have hbb:=hM.hb;have HIO:=G hio;have HR:=G hR;have hpos:0<t.length:=List.length_pos_iff.2 ht;have M0:=G (zB (cl:=cls cs) (ent:=aL c.ents) (t:=t));have M1:=G (fun z=>zC (cl:=cls cs) (ent:=aL c.ents) (t:=t) (z:=z));obtain⟨i0,hi0,hiz,his,hib⟩:=info_parts aM;clear hM hio hR ht;unfold qW;generalize aL c.ents=ent at *;generalize cls cs=cl at *;generalize dJ c=imp at *;generalize f_ cs=tp at *;obtain⟨L,hL⟩:∃L:Nat,dA c.ents=(L:Int):=⟨(dA c.ents).toNat,by omega⟩;rw[hL]at TC LB SM;clear hL;rw[Int.toNat_natCast]at SM;have t6:=(TC.out w hw).2.2.2.1;generalize hmt:Mtc.matched cl ent t=mt at *;clear hmt;obtain⟨z0,hz0⟩:∃z0:Nat,z0=min L t.length:=⟨_,rfl⟩;rw[<-hz0]at SM;have hz0le:z0<=t.length:=by omega
 have hmin:=fun(W:Wv) (ts:Array TypeId) (ty:TypeId)=>show(Builtin.min_ ts ty #[I J (L:Int),I J (t.length:Int)]).run prog W=.ok (I J (z0:Int)) W from by
  rw[run_min_int2];congr 2;split<;>omega
 clear hz0;go_enter func147,ntmps147;go_wp2_with fail;clear hmin t6;go_loopw [7] (fun u wr=>∃z:Nat,z<=t.length/\u=I J z/\Mtc.sz ent t t.length=Mtc.sz ent t z/\By w wr) (fun u _=>(intOf u).toNat)
 case atStart=>exact⟨z0,hz0le,rfl,SM.out,Below.refl _ _⟩
 obtain⟨z,hz,rfl,hsz,hbel⟩:=hrel;have HSZ:=G hsz;clear hsz;have hbw:=hw.trans (hbel.mono hw.size);have HRr:=G (HR.out.below hbel);by_cases hz1:0<z
 ·have HF:=G (FC.out (Z ⟨b,off,N⟩) z cap (t.take z) wr hbw (HRr.out.ints.take z) (by rw[List.length_take];omega) (by omega) (fun y hy=>HIO.out y (List.mem_of_mem_take hy)))
  cases he:ent (t.take z)with
  |none=>
   have HS2:=U (Mtc.sz ent t t.length=Mtc.sz ent t (z-1)) (by
    rw[HSZ.out]
    obtain⟨y,rfl⟩:∃y,z=y+1:=⟨z-1,by omega⟩
    rw[Mtc.sz_miss (by rw[he];simp)]
    rfl)
   rw[he]at HF;clear he;go_wp2_with fail;refine HF.out.mono ?_;rintro e W ⟨E,d,rfl,hE,hb⟩;clear hE HF;simp only[Option.getD_none,Option.isSome_none];go_wp2_with fail;go_roundw
   case rel=>exact⟨z-1,by omega,by go_num,HS2.out,hbel.trans (hb.mono hbel.size)⟩
   simp[intOf];omega
  |some l=>
   have HSZE:=U (Mtc.sz ent t t.length=z) (by
    rw[HSZ.out]
    obtain⟨y,rfl⟩:∃y,z=y+1:=⟨z-1,by omega⟩
    exact Mtc.sz_hit (by rw[he];rfl))
   have HST:=G (Mtc.MG.start (cl:=cl) (ent:=ent) (t:=t) hz1 hz (by rw[he];rfl));rw[he]at HF;clear he;have qz:((z:Int)==0)=false:=by rw[beq_eq_false_iff_ne];omega
   go_wp2_with fail;refine HF.out.mono ?_;rintro e W1 ⟨E,d,rfl,hE,hb1⟩;clear hE HF;simp only[Option.getD_some,Option.isSome_some];have hbel1:=hbel.trans (hb1.mono hbel.size);have HR1:=G (HR.out.below hbel1);have HG1:=U (w.grownBy W1 (Z b)) (cT (aO w _) hbel1);have hzl:(t.take z).length=z:=by rw[List.length_take];omega
   have HZL:=G hzl;clear hzl HSZ HRr hbw hbel hb1;go_wp2_with fail
   go_loopw [7,10,11] (fun u l q wr=>∃(d part lft:Li)(i:Nat)(hi:Int),u=I J part.length/\l=I J hi/\q=I J i/\Mtc.MG cl ent t z d part lft i hi/\Row wr b off 3 pre post d/\(∀x∈d,iok x)/\w.grownBy wr (Z b))
    (fun _ _ q _=>t.length-(intOf q).toNat)
   case atStart=>exact⟨t,t.take z,[],z,0,by rw[HZL.out],rfl,rfl,HST.out,HR1.out,HIO.out,HG1.out⟩
   obtain⟨d,part,lft,i,hi,rfl,rfl,rfl,hmg,hrow,hid,hgr⟩:=hrel;have HMG:=G hmg;have HRO:=G hrow;have HID:=G hid;have hpi:=hmg.le_i;have hil:=hmg.le;have hpp:=hmg.pos;have hdl:=hmg.len;have HDL:=G hdl;have hbw:Below w0.heap.size w0 wr:=hw.trans (lX hgr hbb hw.size);have t8:=(TC.out wr hbw).2.2.2.2;clear hmg hrow hid hdl;by_cases hil2:i<t.length
   ·have d1:decide ((i:Int)<(t.length:Int))=true:=by simpa using hil2
    by_cases hht:hi<tp
    ·have d2:decide (hi<tp)=true:=by simpa using hht
     have hdi:i<d.length:=by rw[HDL.out];exact hil2
     have ci:wr.cell? ⟨b,off+i,N⟩=Z (I J t[i]):=HRO.out.cell (by rw[List.getElem?_eq_getElem hdi,HMG.out.get hil2 hdi]);have CX:=G (CC.out t[i] wr hbw);have STOP:=G (fun h=>HMG.out.stop hil2 h);have LEAVE:=G (fun(hi':Int) h0 h1 hh=>HMG.out.leave (hi':=hi') hil2 h0 h1 hh);have TAKE:=G (fun h0 h1 h2=>HMG.out.take hil2 h0 h1 h2);have HDR:=U (d=part++lft++t[i]::t.drop (i+1)) (by rw[HMG.out.eq,HMG.out.drop hil2]);have hix:=HIO.out t[i] (List.getElem_mem hil2);generalize t[i]=x at *;generalize hcx:cl x=k at *;have HCX:=G hcx;clear hcx hdi;go_wp2_with fail;refine CX.out.mono ?_;rintro e W2 ⟨rfl,hb2⟩;have hgr2:=cT hgr hb2;have HRO2:=G (HRO.out.below hb2);have hbw2:=hbw.trans (hb2.mono hbw.size);clear ci CX t8 HRO;by_cases hk0:k=0
     ·have HGR:=G (STOP.out hk0)
      subst hk0;clear STOP LEAVE TAKE HDR;have HMT:=U (mt=(part,lft++t.drop i,true)) (by rw[M1.out z HSZE.out hz1,HGR.out]);have HF:=G (FC.out (Z ⟨b,off,N⟩) part.length cap part W2 hbw2 (by have h:=(Row.ints HRO2.out).take part.length;rw[HMG.out.take_eq]at h;exact h) rfl (by omega) (fun y hy=>HID.out y (HMG.out.mem hy)));have HRW:=U (∀W',By W2 W'->Row W' b off 3 pre post (part++(lft++t.drop i))) (fun W' h=>by rw[<-List.append_assoc,<-HMG.out.eq];exact Row.below HRO2.out h);have HGW:=U (∀W',By W2 W'->w.grownBy W' (Z b)) (fun W' h=>cT hgr2 h);obtain rfl:=HMT.out;clear HMG HGR HMT;go_wp2_with fail;refine HF.out.mono ?_;rintro e W9 ⟨E9,d9,rfl,hE9,hb9⟩;have HE9:=G hE9;clear hE9;go_wp2_with fail;go_ret3;exact⟨E9,d9,rfl,HE9.out,HRW.out _ hb9,HGW.out _ hb9⟩
     have q0:(k==0)=false:=by simpa using hk0
     by_cases hkl:k<=hi
     ·have q1:decide (k<=hi)=true:=by simpa using hkl
      have HL:=G (LEAVE.out hi hk0 (.inr hkl) (by omega));clear STOP LEAVE TAKE HDR;go_wp2_with fail;go_roundw
      case rel=>exact⟨d,part,lft++[x],i+1,hi,rfl,rfl,by go_num,HL.out,HRO2.out,HID.out,hgr2⟩
      simp[intOf];omega
     have q1:decide (k<=hi)=false:=by simpa using hkl
     have HPX:=G (fun(o:Obj)=>show aA (W2.alloc o) (Z ⟨b,off,N⟩) part from by have h:=(Row.ints HRO2.out).take part.length;rw[HMG.out.take_eq]at h;exact Sl.alloc h o);have HAL:=G (fun(o:Obj)=>show By W2 (W2.alloc o)from ba _ _);go_wp2_with(at_builtin;refine wpList_append_grows _ rfl _ _ 49 rfl 3 i0 (I J 0) 1 8 underlying49 hi0 hiz his hib rfl (by decide) (Z ⟨b,off,N⟩) part.length part.length (part.map (Value.int .i64)) rfl (by intro h;cases h) (by simp) (by intro a ha j u hu;injection ha with ha;subst ha;rw[Addr.add_lit];exact(vY (HPX.out _) hu)) ⟨W2.heap.size,0,N⟩ 1 1 [I J x] rfl rfl (by intro j u hu;rw[Addr.add_lit,Nat.zero_add];cases j with|zero=>(injection hu with hu;subst hu;simp)|succ j=>(simp at hu)) (by intro u hu;simp at hu;subst hu;rfl) (by omega) (by unfold maxLen;omega) (by omega) ?_;intro v3 W3 hown3 hgn3);obtain⟨A3,c3,rfl,hc3⟩:=gE hown3;have hb3:By W2 W3:=(HAL.out _).trans ((IA hgn3).mono (by simp));have hgr3:=cT hgr2 hb3;have HRO3:=G (HRO2.out.below hb3);have hbw3:=hbw2.trans (hb3.mono hbw2.size);have HI3:=U (aA W3 A3 (part++[x])) (by have h:=Sl.of_own hown3;unfold aA;rw[List.map_append];exact h)
     have HF3:=G (FC.out A3 (part.length+1) c3 (part++[x]) W3 hbw3 HI3.out (by simp) (by omega) (fun y hy=>by
      rcases List.mem_append.1 hy with hy|hy
      ·exact HID.out y (HMG.out.mem hy)
      ·simp at hy;subst hy;exact hix))
     clear hown3 hgn3 hb3 HI3 HRO2 HPX HAL hgr2 hbw2;cases he3:ent (part++[x])with
     |none=>
      have HL:=G (LEAVE.out k hk0 (.inl (by rw[he3];simp)) (by omega));rw[he3]at HF3;clear he3 STOP LEAVE TAKE HDR;go_wp2_with fail;refine HF3.out.mono ?_;rintro e W4 ⟨E4,d4,rfl,hE4,hb4⟩;clear hE4 HF3;simp only[Option.getD_none,Option.isSome_none];go_wp2_with fail;go_roundw
      case rel=>exact⟨d,part,lft++[x],i+1,k,rfl,rfl,by go_num,HL.out,HRO3.out.below hb4,HID.out,cT hgr3 hb4⟩
      simp[intOf];omega
     |some l3=>
      have HTK:=G (TAKE.out hk0 (by rw[he3];rfl) (by omega));rw[he3]at HF3;clear he3 STOP LEAVE TAKE;go_wp2_with fail;refine HF3.out.mono ?_;rintro e W4 ⟨E4,d4,rfl,hE4,hb4⟩;clear hE4 HF3;simp only[Option.getD_some,Option.isSome_some];have hgr4:=cT hgr3 hb4;have HRO4:=G (HRO3.out.below hb4);clear HRO3 hgr3 hbw3 hb4;obtain rfl:=HDR.out;clear HDR;have hlf:lft.length=i-part.length:=by have:=HMG.out.at_;omega
      have HLN:=U ((lft.map (Value.int .i64)).length=Nat.min (i-part.length) (i-part.length)) (by rw[List.length_map,hlf];show _=min _ _;omega)
      have HFT:=U (off+part.length+1+(lft.map (Value.int .i64)).length<=(pre++(part++lft++x::t.drop (i+1)).map (Value.int .i64)++post).length) (by
       have:=HRO4.out.1
       simp only[List.length_append,List.length_map,List.length_cons]
       omega)
      have HPS:=U (0<(lft.map (Value.int .i64)).length->bV (Z ⟨b,off,N⟩) cap (part.length+1)=Z ⟨b,off+part.length+1,N⟩/\∃ad,bV (Z ⟨b,off,N⟩) cap part.length=Z ad/\∀j v,(lft.map (Value.int .i64))[j]?=Z v->W4.cell? (ad.add j)=Z v) (by
       intro h0
       rw[List.length_map]at h0
       refine⟨?_,⟨b,off+part.length,N⟩,?_,?_⟩
       ·unfold bV
        rw[if_neg (by omega),Option.map_some,Addr.add_lit]
        rfl
       ·unfold bV
        rw[if_neg (by omega),Option.map_some,Addr.add_lit]
       ·intro j v hv
        rw[Addr.add_lit]
        have h:=Row.ints HRO4.out
        have h2:=vY h (j:=part.length+j) (u:=v) (by
         rw[List.map_append,List.map_append,List.append_assoc,List.getElem?_append_right (by simp),List.getElem?_append_left (by
          have:=(List.getElem?_eq_some_iff.1 hv).1
          simp at this|-
          omega)]
         simpa using hv)
        rw[Nat.add_assoc]
        exact h2)
      have hc1:=fun(W:Wv)=>show(Instr.sliceAt 49 (H (Z ⟨b,off,N⟩) t.length cap) (Z (I J ((part.length:Int)+1))) (Z (I J ((i:Int)+1))) N).run prog W=.ok (H (bV (Z ⟨b,off,N⟩) cap (part.length+1)) (i-part.length) (cap-(part.length+1))) W from by
       have h:=nN (Z ⟨b,off,N⟩) t.length cap (part.length+1) (i+1) (by omega) (by omega) W;rw[show((part.length+1:Nat):Int)=(part.length:Int)+1 from by omega,show((i+1:Nat):Int)=(i:Int)+1 from by omega,show i+1-(part.length+1)=i-part.length from by omega]at h;exact h
      have hc2:=fun(W:Wv)=>nN (Z ⟨b,off,N⟩) t.length cap part.length i hpi (by omega) W
      have HBX:=G HRO4.out.box;have hwp:IntKind.i64.wrap ((part.length:Int)+1)=(part.length:Int)+1:=by rw[IntKind.wrap_i64];omega
      have hwi:IntKind.i64.wrap ((i:Int)+1)=(i:Int)+1:=by rw[IntKind.wrap_i64];omega
      clear hlf;generalize bV (Z ⟨b,off,N⟩) cap (part.length+1)=DP at *;generalize bV (Z ⟨b,off,N⟩) cap part.length=SP at *;go_wp2_with fail;refine wp_region_held_drew (S:=fun _=>True) (by kernel_rfl) trivial (fun hHeld=>?_);refine eR (i:=0) (v:=?_) (Z 87) rfl rfl (by kernel_rfl) (by kernel_rfl) (by kernel_rfl) (fun _ _ _ h=>h) (by rfl) (by assumption) ?_ ?_;rotate_left
      ·intro w hSw;go_simp;try(with_reducible rfl)
      try simp only[Act.put,sA,sB,sC]
      refine eR (i:=1) (v:=?_) (Z 88) rfl rfl (by kernel_rfl) (by kernel_rfl) (by kernel_rfl) (fun _ _ _ h=>h) (by rfl) (by assumption) ?_ ?_;rotate_left
      ·intro w hSw;go_simp;try(with_reducible rfl)
      try simp only[Act.put,sA,sB,sC]
      refine tV 2 89 (I J ((part.length:Int)+1)) ?_ ?_
      ·intro w hSw;go_simp
      try simp only[Act.put,sA,sB,sC]
      refine eR (i:=3) (v:=?_) (Z 90) rfl rfl (by kernel_rfl) (by kernel_rfl) (by kernel_rfl) (fun _ _ _ h=>h) (by rfl) (by assumption) ?_ ?_;rotate_left
      ·intro w hSw;go_simp;try(with_reducible rfl)
      try simp only[Act.put,sA,sB,sC]
      refine tV 4 91 (I J ((i:Int)+1)) ?_ ?_
      ·intro w hSw;go_simp
      try simp only[Act.put,sA,sB,sC]
      refine tV 5 92 (H DP (i-part.length) (cap-(part.length+1))) ?_ ?_
      ·intro w hSw;go_simp
      try simp only[Act.put,sA,sB,sC]
      refine eR (i:=6) (v:=?_) (Z 93) rfl rfl (by kernel_rfl) (by kernel_rfl) (by kernel_rfl) (fun _ _ _ h=>h) (by rfl) (by assumption) ?_ ?_;rotate_left
      ·intro w hSw;go_simp;try(with_reducible rfl)
      try simp only[Act.put,sA,sB,sC]
      refine eR (i:=7) (v:=?_) (Z 94) rfl rfl (by kernel_rfl) (by kernel_rfl) (by kernel_rfl) (fun _ _ _ h=>h) (by rfl) (by assumption) ?_ ?_;rotate_left
      ·intro w hSw;go_simp;try(with_reducible rfl)
      try simp only[Act.put,sA,sB,sC]
      refine eR (i:=8) (v:=?_) (Z 95) rfl rfl (by kernel_rfl) (by kernel_rfl) (by kernel_rfl) (fun _ _ _ h=>h) (by rfl) (by assumption) ?_ ?_;rotate_left
      ·intro w hSw;go_simp;try(with_reducible rfl)
      try simp only[Act.put,sA,sB,sC]
      refine tV 9 96 (H SP (i-part.length) (cap-part.length)) ?_ ?_
      ·intro w hSw;go_simp
      try simp only[Act.put,sA,sB,sC]
      refine GO (i:=10) (Z 97) rfl rfl (by kernel_rfl) (by rfl) (.tmp 92) (.tmp 96) 49 49 rfl 3 underlying49 OY _ _ _ _ _ _ rfl rfl b (off+part.length+1) _ 3 HBX.out (lft.map (Value.int .i64)) HLN.out HPS.out HFT.out (aR lft) ?_;intro W5 hbx5 hg5;refine⟨trivial,?_⟩;try simp only[Act.put,sA,sB,sC]
      refine wpAnyH_done (by kernel_rfl) ?_ _
      all_goals
       have f5:=hbx5.free (off+part.length)
       obtain⟨v5,c5⟩:∃v,W5.cell? ⟨b,off+part.length,N⟩=Z v:=by
        have hlt:off+part.length<(splice (pre++(part++lft++x::t.drop (i+1)).map (Value.int .i64)++post) (off+part.length+1) (lft.map (Value.int .i64))).length:=by
         rw[length_splice _ _ _ HFT.out];have:=HFT.out;omega
        exact⟨_,hbx5.cell (List.getElem?_eq_getElem hlt)⟩
       have HR5:=U (Row (W5.setCell ⟨b,off+part.length,N⟩ (I J x)) b off 3 pre post (part++[x]++lft++t.drop (i+1))) (Row.of_box HRO4.out.1 (by
        have h:=hbx5.set (off+part.length) (I J x)
        rw[SR HRO4.out.1]at h
        exact h))
       have HG5:=U (w.grownBy (W5.setCell ⟨b,off+part.length,N⟩ (I J x)) (Z b)) (bF (bF (c_ hgr4) hg5) (dU _ _ _));have HID5:=U (∀y∈part++[x]++lft++t.drop (i+1),iok y) (fun y hy=>HID.out y (by simp only[List.mem_append,List.mem_cons,List.not_mem_nil,or_false]at hy|-;rcases hy with((h|h)|h)|h<;>simp[h]));clear hbx5 hg5 hgr4 HRO4 HBX;go_wp2_with fail;go_roundw
       case rel=>exact⟨_,part++[x],lft,i+1,hi,by simp,rfl,by go_num,HTK.out,HR5.out,HID5.out,HG5.out⟩
       simp[intOf];omega
    have d2:decide (hi<tp)=false:=by simpa using hht
    have HGR:=G (HMG.out.fin (.inr fun x=>by have:=CT.out x;omega));have HMT:=U (mt=(part,lft++t.drop i,true)) (by rw[M1.out z HSZE.out hz1,HGR.out]);have HF:=G (FC.out (Z ⟨b,off,N⟩) part.length cap part wr hbw (by have h:=(Row.ints HRO.out).take part.length;rw[HMG.out.take_eq]at h;exact h) rfl (by omega) (fun y hy=>HID.out y (HMG.out.mem hy)));have HRW:=U (∀W',By wr W'->Row W' b off 3 pre post (part++(lft++t.drop i))) (fun W' h=>by rw[<-List.append_assoc,<-HMG.out.eq];exact Row.below HRO.out h);have HGW:=U (∀W',By wr W'->w.grownBy W' (Z b)) (fun W' h=>cT hgr h);obtain rfl:=HMT.out;clear HMG HGR HMT;go_wp2_with fail;refine HF.out.mono ?_;rintro e W9 ⟨E9,d9,rfl,hE9,hb9⟩;have HE9:=G hE9;clear hE9;go_wp2_with fail;go_ret3;exact⟨E9,d9,rfl,HE9.out,HRW.out _ hb9,HGW.out _ hb9⟩
   have d1:decide ((i:Int)<(t.length:Int))=false:=by simpa using hil2
   have HGR:=G (HMG.out.fin (.inl (by omega)));have HMT:=U (mt=(part,lft++t.drop i,true)) (by rw[M1.out z HSZE.out hz1,HGR.out]);have HF:=G (FC.out (Z ⟨b,off,N⟩) part.length cap part wr hbw (by have h:=(Row.ints HRO.out).take part.length;rw[HMG.out.take_eq]at h;exact h) rfl (by omega) (fun y hy=>HID.out y (HMG.out.mem hy)));have HRW:=U (∀W',By wr W'->Row W' b off 3 pre post (part++(lft++t.drop i))) (fun W' h=>by rw[<-List.append_assoc,<-HMG.out.eq];exact Row.below HRO.out h);have HGW:=U (∀W',By wr W'->w.grownBy W' (Z b)) (fun W' h=>cT hgr h);obtain rfl:=HMT.out;clear HMG HGR HMT;go_wp2_with fail;refine HF.out.mono ?_;rintro e W9 ⟨E9,d9,rfl,hE9,hb9⟩;have HE9:=G hE9;clear hE9;go_wp2_with fail;go_ret3;exact⟨E9,d9,rfl,HE9.out,HRW.out _ hb9,HGW.out _ hb9⟩
 obtain rfl:z=0:=by omega
 have HM:=G (M0.out HSZ.out);have c0:wr.cell? ⟨b,off,N⟩=Z (I J t[0]):=by
  have h:=HRr.out.cell (i:=0) (List.getElem?_eq_getElem hpos);simpa using h
 have HI:=G (IC.out t[0] wr hbw);have e1:(t.take 1).length=1:=by rw[List.length_take];omega
 have e2:Mtc.ofPart ent imp (t.take 1) false=imp t[0]:=by
  unfold Mtc.ofPart;rw[if_neg (by simp)];congr 1;cases t with
  |nil=>simp at hpos
  |cons y r=>rfl
 have E1:=G e1;have E2:=G e2;clear e1 e2;obtain rfl:=HM.out;generalize t[0]=x at *;go_wp2_with fail;refine HI.out.mono ?_;rintro e W9 ⟨E9,d9,rfl,hE9,hb9⟩;have HE9:=G hE9;clear hE9;go_wp2_with fail;go_ret3;refine⟨E9,d9,?_,?_,?_,cT (cT (aO w _) hbel) hb9⟩
 ·simp only[E1.out,E2.out];rfl
 ·simp only[E2.out];exact HE9.out
 simp only[List.take_append_drop];exact HRr.out.below hb9
end
section
open Go.RowKit Go.Shelf
attribute [local go_sem] Oper.semAt_some
theorem Sl.not_box{W:Wv}{A:Oa}{cs:Lv}{B:Nat}{t:TypeId}{v:Value}(h:Sl W A cs)(hb:Boxed W B t v)(hv:∀k i,v≠.int k i){x:Value}{r:Lv}(hcs:cs=x::r){k:IntKind}{i:Int}(hx:x=.int k i):∀b o,A=Z ⟨b,o,N⟩->b≠B:=by
 rintro b o rfl rfl;subst hcs;subst hx;obtain⟨b',o',hA,hc⟩:=h (by simp);injection hA with hA;injection hA with h1 h2;subst h1;subst h2;have:=hc 0 _ rfl;rw[cell_of_row W b _ _ _ (0,0) hb]at this;simp at this;cases o with
 |zero=>simp at this;exact hv _ _ this
 |succ o=>simp at this
theorem aZ.not_box{W:Wv}{A:Oa}{ts:List Spn}{B:Nat}{t:TypeId}{v:Value}(h:aZ W A ts)(hb:Boxed W B t v)(hv:∀k i,v≠.int k i)(hne:ts≠[]):∀b o,A=Z ⟨b,o,N⟩->b≠B:=by
 cases ts with
 |nil=>exact absurd rfl hne
 |cons s r=>exact Sl.not_box (cs:=fR (s::r)) h hb hv rfl rfl
theorem Sl.set_box{W:Wv}{A:Oa}{cs:Lv}{B:Nat}(h:Sl W A cs)(hne:cs≠[]->∀b o,A=Z ⟨b,o,N⟩->b≠B)(v:Value):Sl (W.setCell ⟨B,0,N⟩ v) A cs:=by
 intro hc;obtain⟨b,o,rfl,h1⟩:=h hc;refine⟨b,o,rfl,fun j u hu=>?_⟩;have:b≠B:=hne hc b o rfl;rw[<-h1 j u hu];exact World.cell?_of_block (w:=W) (Below.heap_setCell _ _ _ b (by rintro rfl;exact this rfl))
theorem IB{n:Nat}{w W:Wv}(h:Below n w W){B:Nat}(hB:n<=B)(v:Value):Below n w (W.setCell ⟨B,0,N⟩ v):=
 ⟨h.os,h.tape,h.output,by have:=h.size;simpa[World.setCell]using this,fun k hk=>(Below.heap_setCell _ _ _ k (fun e=>by have:k=B:=(by first|exact e|exact e.symm);omega)).trans (h.block k hk)⟩
theorem iK.mono{n n' bo:Nat}{A:Oa}(h:iK n bo A)(hn:n<=n'):iK n' bo A:=fun b o e=>⟨Nat.lt_of_lt_of_le (h b o e).1 hn,(h b o e).2⟩
theorem UX{w:Wv}{base top:Nat}{e:TypeId}{A:Oa}{n c:Nat}{xs:Lv}(h:w.ownsRow base e 1 (H A n c) n xs)(hb:base<=top):∃bo,base<=bo/\(bo<w.heap.size\/bo=top)/\∀g o,A=Z ⟨g,o,N⟩->g=bo:=by
 rcases h.2 with⟨hv,_⟩|⟨g,cap,cur,hv,hg,hgb,_⟩
 ·injection hv with hA
  exact⟨top,hb,.inr rfl,fun g o e=>by rw[hA]at e;cases e⟩
 injection hv with hA;exact⟨g,hg,.inl (Array.getElem?_eq_some_iff.1 hgb).1,fun g' o e=>by rw[hA]at e;injection e with e;injection e with e;exact e.symm⟩
theorem PK{W W':Wv}{b:Nat}{c:Array Value}{t:TypeId}{f:Nat×Nat}(hg:W.grownBy W' (Z b))(hb:W.heap[b]?=Z (.cells c t f)):KeepsOthers W W':=
 ⟨hg.size,fun k o hk ho=>(hg.block k (Array.getElem?_eq_some_iff.1 hk).1 (fun e=>by injection e with e;subst e;rw[hb]at hk;cases hk;cases ho)).trans hk⟩
theorem eL{w:Wv}{base b:Nat}{e:TypeId}{size n:Nat}{v:Value}{xs:Lv}(h:w.ownsRow base e size v n xs)(hb:b<=base):w.ownsRow b e size v n xs:=by
 refine⟨h.1,?_⟩;rcases h.2 with h2|⟨g,cap,cur,hv,h1,rest⟩
 ·exact .inl h2
 exact .inr ⟨g,cap,cur,hv,Nat.le_trans hb h1,rest⟩
theorem GD(A':Oa)(ns ks:Nat)(ss ts:List Spn)(A:Oa)(nt kt:Nat)(text:Li)(w:Wv)(hS:aZ w A' ss)(hT:aA w A text)
  (hnt:text.length=nt) (hns:ss.length=ns) (hb1:nt<=1048576) (hb2:ns<=1099511627776) (hL:dL w) (hts:us ss=ts) :
  Calls prog 150 #[H A' ns ks,H A nt kt] w (fun e w'=>∃A1 c d,e=.returned (H A1 nt c)/\nt<=c/\w'.ownsRow w.heap.size 3 1 (H A1 nt c) nt (d.map (Value.int .i64))/\Srt.Stp (cls ts) text (rns (cls ts) text 0 N) d/\By w w'):=by
 have hle:=DV ss;have U:=G (fun W hb(hL:dL W)=>DW A' ns ks ss W (aZ.below (w:=w) (w':=W) hS hb) hns hb2 hL);have hasc:=G (DU ss);rw[hts]at hle hasc U;have HT:=G hT;have HL:=G hL;clear hT hS hL hts;rw[hns]at hle;refine(callsIn_wide (n:=6)).1 ?_;refine callsIn_of_wp_marks func150 rfl trivial ?_ rfl;simp only[ntmps150,List.size_toArray,List.length_cons,List.length_nil,Nat.reduceAdd,Nat.reduceSub,Array.replicate_succ,Array.replicate_zero,List.push_toArray,List.append_toArray,List.nil_append,List.cons_append];gi_wp2_with fail;refine⟨trivial,(callsIn_wide.2 (U.out _ ((Below.refl _ w).alloc (Nat.le_refl _) _) (HL.out.below ((Below.refl _ w).alloc (Nat.le_refl _) _)))).mono ?_⟩;rintro e w1 ⟨A1,k1,rfl,hA1,hbw1⟩;have bL:Boxed w1 w.heap.size 22 (H A' ns ks):=(hbw1.block w.heap.size (by simp)).trans (Boxed.new w 22 (H A' ns ks));have hB1:By w w1:=((Below.refl _ w).alloc (Nat.le_refl _) _).trans (hbw1.mono (by simp));have cL:=bL.cell;have fL:=bL.frozen;have HA1:=G hA1;clear hbw1 hA1;gi_wp2_with fail;have bL2:=bL.set (H A1 ts.length k1);have hB2:=IB hB1 (Nat.le_refl _) (H A1 ts.length k1);have hnb:ts≠[]->∀b o,A1=Z ⟨b,o,N⟩->b≠w.heap.size:=fun hne=>aZ.not_box HA1.out bL (by rintro k i h;cases h) hne
 have hA2:aZ (w1.setCell ⟨w.heap.size,0,N⟩ (H A1 ts.length k1)) A1 ts:=Sl.set_box HA1.out (fun h=>hnb (by rintro rfl;exact h rfl)) _;have HNB:=G hnb;clear HA1 hnb bL cL fL hB1;obtain⟨w2,hw2⟩:∃w2,w1.setCell ⟨w.heap.size,0,N⟩ (H A1 ts.length k1)=w2:=⟨_,rfl⟩;rw[hw2]at bL2 hB2 hA2|-;clear hw2;refine⟨trivial,(callsIn_wide.2 (jC A nt kt text w2 (HT.out.below hB2) hnt hb1)).mono ?_⟩;rintro e w3 ⟨A3,c3,rfl,hown3,hbw3⟩;have bL3:Boxed w3 w.heap.size 22 (H A1 ts.length k1):=(hbw3.block _ bL2.lt).trans bL2;have hA3:=hA2.below hbw3;have hB3:=hB2.trans (hbw3.mono hB2.size);have hs3:=hbw3.size;have hlt2:=bL2.lt;rw[hnt]at hown3|-;have HOWN:=G hown3;have HA3:=G hA3;have HWI:=G (fun hne bo hbo=>Sl.lt hA2 (cs:=fR ts) hne bo hbo);clear hbw3 hA2 bL2 hB2 hown3 hA3;have cL:=(bL3.alloc (.cells #[H A3 nt c3] 49)).cell;gi_wp2_with fail;refine⟨trivial,(callsIn_wide.2 (BM A nt kt A1 ts.length k1 _)).mono ?_⟩;rintro e W0 ⟨rfl,hW0⟩;simp only[World.size_alloc]at hW0|-;have hsz:W0.heap.size=w3.heap.size+3:=by rw[<-hW0];simp
 have hM:Mem (w3.heap.size+1+1) (w3.heap.size+1) A nt kt text A1 ts.length k1 ts W0:=by
  rw[<-hW0];refine⟨?_,?_,Sl.alloc (Sl.alloc (Sl.alloc (HT.out.below hB3) _) _) _,Sl.alloc (Sl.alloc (Sl.alloc HA3.out _) _) _⟩
  ·have h:=(Boxed.new ((w3.alloc (.cells #[H A3 nt c3] 49)).alloc (.cells #[H A1 ts.length k1] 22)) 49 (H A nt kt)).cell
   rw[World.size_alloc,World.size_alloc]at h;exact h
  have h:=((Boxed.new (w3.alloc (.cells #[H A3 nt c3] 49)) 22 (H A1 ts.length k1)).alloc (.cells #[H A nt kt] 49)).cell;rw[World.size_alloc]at h;exact h
 have hI0:h_ (cls ts) text w2.heap.size w3.heap.size w.heap.size A3 nt c3 A1 ts.length k1 ts w [] W0:=by
  rw[<-hW0];refine h_.alloc (h_.alloc ?_ _) _;exact⟨Boxed.new _ _ _,⟨text,HOWN.out.alloc _,rfl⟩,cL,Sl.alloc HA3.out _,hB3.alloc hB3.size _⟩
 obtain⟨bo,hbo1,hbo2,hbo3⟩:=UX HOWN.out (top:=w3.heap.size+3) (by omega);obtain⟨all,hall⟩:=XU (n:=nt) (rns (cls ts) text 0 N) (fun r hr=>by have:=YJ (cls ts) text 0 N (fun _ h=>by cases h) r hr;omega);have HALL:=G hall;clear hall;have HM:=G hM;clear hM;have HB:=G hbo3;clear hbo3;clear hW0 cL bL3 HA3 HOWN;gi_wp2_with fail
 refine wpIn_rangeFunc_ownH rfl (by omega) (gf:=134) (lb:=#[.pointer (Z ⟨w3.heap.size+1+1,0,N⟩),.pointer (Z ⟨w3.heap.size+1,0,N⟩)]) rfl trivial (enters_of func134 (by kernel_rfl) rfl)
  (BP (α:=RgN nt) (fun x=>x.1) 5 (by omega) W0.heap.size bo (w3.heap.size+1+1) (w3.heap.size+1) A nt kt text A1 ts.length k1 ts all W0 HALL.out hnt rfl (by omega) (by omega) hasc.out ⟨by omega,by omega⟩ ⟨by omega,by omega⟩
   (fun hne=>(Sl.lt HT.out (by simpa using hne) _ (by omega)).mono (by have:=hB3.size;omega)) (fun hne=>(HWI.out (by cases ts with|nil=>exact absurd rfl hne|cons s r=>simp[fR]) _ hbo1).mono (by omega)) HM.out)
  (fun h k=>h.trans k) (fun W l o o' hl h hc hw=>nC (belowK_b (w:=W0) (by omega) W l o o' hl h hc hw)) (Below.refl _ _) (fun _=>rfl)
  (fun pre W=>h_ (cls ts) text w2.heap.size w3.heap.size w.heap.size A3 nt c3 A1 ts.length k1 ts w (pre.map fun x=>x.1) W/\W0.heap.size<=W.heap.size)
  (fun _ _ _=>False)
  (OwnFrom.and (h_.own _ (by have:=hB3.size;omega)) (fun _ _ _ _ h hg _=>Nat.le_trans h hg.size))
  (fun _ _ _ _ _ hs _ _=>hs)
  ⟨hI0,Nat.le_refl _⟩
  (fun x a' W=>∃Bx,w3.heap.size<Bx/\W.heap[Bx]?=Z (.cells #[I J (x.1.1:Int),I J (x.1.2:Int)] 126 (0,0))/\a'={ tmps:=#[H A' ns ks,H A nt kt,.pointer (Z ⟨w.heap.size,0,N⟩),undef,H N 0 0,.pointer (Z ⟨w3.heap.size,0,N⟩),.pointer (Z ⟨Bx,0,N⟩),H A' ns ks,H A1 ts.length k1,H A nt kt,H A3 nt c3,H A1 ts.length k1,H A nt kt,.func (.func 134) #[] #[.pointer (Z ⟨w3.heap.size+1+1,0,N⟩),.pointer (Z ⟨w3.heap.size+1,0,N⟩)],.agg #[I J (x.1.1:Int),I J (x.1.2:Int)],undef,undef,undef,undef,undef,undef,undef,undef,undef],defers:=[] })
  (fun x a' _ X Y row hs hg hr=>by
   obtain⟨Bx,h1,h2,h3⟩:=hs
   refine⟨Bx,h1,(hg.block Bx (Array.getElem?_eq_some_iff.1 h2).1 (fun e=>?_)).trans h2,h3⟩
   obtain⟨_,o,ho,hc⟩:=hr Bx e.symm
   rw[h2]at ho;cases ho;cases hc)
  ?assign ?body ?done ?stop
 case assign=>
  rintro l pre x W K ⟨hI1,hWs⟩ hK;unfold mA at *;gi_wp2;exact hK _ _ ((KeepsOthers.alloc _ _).from _) (nC ((Below.refl _ W).alloc hWs _)) ⟨hI1.alloc _,by rw[World.size_alloc];omega⟩ ⟨W.heap.size,hI1.box.lt,heap_alloc_new W _,rfl⟩
 case body=>
  rintro l pre ⟨⟨lo,hi⟩,hx1,hx2⟩ a' W hl ⟨r,hr⟩ ⟨hI1,hWs⟩ ⟨Bx,hBx,bX,rfl⟩ hlt;dsimp only at hx1 hx2 bX|-;obtain⟨d,hrow,hstp⟩:=hI1.row;obtain⟨g,post,rfl,hg1,hRow,hdl,hcl,hcm⟩:=tT hrow (by omega);obtain rfl:=HB.out g 0 rfl;have cS:=hI1.box.cell;have x0:W.cell? ⟨Bx,0,N⟩=Z (I J (lo:Int)):=by rw[cell_of_row W Bx 0 _ _ (0,0) bX];rfl
  have x1:W.cell? ⟨Bx,1,N⟩=Z (I J (hi:Int)):=by rw[cell_of_row W Bx 1 _ _ (0,0) bX];rfl
  have HSTP:=G hstp;have HROW:=G hRow;have HI:=G hI1;clear hstp hRow hrow hI1;gi_wp2_with fail;have hseg:((d.drop lo).take (hi-lo)).length=hi-lo:=by simp;omega
  have HCUT:=G (HROW.out.cut (lo:=lo) (hi:=hi) (by omega) (by omega));have HC:=G (JT (b:=g) HI.out.l HI.out.sp rfl (by omega) hasc.out (by omega) (fun hne o e=>(HWI.out (by cases ts with|nil=>exact absurd rfl hne|cons s r=>simp[fR]) g hbo1 g o e).2 rfl));refine⟨trivial,(CallsIn.inRound l (callsIn_wide.2 (GB g w.heap.size lo (hi-lo) (c3-lo) 3 (cls ts) _ _ _ W HCUT.out hseg (by omega) HC.out))).mono ?_⟩;rintro e W5 ⟨rfl,d5,hD,hR5,hg5⟩;have hko:KeepsOthers W W5:=PK hg5 HROW.out.2;have hkx:gF W0.heap.size g W W5:=⟨hg5.size,fun k hk hne=>hg5.block k (by omega) (by intro e;injection e with e;exact hne e)⟩;have hR6:=hR5.uncut;have hd5:d5.length=hi-lo:=hD.1.1.trans hseg;have hout:d.take lo++(d.drop lo).take (hi-lo)++d.drop hi=d:=by
   have:=Srt.parts d lo lo hi (Nat.le_refl _) (by omega);simp only[Nat.sub_self,List.take_zero,List.nil_append]at this;exact this.symm
  have hdone:Srt.Done (cls ts) d (d.take lo++d5++d.drop hi) lo hi:=by
   have h1:=Srt.Done.lift (p:=d.take lo) (q:=d.drop hi) (show Srt.Done (cls ts) ((d.drop lo).take (hi-lo)) d5 0 _ by rw[hseg];exact hD);rw[hout,hseg,show(d.take lo).length=lo by simp;omega,show lo+(hi-lo)=hi by omega]at h1;exact h1
  have hI5:h_ (cls ts) text w2.heap.size w3.heap.size w.heap.size (Z ⟨g,0,N⟩) nt c3 A1 ts.length k1 ts w ((pre++[(⟨(lo,hi),hx1,hx2⟩:RgN nt)]).map fun x=>x.1) W5:=by
   have hcell:∀p:Addr,p.block<W.heap.size->p.block≠g->W5.cell? p=W.cell? p:=fun p h1 h2=>World.cell?_of_block (w:=W) (hg5.block p.block h1 (fun e=>h2 (by injection e)))
   refine⟨HI.out.box.kept hg5 (fun e=>?_),⟨_,BK hR6 hg1 (by simp[hd5];omega) hcl hcm,?_⟩,?_,?_,?_⟩
   ·injection e with e;omega
   ·rw[List.map_append]
    exact Srt.Stp.snoc (r:=(lo,hi)) HSTP.out hdone
   ·exact(hcell _ (World.block_lt_of_cell? W _ HI.out.l) (by simp;omega)).trans HI.out.l
   ·intro hne
    obtain⟨b',o',hA,hcs⟩:=HI.out.sp hne;refine⟨b',o',hA,fun j u hu=>?_⟩;have h1:=hcs j u hu;exact(hcell _ (World.block_lt_of_cell? W _ h1) (by rintro rfl;exact(HWI.out hne _ hbo1 _ _ hA).2 rfl)).trans h1
   exact HI.out.bel.grown hg5 HI.out.bel.size (fun k e=>by injection e with e;omega)
  have hsz5:=hg5.size;clear hD hR5 hR6 hg5 HCUT HC HROW HI HSTP hdone hout;gi_wp2_with fail;exact⟨hko.from _,hkx,hI5,by omega⟩
 case done=>
  rintro D ys W hD rfl ⟨hI1,hWs⟩ hK;obtain⟨d,hrow,hstp⟩:=hI1.row;have cS:=hI1.box.cell;have HRow:=G (ownsRow_putObj hrow (.deferred N) hK rfl);have HBel:=G (hI1.bel.trans (belowK_b (w:=w) (Nat.le_refl _) W D _ (.deferred N) (by have:=hB3.size;omega) hK rfl rfl));have HSTP:=G hstp;have hcv:nt<=c3:=by obtain⟨Av,cv,hv,hcv⟩:=gE hrow;injection hv with _ _ h;omega
  clear hrow hstp;gi_wp2_with fail;refine⟨by simp,.inl ⟨_,_,rfl,run_takeDeferred hK,?_⟩⟩;refine⟨_,results_tmp rfl _ _ _,A3,c3,d,rfl,?_,eL HRow.out (by omega),?_,HBel.out⟩
  ·exact hcv
  have:=HSTP.out;rw[HALL.out]at this;exact this
 rintro D c pre W _ _ h _;exact h.elim
theorem GC(A':Oa)(ns ks:Nat)(ss:List Spn)(A:Oa)(nt kt:Nat)(text:Li)(w:Wv)(hS:aZ w A' ss)(hT:aA w A text)
  (hnt:text.length=nt) (hns:ss.length=ns) (hb1:nt<=1048576) (hb2:ns<=1099511627776) (hL:dL w) :
  Calls prog 150 #[H A' ns ks,H A nt kt] w (bE (Can.srt (clz ss) text) w):=by
 refine(GD A' ns ks ss _ A nt kt text w hS hT hnt hns hb1 hb2 hL rfl).mono ?_;rintro e w' ⟨A1,c,d,rfl,hc,hI,hs,hb⟩;obtain rfl:=Can.stp_srt (fun x=>(wH ss x).1) hs;have hl:(Can.srt (clz ss) text).length=nt:=by rw[Can.srt_len,hnt]
 exact⟨A1,c,by rw[hl],by rw[hl];exact hI,hb⟩
end
section
open Go.RowKit Go.Maps Go.WideMaps
theorem KV(A0:Oa)(n0 k0:Nat)(A1:Oa)(n1 k1:Nat)(A2:Oa)(n2 k2:Nat)(x:Nrm)(w:Wv)(hN:bA w A0 n0 A1 n1 A2 n2 x)(hz:cK x)(hL:dL w):
  Calls prog 148 #[.agg #[H A0 n0 k0,H A1 n1 k1,H A2 n2 k2]] w (fun e w'=>e=.returned (usV x A0 k0 A1 k1 A2 k2)/\By w w'):=by
 obtain⟨hS,hM,hR,rfl,rfl,rfl⟩:=hN;have B0:By w ((w.alloc (.cells #[H A0 x.cls.length k0,H A1 x.dec.length k1,H A2 x.exc.length k2] 28)).alloc (.cells #[H N 0 0,H N 0 0,H N 0 0] 28)):=(ba _ _).alloc (by simp) _
 have X0:Box ((w.alloc (.cells #[H A0 x.cls.length k0,H A1 x.dec.length k1,H A2 x.exc.length k2] 28)).alloc (.cells #[H N 0 0,H N 0 0,H N 0 0] 28)) w.heap.size 28 [H A0 x.cls.length k0,H A1 x.dec.length k1,H A2 x.exc.length k2]:=
  (Box.new w _ [H A0 x.cls.length k0,H A1 x.dec.length k1,H A2 x.exc.length k2] rfl).below (B:=w.heap.size+1) ((Below.refl _ _).alloc (by simp) _) (by omega)
 have X1:Box ((w.alloc (.cells #[H A0 x.cls.length k0,H A1 x.dec.length k1,H A2 x.exc.length k2] 28)).alloc (.cells #[H N 0 0,H N 0 0,H N 0 0] 28)) (w.heap.size+1) 28 [H N 0 0,H N 0 0,H N 0 0]:=Box.new _ _ _ (by simp);have W0E:∃W0,((w.alloc (.cells #[H A0 x.cls.length k0,H A1 x.dec.length k1,H A2 x.exc.length k2] 28)).alloc (.cells #[H N 0 0,H N 0 0,H N 0 0] 28))=W0:=⟨_,rfl⟩;have hN:∀W,By w W->bA W A0 x.cls.length A1 x.dec.length A2 x.exc.length x:=fun W hb=>⟨hS.below hb,hM.below hb,hR.below hb,rfl,rfl,rfl⟩
 have CC:=G (fun W(hb:By w W)=>rX A0 x.cls.length k0 A1 x.dec.length k1 A2 x.exc.length k2 x W (hN W hb) hz (hL.below hb));have UB:=G (uI (x:=x) A0 k0 A1 k1 A2 k2);have UG:=G (uJ (x:=x) A0 k0 A1 k1 A2 k2);clear hN hS hM hR hz;generalize hu:usV x A0 k0 A1 k1 A2 k2=y at *;generalize hc:bK x=c at *;clear hu hc;go_enter func148,ntmps148;go_wp2_with fail;obtain⟨W0,hW0⟩:=W0E;rw[hW0]at B0 X0 X1|-;clear hW0;have s0:=X0.lt;have s1:=X1.lt;have c0:=X0.c 0 rfl;have c1:=X0.c 1 rfl;have c2:=X0.c 2 rfl;go_wp2_with fail;with_reducible refine(CC.out _ B0).mono ?_
 rintro e W1 ⟨rfl,hb1⟩;have Y0:=X0.below hb1 s0;have Y1:=X1.below hb1 s1;have B1:=B0.trans (hb1.mono B0.size);clear c0 c1 c2 X0 X1 B0 hb1;have c0:=Y0.c 0 rfl;have c1:=Y0.c 1 rfl;have c2:=Y0.c 2 rfl;have d0:=Y1.c 0 rfl;have d1:=Y1.c 1 rfl;have d2:=Y1.c 2 rfl;have f0:=Y1.free 0;have f1:=Y1.free 1;have f2:=Y1.free 2;have HB:=G (fun(u0 u1 u2:Value)=>show By w (((W1.setCell ⟨w.heap.size+1,0,N⟩ u0).setCell ⟨w.heap.size+1,1,N⟩ u1).setCell ⟨w.heap.size+1,2,N⟩ u2)from((B1.setCell (by simp) _).setCell (by simp) _).setCell (by simp) _);by_cases h0:c=0
 ·have HY:=G (UG.out h0)
  subst h0;go_wp2_with fail;(try simp only[Exit.inBlock,Exit.then]);refine bodyPost_ret (nK rfl _ _ (b:=w.heap.size+1) (v0:=H A0 x.cls.length k0) (v1:=H A1 x.dec.length k1) (v2:=H A2 x.exc.length k2) rfl (by go_simp) (by go_simp) (by go_simp)) rfl ?_;exact⟨by rw[HY.out],HB.out _ _ _⟩
 have HY:=G (UB.out h0);have h1:(c !=0)=true:=by simpa using h0
 go_wp2_with fail;(try simp only[Exit.inBlock,Exit.then]);refine bodyPost_ret (nK rfl _ _ (b:=w.heap.size+1) (v0:=H N 0 0) (v1:=H N 0 0) (v2:=H N 0 0) rfl (by go_simp) (by go_simp) (by go_simp)) rfl ?_;exact⟨by rw[HY.out],HB.out _ _ _⟩
theorem GI(A0:Oa)(n0 k0:Nat)(A1:Oa)(n1 k1:Nat)(A2:Oa)(n2 k2:Nat)(ms:List Mp)(compat:Bool)(w w5:Wv)
  (h:(((((w.alloc (.cells #[H A0 n0 k0,H A1 n1 k1,H A2 n2 k2] 28)).alloc (.cells #[.bool compat] 4)).alloc (.map #[] 0)).alloc (.cells #[.map (Z (w.heap.size+1+1))] 219)).alloc (.cells #[.func (.func 171) #[] #[.pointer (Z ⟨w.heap.size+1+1+1,0,N⟩),.pointer (Z ⟨w.heap.size,0,N⟩),.pointer (Z ⟨w.heap.size+1,0,N⟩),.pointer (Z ⟨w.heap.size+1+1+1+1,0,N⟩)]] 169))=w5) :
  XM A0 n0 k0 A1 n1 k1 A2 n2 k2 ms compat w.heap.size w5 0 (fun _=>N)/\By w w5:=by
 subst h;have al:∀(W:Wv)(o:Obj),By W (W.alloc o):=fun W o=>ba _ _
 obtain⟨w1,h1⟩:∃w1,w.alloc (.cells #[H A0 n0 k0,H A1 n1 k1,H A2 n2 k2] 28)=w1:=⟨_,rfl⟩;have x1:Box w1 w.heap.size 28 [H A0 n0 k0,H A1 n1 k1,H A2 n2 k2]:=by rw[<-h1];exact Box.new _ _ _ rfl
 have b1:By w w1:=by rw[<-h1];exact al _ _
 have s1:w1.heap.size=w.heap.size+1:=by rw[<-h1];simp
 rw[h1];obtain⟨w2,h2⟩:∃w2,w1.alloc (.cells #[.bool compat] 4)=w2:=⟨_,rfl⟩;have x2:Box w2 (w.heap.size+1) 4 [.bool compat]:=by rw[<-h2];exact Box.new _ _ _ s1.symm
 have b2:By w1 w2:=by rw[<-h2];exact al _ _
 have s2:w2.heap.size=w.heap.size+2:=by rw[<-h2];simp[s1]
 rw[h2];obtain⟨w3,h3⟩:∃w3,w2.alloc (.map #[] 0)=w3:=⟨_,rfl⟩;have x3:hZ w3 (w.heap.size+2) 0 (fun _=>N):=by rw[<-h3,<-s2];exact aT.made _ _ _ _ _
 have b3:By w2 w3:=by rw[<-h3];exact al _ _
 have s3:w3.heap.size=w.heap.size+3:=by rw[<-h3];simp[s2]
 rw[h3];obtain⟨w4,h4⟩:∃w4,w3.alloc (.cells #[.map (Z (w.heap.size+1+1))] 219)=w4:=⟨_,rfl⟩;have x4:Box w4 (w.heap.size+3) 219 [.map (Z (w.heap.size+2))]:=by rw[<-h4];exact Box.new _ _ _ s3.symm
 have b4:By w3 w4:=by rw[<-h4];exact al _ _
 have s4:w4.heap.size=w.heap.size+4:=by rw[<-h4];simp[s3]
 rw[h4];obtain⟨w5,h5⟩:∃w5,w4.alloc (.cells #[.func (.func 171) #[] #[.pointer (Z ⟨w.heap.size+1+1+1,0,N⟩),.pointer (Z ⟨w.heap.size,0,N⟩),.pointer (Z ⟨w.heap.size+1,0,N⟩),.pointer (Z ⟨w.heap.size+1+1+1+1,0,N⟩)]] 169)=w5:=⟨_,rfl⟩;have x5:Box w5 (w.heap.size+4) 169 [.func (.func 171) #[] #[.pointer (Z ⟨w.heap.size+3,0,N⟩),.pointer (Z ⟨w.heap.size,0,N⟩),.pointer (Z ⟨w.heap.size+1,0,N⟩),.pointer (Z ⟨w.heap.size+4,0,N⟩)]]:=by rw[<-h5];exact Box.new _ _ _ s4.symm
 have b5:By w4 w5:=by rw[<-h5];exact al _ _
 rw[h5];have b45:=b5;have b35:=b4.trans (b5.mono b4.size);have b25:=b3.trans (b35.mono b3.size);have b15:=b2.trans (b25.mono b2.size);exact⟨⟨x1.below b15 x1.lt,x2.below b25 x2.lt,x3.below b35,x4.below b45 x4.lt,x5,fun c v e=>(by cases e)⟩,b1.trans (b15.mono b1.size)⟩
def FH(A0:Oa)(n0 k0:Nat)(A1:Oa)(n1 k1:Nat)(A2:Oa)(n2 k2:Nat)(ms:List Mp)(compat:Bool)(w:Wv)(e:Ending)(w':Wv):Prop:=
 e=.returned (.func (.func 171) #[] #[.pointer (Z ⟨w.heap.size+3,0,N⟩),.pointer (Z ⟨w.heap.size,0,N⟩),.pointer (Z ⟨w.heap.size+1,0,N⟩),.pointer (Z ⟨w.heap.size+4,0,N⟩)])/\XM A0 n0 k0 A1 n1 k1 A2 n2 k2 ms compat w.heap.size w' 0 (fun _=>N)/\By w w'
theorem MD(A0:Oa)(n0 k0:Nat)(A1:Oa)(n1 k1:Nat)(A2:Oa)(n2 k2:Nat)(ms:List Mp)(compat:Bool)(w:Wv):
  Calls prog 149 #[.agg #[H A0 n0 k0,H A1 n1 k1,H A2 n2 k2],.bool compat] w (FH A0 n0 k0 A1 n1 k1 A2 n2 k2 ms compat w):=by
 have hmm:=@run_makeMap prog;have hsf:=fun(W:Wv) (a:Addr) (m:Mode) (fn:Fn) (x y:Array Value)=>run_store prog W a (.func fn x y) m rfl
 go_enter func149,ntmps149;go_wp2_with fail;obtain⟨W0,hW0⟩:∃W0,(((((w.alloc (.cells #[H A0 n0 k0,H A1 n1 k1,H A2 n2 k2] 28)).alloc (.cells #[.bool compat] 4)).alloc (.map #[] 0)).alloc (.cells #[.map (Z (w.heap.size+1+1))] 219)).alloc (.cells #[.func (.func 171) #[] #[.pointer (Z ⟨w.heap.size+1+1+1,0,N⟩),.pointer (Z ⟨w.heap.size,0,N⟩),.pointer (Z ⟨w.heap.size+1,0,N⟩),.pointer (Z ⟨w.heap.size+1+1+1+1,0,N⟩)]] 169))=W0:=⟨_,rfl⟩;obtain⟨hM0,hB0⟩:=GI A0 n0 k0 A1 n1 k1 A2 n2 k2 ms compat w W0 hW0;go_ret;exact⟨rfl,by rw[hW0];exact hM0,by rw[hW0];exact hB0⟩
def dtx(x:Nrm)(compat:Bool)(t:Li):Li:=Can.srt (clz (usN x).cls) (flM (usN x) compat t)
theorem M_(x:Nrm)(compat:Bool){t:Li}{i:Nat}(hi:i<t.length):flM x compat (t.take (i+1))=flM x compat (t.take i)++dcM x.dec compat t[i]:=by
 unfold flM;rw[List.take_succ_eq_append_getElem hi,List.flatMap_append,List.flatMap_singleton]
theorem MZ{x:Nrm}(h:NOk x)(compat:Bool)(t:Li)(i:Nat):(flM x compat (t.take i)).length<=64*t.length:=by
 have:=r_ h compat (t.take i);rw[List.length_take]at this;omega
theorem wR(A0:Oa)(n0 k0:Nat)(A1:Oa)(n1 k1:Nat)(A2:Oa)(n2 k2:Nat)(x:Nrm)(A:Oa)(n k:Nat)(t:Li)(compat:Bool)(w:Wv)(hN:bA w A0 n0 A1 n1 A2 n2 x)(hz:cK x)(hL:dL w)(hA:aA w A t)(hn:t.length=n)(hbig:n<=16384)(hio:∀c∈t,iok c):
  Calls prog 121 #[.agg #[H A0 n0 k0,H A1 n1 k1,H A2 n2 k2],H A n k,.bool compat] w (bE (dtx x compat t) w):=by
 subst hn;obtain⟨B0,c0,B1,c1,B2,c2,hv,hNW⟩:=uH hN k0 k1 k2;have US:=G (fun W(hb:By w W)=>KV A0 n0 k0 A1 n1 k1 A2 n2 k2 x W (hN.below hb) hz (hL.below hb));rw[hv]at US;have HNW:=G hNW;have hny:=qG x;have hzu:=hz.us;have DF:=G (oR hny.st hny.hg hny.en compat);have DL:=G (wT hny.st hny.hg hny.en hny.lo compat);have EX:=G (fun(W:Wv) (hb:By w W)=>fun c l=>MB B0 (usN x).cls.length c0 B1 c1 B2 (usN x).exc.length c2 W.heap.size (usN x).dec compat W rfl (HNW.out W hb).s1 hny.st hny.co (by have:=hzu.z1.1;omega) (c:=c) (l:=l));have SO:=G (fun(D:Oa) (m d:Nat) (l:Li) (W:Wv) (hb:By w W) (hD:aA W D l) (hm:l.length=m) (hm2:m<=1048576)=>GC B0 (usN x).cls.length c0 (usN x).cls D m d l W (HNW.out W hb).s0 hD hm rfl hm2 (by have:=hzu.z0;omega) (hL.below hb));have FT:=G (fun i(hi:i<t.length)=>M_ (usN x) compat hi);have FL:=G (fun i=>MZ hny compat t i);have HA:=G hA;have HIO:=G hio;have hul:unmarked (uM (usN x).dec) (mkF (fun _=>N))<=2000000:=by
  have h1:=DQ (uM (usN x).dec) (mkF (fun _=>N));rw[zAA]at h1;have:=hzu.z1.1;omega
 unfold dtx;clear hN hz hL hA hv hNW hny hzu hio;generalize usN x=y at *;have X0:Box (w.alloc (.cells #[H A0 n0 k0,H A1 n1 k1,H A2 n2 k2] 28)) w.heap.size 28 [H A0 n0 k0,H A1 n1 k1,H A2 n2 k2]:=Box.new w _ [H A0 n0 k0,H A1 n1 k1,H A2 n2 k2] rfl;have H0:By w (w.alloc (.cells #[H A0 n0 k0,H A1 n1 k1,H A2 n2 k2] 28)):=ba _ _;have W0E:∃W0,(w.alloc (.cells #[H A0 n0 k0,H A1 n1 k1,H A2 n2 k2] 28))=W0:=⟨_,rfl⟩;go_enter func121,ntmps121;go_wp2_with fail;obtain⟨W0,hW0⟩:=W0E;try rw[hW0]at X0 H0|-
 clear hW0;have s0:=X0.lt;have g0:=X0.c 0 rfl;have g1:=X0.c 1 rfl;have g2:=X0.c 2 rfl;go_wp2_with fail;with_reducible refine(US.out _ H0).mono ?_
 rintro e W1 ⟨rfl,hb1⟩;have X1:=X0.below hb1 s0;have H1:=H0.trans (hb1.mono H0.size);have f0:=X1.free 0;have f1:=X1.free 1;have f2:=X1.free 2;have e0:=X1.c 0 rfl;have e1:=X1.c 1 rfl;have e2:=X1.c 2 rfl;have X2:Box (((W1.setCell ⟨w.heap.size,0,N⟩ (H B0 y.cls.length c0)).setCell ⟨w.heap.size,1,N⟩ (H B1 y.dec.length c1)).setCell ⟨w.heap.size,2,N⟩ (H B2 y.exc.length c2)) w.heap.size 28 [H B0 y.cls.length c0,H B1 y.dec.length c1,H B2 y.exc.length c2]:=((X1.set 0 _).set 1 _).set 2 _;have H2:By w (((W1.setCell ⟨w.heap.size,0,N⟩ (H B0 y.cls.length c0)).setCell ⟨w.heap.size,1,N⟩ (H B1 y.dec.length c1)).setCell ⟨w.heap.size,2,N⟩ (H B2 y.exc.length c2)):=((H1.setCell (by simp) _).setCell (by simp) _).setCell (by simp) _;have W2E:∃W2,(((W1.setCell ⟨w.heap.size,0,N⟩ (H B0 y.cls.length c0)).setCell ⟨w.heap.size,1,N⟩ (H B1 y.dec.length c1)).setCell ⟨w.heap.size,2,N⟩ (H B2 y.exc.length c2))=W2:=⟨_,rfl⟩;clear US X0 H0 g0 g1 g2 s0 hb1;go_wp2_with fail;obtain⟨W2,hW2⟩:=W2E;try rw[hW2]at X2 H2|-
 clear hW2 X1 H1 f0 f1 f2 e0 e1 e2;have s2:=X2.lt;have g0:=X2.c 0 rfl;have g1:=X2.c 1 rfl;have g2:=X2.c 2 rfl;have EC:=G (MD B0 y.cls.length c0 B1 y.dec.length c1 B2 y.exc.length c2 y.dec compat W2);go_wp2_with fail;with_reducible refine EC.out.mono ?_
 rintro e W5 ⟨rfl,hM5,hb5⟩;have H5:=H2.trans (hb5.mono H2.size);have X5:=X2.below hb5 s2;have EO:=G (EX.out W2 H2);have HM5:=G hM5;have hs5:W2.heap.size+4<W5.heap.size:=hM5.bX.lt;have HB5:=G (show Below W2.heap.size W2 W5 from hb5);clear EC EX hM5 hb5 X2 g0 g1 g2;generalize W2.heap.size=s at *;go_wp2_with fail
 go_loopw [8,18] (fun u q wr=>∃(i n':Nat)(f':Int->Option Value)(B:Oa)(k:Nat),i<=t.length/\u=H B ((flM y compat (t.take i))).length k/\q=I J i/\i_ B0 y.cls.length c0 B1 y.dec.length c1 B2 y.exc.length c2 y.dec compat s (fun _=>True) (flM y compat (t.take i)) W5 W5 0 (fun _=>N) B k wr n' f')
  (fun _ q _=>t.length-(intOf q).toNat)
 case atStart=>
  exact⟨0,0,_,N,0,Nat.zero_le _,rfl,rfl,⟨World.ownsRow_nil _ _ _ _,HM5.out,aO _ _,Nat.le_refl _,fun x E' m d e=>.inl e,fun x e=>.inl e,kZ.nil _⟩⟩
 obtain⟨i,n',f',B,k',hile,rfl,rfl,HL0⟩:=hrel;have HL:=G HL0;have hbr:Below s W2 wr:=HB5.out.trans (lX HL0.gr (by omega) (by omega));have hwr:=H2.trans (hbr.mono (by omega:w.heap.size<=s));clear HL0;have hfl:=FL.out i;by_cases hi:i<t.length
 ·obtain⟨b,o,rfl,hcell⟩:=(HA.out.below hwr).at hi
  have hc0:=hcell i hi;clear hcell;have hmem:t[i]∈t:=List.getElem_mem hi;have CL:=G (EO.out t[i] _ (DF.out t[i]) (HIO.out _ hmem) (by have:=DL.out t[i];omega) wr n' f' HL.out.st hbr (by have:=HL.out.pot;omega));have NX:=G (fun(E2:Oa) W n9 f9 (p:oF B0 y.cls.length c0 B1 y.dec.length c1 B2 y.exc.length c2 y.dec compat s t[i] (dcM y.dec compat t[i]) wr n' f' E2 W n9 f9)=>HL.out.call (Nat.le_refl _) hs5 (fun _ _=>trivial) p);have FSq:=G (FT.out i hi);have hdl:=DL.out t[i];clear hmem;generalize dcM y.dec compat t[i]=ve at *;generalize t[i]=te at *;generalize flM y compat (t.take i)=fl at *;go_wp2_with fail;with_reducible refine CL.out.mono ?_
  rintro e W ⟨E2,d2,n9,f9,rfl,hd2,hp⟩;have HL2:=G (NX.out E2 W n9 f9 hp);have HE2:=G hp.ints;clear hp CL NX HL hwr hbr;go_wp2_with(at_builtin;refine aJ _ _ 49 3 (I J 0) 1 8 rfl rfl underlying49 aM rfl (by decide) (by decide) rfl HL2.out.own rfl HE2.out (by simp) (aR _) (by omega) HL2.out.lt ?_;intro B3 k3 w3 hown3 hc3 hb3 hg3 hB3);have HL3:=G (HL2.out.app hs5 hown3 hb3 hg3 hB3);clear hown3 hb3 hg3 hB3 HL2 HE2;go_wp2_with fail;go_roundw
  case rel=>exact⟨i+1,n9,f9,B3,k3,by omega,by rw[FSq.out,List.length_append],by go_num,by rw[FSq.out];exact HL3.out⟩
  simp[intOf];omega
 have hi':i=t.length:=by omega
 subst hi';rw[List.take_length]at HL hfl|-;have q0:wr.cell? ⟨w.heap.size,0,N⟩=Z (H B0 y.cls.length c0):=(HL.out.gr.cell (X5.c 0 rfl) (by simp;omega));have CS:=G (SO.out B _ k' _ wr hwr (Sl.of_own HL.out.own) rfl (by omega));generalize Can.srt (clz y.cls) (flM y compat t)=sr at *;go_wp2_with fail;with_reducible refine CS.out.mono ?_
 rintro e W ⟨E,d,rfl,ho,hb⟩;have HO:=G ho;clear CS ho;go_wp2_with fail;go_ret;exact⟨E,d,rfl,eL HO.out hwr.size,hwr.trans (hb.mono hwr.size)⟩
def gI:Col:=⟨[],[],64448,32,2⟩
theorem JX:aW gI=0:=by
 decide
theorem oN{c:Col}(h:aW c=0):cC c=c:=if_pos h
theorem oM{c:Col}(h:¬aW c=0):cC c=gI:=if_neg h
theorem oO(c:Col):aW (cC c)=0:=by
 by_cases h:aW c=0
 ·rw[oN h];exact h
 rw[oM h];exact JX
theorem RI(A:Oa)(n a:Nat)(B:Oa)(m b:Nat)(c:Col)(w:Wv)(h:aU w A n B m c)(hz:bW c)(he:¬aW c=0):
  Calls prog 145 #[aQ A n a B m b c] w (rD gI w):=by
 have B0:By w (w.alloc (.cells #[H A n a,H B m b,I J c.base,I J c.second,I J c.third] 32)):=ba _ _;have X0:Box (w.alloc (.cells #[H A n a,H B m b,I J c.base,I J c.second,I J c.third] 32)) w.heap.size 32 [H A n a,H B m b,I J c.base,I J c.second,I J c.third]:=Box.new w 32 [H A n a,H B m b,I J c.base,I J c.second,I J c.third] rfl;have W0E:∃W0,w.alloc (.cells #[H A n a,H B m b,I J c.base,I J c.second,I J c.third] 32)=W0:=⟨_,rfl⟩;have CK:=G (fun W(hb:By w W)=>rQ A n a B m b c W (h.below hb) hz);have hmm:=@run_makeMap prog;clear h hz;generalize aW c=er at *;have q:(er !=0)=true:=by simpa using he
 clear he;unfold aQ at *;generalize c.base=u2 at *;generalize c.second=u3 at *;generalize c.third=u4 at *;clear c;go_enter func145,ntmps145;go_wp2_with fail;obtain⟨W0,hW0⟩:=W0E;rw[hW0]at B0 X0|-;clear hW0;have k0:=X0.c 0 rfl;have k1:=X0.c 1 rfl;have k2:=X0.c 2 rfl;have k3:=X0.c 3 rfl;have k4:=X0.c 4 rfl;have hx0:=X0.lt;go_wp2_with fail;with_reducible refine(CK.out W0 B0).mono ?_
 rintro e W1 ⟨rfl,hb1⟩;clear CK k0 k1 k2 k3 k4;have hb2:=B0.trans (hb1.mono B0.size);have X1:=X0.below hb1 hx0;have f0:=X1.free 0;have f1:=X1.free 1;have f2:=X1.free 2;have f3:=X1.free 3;have f4:=X1.free 4;have e0:=X1.c 0 rfl;have e1:=X1.c 1 rfl;have e2:=X1.c 2 rfl;have e3:=X1.c 3 rfl;have e4:=X1.c 4 rfl;have X5:Box (((((W1.setCell ⟨w.heap.size,0,N⟩ (H N 0 0)).setCell ⟨w.heap.size,1,N⟩ (H N 0 0)).setCell ⟨w.heap.size,2,N⟩ (I J 64448)).setCell ⟨w.heap.size,3,N⟩ (I J 32)).setCell ⟨w.heap.size,4,N⟩ (I J 2)) w.heap.size 32 [H N 0 0,H N 0 0,I J 64448,I J 32,I J 2]:=((((X1.set 0 _).set 1 _).set 2 _).set 3 _).set 4 _;have B5:By w (((((W1.setCell ⟨w.heap.size,0,N⟩ (H N 0 0)).setCell ⟨w.heap.size,1,N⟩ (H N 0 0)).setCell ⟨w.heap.size,2,N⟩ (I J 64448)).setCell ⟨w.heap.size,3,N⟩ (I J 32)).setCell ⟨w.heap.size,4,N⟩ (I J 2)):=((((hb2.setCell (by simp) _).setCell (by simp) _).setCell (by simp) _).setCell (by simp) _).setCell (by simp) _;have W5E:∃W5,(((((W1.setCell ⟨w.heap.size,0,N⟩ (H N 0 0)).setCell ⟨w.heap.size,1,N⟩ (H N 0 0)).setCell ⟨w.heap.size,2,N⟩ (I J 64448)).setCell ⟨w.heap.size,3,N⟩ (I J 32)).setCell ⟨w.heap.size,4,N⟩ (I J 2))=W5:=⟨_,rfl⟩;go_upto_region 3 with(fail)
 obtain⟨W5,hW5⟩:=W5E;rw[hW5]at B5 X5|-;clear hW5 f0 f1 f2 f3 f4 e0 e1 e2 e3 e4 X1;have k0:=X5.c 0 rfl;have k1:=X5.c 1 rfl;have k2:=X5.c 2 rfl;have k3:=X5.c 3 rfl;have k4:=X5.c 4 rfl;have hx5:=X5.lt;have hx6:¬w.heap.size=W5.heap.size:=by omega
 have hx7:¬w.heap.size=W5.heap.size+1:=by omega
 have B2:By W5 ((W5.alloc (.map #[] 0)).alloc (.cells #[H N 0 0,H N 0 0,I J 64448,I J 32,I J 2,.map (Z W5.heap.size),I J 0,H N 0 0,I J 0] 213)):=(ba _ _).alloc (by simp) _;have X2:Box ((W5.alloc (.map #[] 0)).alloc (.cells #[H N 0 0,H N 0 0,I J 64448,I J 32,I J 2,.map (Z W5.heap.size),I J 0,H N 0 0,I J 0] 213)) (W5.heap.size+1) 213 (kV N 0 0 N 0 0 gI W5.heap.size (dA gI.ents) (H N 0 0) 0):=Box.new _ _ _ (by simp);have M2:aT prog 215 jE kok ((W5.alloc (.map #[] 0)).alloc (.cells #[H N 0 0,H N 0 0,I J 64448,I J 32,I J 2,.map (Z W5.heap.size),I J 0,H N 0 0,I J 0] 213)) W5.heap.size 0 (fun _=>N):=(aT.made prog _ jE kok W5).alloc _;have W2E:∃W2,((W5.alloc (.map #[] 0)).alloc (.cells #[H N 0 0,H N 0 0,I J 64448,I J 32,I J 2,.map (Z W5.heap.size),I J 0,H N 0 0,I J 0] 213))=W2:=⟨_,rfl⟩;have hsz:=B5.size;go_wp2_with fail;obtain⟨W2,hW2⟩:=W2E;rw[hW2]at B2 X2 M2|-;clear hW2 k0 k1 k2 k3 k4 hmm;have HX2:=G X2;have HM2:=G M2;clear X2 M2;go_loopw [17] (fun u wr=>u=I J 0/\wr=W2) (fun u _=>0-(intOf u).toNat)
 case atStart=>exact⟨rfl,rfl⟩
 obtain⟨rfl,rfl⟩:=hrel;go_wp2_with fail;go_ret;exact⟨_,rfl,by omega,⟨_,_,_,_,_,_,_,_,_,HX2.out,HM2.out,gG.nil _⟩,B5.trans (B2.mono hsz)⟩
theorem RH(A:Oa)(n a:Nat)(B:Oa)(m b:Nat)(c:Col)(w:Wv)(h:aU w A n B m c)(hz:bW c):
  Calls prog 145 #[aQ A n a B m b c] w (rD (cC c) w):=by
 by_cases he:aW c=0
 ·rw[oN he];exact RJ A n a B m b c w h hz he
 rw[oM he];exact RI A n a B m b c w h hz he
end
section
open Go.RowKit
theorem LH{x:Nrm}(compat:Bool){t:Li}(h:∀z∈t,iok z):∀z∈dtx x compat t,iok z:=fun z hz=>((NA (qG x) compat h).1 z hz).1
theorem lZ(x:Nrm)(compat:Bool)(t:Li):(dtx x compat t).length<=64*t.length:=by
 unfold dtx;rw[Can.srt_len];exact r_ (qG x) compat t
theorem zAB(x:Nrm):Asc (usN x).cls:=by
 unfold usN;split
 ·next h=>exact vP (tI h).1.c
 exact fun i j _ hj=>by simp at hj
end
end Go.Proofs.YtpfbnikbebccjaaGreatDoor
