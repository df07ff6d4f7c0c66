import Derived.Test.YtkhmjidaeliccaaGreatDoorS13
set_option maxRecDepth 100000
set_option maxHeartbeats 51200000
namespace Go.Proofs.YtkhmjidaeliccaaGreatDoor
open Option renaming none->N,some->Z
open Value renaming int->I,slice->H
open IntKind renaming i64->J
open Go.Proofs.Tryz
section
open Go.RowKit Go.Maps Go.WideMaps
namespace Mtc
section
variable {E:Type}{cl:Int->Int}{ent:Li->Option (List E)}{t d part lft:Li}{z i:Nat}{hi:Int}
theorem MG.take_eq(h:MG cl ent t z d part lft i hi):d.take part.length=part:=by rw[h.eq,List.append_assoc,List.take_left]
theorem MG.mem(h:MG cl ent t z d part lft i hi){x:Int}(hx:x∈part):x∈d:=by rw[h.eq];simp[hx]
theorem MG.le_i(h:MG cl ent t z d part lft i hi):part.length<=i:=by have:=h.at_;omega
end
end Mtc
theorem JI{a w:Wv}(h:a.grownBy w N):By a w:=⟨h.os,h.tape,h.output,h.size,λk hk=>h.block k hk L⟩
theorem wI{w:Wv}{b off:Nat}{zs:Li}(h:aA w (Z ⟨b,off,N⟩) zs){j:Nat}{u:Value}(hu:(zs.map (Value.int .i64))[j]?=Z u):w.cell? ⟨b,off+j,N⟩=Z u:=by
 obtain⟨c,d,a,hc⟩:=h (by intro e;rw[e]at hu;simp at hu);injection a with a;injection a with h1 h2;subst h1;subst h2;exact hc j u hu
theorem FI(T:Nat)(c:Col)(cs:List Spn)(A0:Oa)(k0 b off cap:Nat)(pre post:Lv)(t:Li)(w0 w:Wv)(hM:qR T c cs A0 k0 b w0)(hw:Below w0.heap.size w0 w)(hR:Row w b off 3 pre post t)(ht:t≠[])(hbig:t.length<=1048576)(hcap:t.length<=cap)(hcm:cap<=9223372036854775807)(hio:∀z∈t,iok z):
  Calls prog 66 #[.pointer (Z ⟨T,0,N⟩),H (Z ⟨b,off,N⟩) t.length cap] w (oQ (cls cs) (aF c.ents) (aZ c) b off pre post t w):=by
 have FC:=G (λ(A':Oa) n cc zs W (hb:Below w0.heap.size w0 W) (hC:aA W A' zs) (hn:zs.length=n) hn2 hw=>zAn T c (H A0 cs.length k0) (fO cs) A' n cc zs W (hM.tab.below hb) hC hn hn2 hM.ent hw);have CC:=G (λx W(hb:Below w0.heap.size w0 W)=>zAl T A0 k0 cs x W (hM.sp.below hb) hM.csz hM.asc (hM.tab.below hb).cl.2 (hM.tab.below hb).cl.1);have IC:=G (λx W(hb:Below w0.heap.size w0 W)=>PN T c _ _ x W (hM.tab.below hb) hM.base);have TC:=G (λW(hb:Below w0.heap.size w0 W)=>(hM.tab.below hb).cells);have LB:=tO (k:=8) (λx hx=>(hM.ent x hx).2);have SM:=U (Mtc.sz (aF c.ents) t t.length=Mtc.sz (aF c.ents) t (min (dE c.ents).toNat t.length)) (Mtc.sz_min (λzs hz=>zB O) _ (Nat.le_refl _));have CT:=G (LP cs);have cg:=hM.hb;have a6:=G hio;have HR:=G hR;have a2:0<t.length:=List.length_pos_iff.2 ht;have M0:=G (zO (cl:=cls cs) (ent:=aF c.ents) (t:=t));have M1:=G (λz=>zP (cl:=cls cs) (ent:=aF c.ents) (t:=t) (z:=z));obtain⟨i0,ch,cn,ck,cj⟩:=info_parts cU;clear hM hio hR ht;unfold oQ;generalize aF c.ents=ent at *;generalize cls cs=cl at *;generalize aZ c=imp at *;generalize fO cs=tp at *;obtain⟨L,hL⟩:∃L:Nat,dE c.ents=(L:Int):=⟨(dE c.ents).toNat,O⟩;rw[hL]at TC LB SM;clear hL;rw[Int.toNat_natCast]at SM;have t6:=(TC.o w hw).2.2.2.1;generalize hmt:Mtc.matched cl ent t=mt at *;clear hmt;obtain⟨z0,br⟩:∃z0:Nat,z0=min L t.length:=⟨_,rfl⟩;rw[<-br]at SM;have bc:z0<=t.length:=O
 have bp:=λ(W:Wv) (ts:Array TypeId) (ty:TypeId)=>show(Builtin.min_ ts ty #[I J (L:Int),I J (t.length:Int)]).run prog W=.ok (I J (z0:Int)) W from by
  rw[run_min_int2];congr 2;split<;>omega
 clear br;go_enter func66,ntmps66;go_wp2_with fail;clear bp t6;go_loopw [7] (λu wr=>∃z:Nat,z<=t.length/\u=I J z/\Mtc.sz ent t t.length=Mtc.sz ent t z/\By w wr) (λu _=>(intOf u).toNat)
 case atStart=>exact⟨z0,bc,rfl,SM.o,Below.refl _ _⟩
 obtain⟨z,hz,rfl,bq,D⟩:=hrel;have av:=G bq;clear bq;have K:=tb hw D;have au:=G (HR.o.below D);by_cases hz1:0<z
 ·have HF:=G (FC.o (Z ⟨b,off,N⟩) z cap (t.take z) wr K (au.o.ints.take z) (by rw[List.length_take];omega) O (λy hy=>a6.o y (List.mem_of_mem_take hy)))
  cases he:ent (t.take z)with
  |none=>
   have b4:=U (Mtc.sz ent t t.length=Mtc.sz ent t (z-1)) (by
    rw[av.o]
    obtain⟨y,rfl⟩:∃y,z=y+1:=⟨z-1,O⟩
    rw[Mtc.sz_miss (by rw[he];simp)]
    rfl)
   rw[he]at HF;clear he;go_wp2_with fail;refine HF.o.mono ?_;rintro e W ⟨E,d,rfl,hE,hb⟩;clear hE HF;simp only[Option.getD_none,Option.isSome_none];go_wp2;go_roundw
   case rel=>exact⟨z-1,O,oN_,b4.o,tb D hb⟩
   exact oI_
  |some l=>
   have ao:=U (Mtc.sz ent t t.length=z) (by
    rw[av.o]
    obtain⟨y,rfl⟩:∃y,z=y+1:=⟨z-1,O⟩
    exact Mtc.sz_hit (by rw[he];rfl))
   have b5:=G (Mtc.MG.start (cl:=cl) (ent:=ent) (t:=t) hz1 hz (by rw[he];rfl));rw[he]at HF;clear he;have qz:((z:Int)==0)=false:=by rw[beq_eq_false_iff_ne];omega
   go_wp2_with fail;refine HF.o.mono ?_;rintro e W1 ⟨E,d,rfl,hE,bk⟩;clear hE HF;simp only[Option.getD_some,Option.isSome_some];have ap:=tb D bk;have b2:=G (HR.o.below ap);have bw:=U (w.grownBy W1 (Z b)) (cT (aP w _) ap);have bs:(t.take z).length=z:=by rw[List.length_take];omega
   have b7:=G bs;clear bs av au K D bk;go_wp2
   go_loopw [7,10,11] (λu l q wr=>∃(d f g:Li)(i:Nat)(hi:Int),u=I J f.length/\l=I J hi/\q=I J i/\Mtc.MG cl ent t z d f g i hi/\Row wr b off 3 pre post d/\(∀x∈d,iok x)/\w.grownBy wr (Z b))
    (λ_ _ q _=>t.length-(intOf q).toNat)
   case atStart=>exact⟨t,t.take z,[],z,0,by rw[b7.o],rfl,rfl,b5.o,b2.o,a6.o,bw.o⟩
   obtain⟨d,f,g,i,hi,rfl,rfl,rfl,ai,a3,bn,ax⟩:=hrel;have m:=G ai;have aa:=G a3;have Y:=G bn;have cp:=ai.le_i;have dk:=ai.le;have dl:=ai.pos;have bl:=ai.len;have bv:=G bl;have K:Below w0.heap.size w0 wr:=hw.trans (lB ax cg hw.size);have t8:=(TC.o wr K).2.2.2.2;clear ai a3 bn bl;by_cases hil2:i<t.length
   ·have d1:decide ((i:Int)<(t.length:Int))=true:=by simpa using hil2
    by_cases hht:hi<tp
    ·have d2:decide (hi<tp)=true:=by simpa using hht
     have bb:i<d.length:=by rw[bv.o];exact hil2
     have ci:wr.cell? ⟨b,off+i,N⟩=Z (I J t[i]):=aa.o.cell (by rw[List.getElem?_eq_getElem bb,m.o.get hil2 bb]);have CX:=G (CC.o t[i] wr K);have Q:=G (λh=>m.o.stop hil2 h);have p:=G (λ(hi':Int) h0 h1 hh=>m.o.leave (hi':=hi') hil2 h0 h1 hh);have R:=G (λh0 h1 h2=>m.o.take hil2 h0 h1 h2);have ak:=U (d=f++g++t[i]::t.drop (i+1)) (by rw[m.o.eq,m.o.drop hil2]);have cm:=a6.o t[i] (List.getElem_mem hil2);generalize t[i]=x at *;generalize hcx:cl x=k at *;have c6:=G hcx;clear hcx bb;go_wp2_with fail;refine CX.o.mono ?_;rintro e W2 ⟨rfl,a9⟩;have af:=cT ax a9;have B:=G (aa.o.below a9);have aq:=tb K a9;clear ci CX t8 aa;by_cases hk0:k=0
     ·have M:=G (Q.o hk0)
      subst hk0;clear Q p R ak;have P:=U (mt=(f,g++t.drop i,true)) (by rw[M1.o z ao.o hz1,M.o]);have HF:=G (FC.o (Z ⟨b,off,N⟩) f.length cap f W2 aq (by have h:=(Row.ints B.o).take f.length;rw[m.o.take_eq]at h;exact h) rfl O (λy hy=>Y.o y (m.o.mem hy)));have an:=U (∀W',By W2 W'->Row W' b off 3 pre post (f++(g++t.drop i))) (λW' h=>by rw[<-List.append_assoc,<-m.o.eq];exact Row.below B.o h);have al:=U (∀W',By W2 W'->w.grownBy W' (Z b)) (λW' h=>cT af h);obtain rfl:=P.o;clear m M P;go_wp2_with fail;refine HF.o.mono ?_;rintro e W9 ⟨E9,d9,rfl,s,A⟩;have X:=G s;clear s;go_wp2_with fail;go_ret3;exact⟨E9,d9,rfl,X.o,an.o _ A,al.o _ A⟩
     have q0:(k==0)=false:=by simpa using hk0
     by_cases hkl:k<=hi
     ·have q1:decide (k<=hi)=true:=by simpa using hkl
      have HL:=G (p.o hi hk0 (.inr hkl) O);clear Q p R ak;go_wp2;go_roundw
      case rel=>exact⟨d,f,g++[x],i+1,hi,rfl,rfl,oN_,HL.o,B.o,Y.o,af⟩
      exact oI_
     have q1:decide (k<=hi)=false:=by simpa using hkl
     have bi:=G (λ(o:Obj)=>show aA (W2.alloc o) (Z ⟨b,off,N⟩) f from by have h:=(Row.ints B.o).take f.length;rw[m.o.take_eq]at h;exact Sl.alloc h o);have be:=G (λ(o:Obj)=>show By W2 (W2.alloc o)from ba _ _);go_wp2_with(at_builtin;refine wpList_append_grows _ rfl _ _ 33 rfl 3 i0 (I J 0) 1 8 underlying33 ch cn ck cj rfl V (Z ⟨b,off,N⟩) f.length f.length (f.map (Value.int .i64)) rfl (by intro h;cases h) oL_ (by intro a ha j u hu;injection ha with ha;subst ha;rw[Addr.add_lit];exact(wI (bi.o _) hu)) ⟨W2.heap.size,0,N⟩ 1 1 [I J x] rfl rfl (by intro j u hu;rw[Addr.add_lit,Nat.zero_add];cases j with|zero=>(injection hu with hu;subst hu;simp)|succ j=>(simp at hu)) (by intro u hu;simp at hu;subst hu;rfl) O (by unfold maxLen;omega) O ?_;intro v3 W3 ab a0);obtain⟨A3,c3,rfl,dj⟩:=iC ab;have aw:By W2 W3:=(be.o _).trans ((JI a0).mono oL_);have ar:=cT af aw;have am:=G (B.o.below aw);have az:=tb aq aw;have bg:=U (aA W3 A3 (f++[x])) (by have h:=Sl.of_own ab;unfold aA;rw[List.map_append];exact h)
     have ag:=G (FC.o A3 (f.length+1) c3 (f++[x]) W3 az bg.o oL_ O (λy hy=>by
      rcases List.mem_append.1 hy with hy|hy
      ·exact Y.o y (m.o.mem hy)
      ·simp at hy;subst hy;exact cm))
     clear ab a0 aw bg B bi be af aq;cases he3:ent (f++[x])with
     |none=>
      have HL:=G (p.o k hk0 (.inl (by rw[he3];simp)) O);rw[he3]at ag;clear he3 Q p R ak;go_wp2_with fail;refine ag.o.mono ?_;rintro e W4 ⟨E4,d4,rfl,a8,ah⟩;clear a8 ag;simp only[Option.getD_none,Option.isSome_none];go_wp2;go_roundw
      case rel=>exact⟨d,f,g++[x],i+1,k,rfl,rfl,oN_,HL.o,am.o.below ah,Y.o,cT ar ah⟩
      exact oI_
     |some l3=>
      have b6:=G (R.o hk0 (by rw[he3];rfl) O);rw[he3]at ag;clear he3 Q p R;go_wp2_with fail;refine ag.o.mono ?_;rintro e W4 ⟨E4,d4,rfl,a8,ah⟩;clear a8 ag;simp only[Option.getD_some,Option.isSome_some];have a1:=cT ar ah;have C:=G (am.o.below ah);clear am ar az ah;obtain rfl:=ak.o;clear ak;have bo:g.length=i-f.length:=by have:=m.o.at_;omega
      have b0:=U ((g.map (Value.int .i64)).length=Nat.min (i-f.length) (i-f.length)) (by rw[List.length_map,bo];show _=min _ _;omega)
      have a5:=U (off+f.length+1+(g.map (Value.int .i64)).length<=(pre++(f++g++x::t.drop (i+1)).map (Value.int .i64)++post).length) (by
       have:=C.o.1
       simp only[List.length_append,List.length_map,List.length_cons]
       omega)
      have b1:=U (0<(g.map (Value.int .i64)).length->cD (Z ⟨b,off,N⟩) cap (f.length+1)=Z ⟨b,off+f.length+1,N⟩/\∃ad,cD (Z ⟨b,off,N⟩) cap f.length=Z ad/\∀j v,(g.map (Value.int .i64))[j]?=Z v->W4.cell? (ad.add j)=Z v) (by
       intro h0
       rw[List.length_map]at h0
       refine⟨?_,⟨b,off+f.length,N⟩,?_,?_⟩
       ·unfold cD
        rw[if_neg O,Option.map_some,Addr.add_lit]
        rfl
       ·unfold cD
        rw[if_neg O,Option.map_some,Addr.add_lit]
       ·intro j v hv
        rw[Addr.add_lit]
        have h:=Row.ints C.o
        have h2:=wI h (j:=f.length+j) (u:=v) (by
         rw[List.map_append,List.map_append,List.append_assoc,List.getElem?_append_right oL_,List.getElem?_append_left (by
          have:=(List.getElem?_eq_some_iff.1 hv).1
          simp at this|-
          omega)]
         simpa using hv)
        rw[Nat.add_assoc]
        exact h2)
      have dh:=λ(W:Wv)=>show(Instr.sliceAt 33 (H (Z ⟨b,off,N⟩) t.length cap) (Z (I J ((f.length:Int)+1))) (Z (I J ((i:Int)+1))) N).run prog W=.ok (H (cD (Z ⟨b,off,N⟩) cap (f.length+1)) (i-f.length) (cap-(f.length+1))) W from by
       have h:=DH (Z ⟨b,off,N⟩) t.length cap (f.length+1) (i+1) O O W;rw[show((f.length+1:Nat):Int)=(f.length:Int)+1 from O,show((i+1:Nat):Int)=(i:Int)+1 from O,show i+1-(f.length+1)=i-f.length from O]at h;exact h
      have di:=λ(W:Wv)=>DH (Z ⟨b,off,N⟩) t.length cap f.length i cp O W
      have bf:=G C.o.box;have dn:IntKind.i64.wrap ((f.length:Int)+1)=(f.length:Int)+1:=by rw[IntKind.wrap_i64];omega
      have dm:IntKind.i64.wrap ((i:Int)+1)=(i:Int)+1:=by rw[IntKind.wrap_i64];omega
      clear bo;generalize cD (Z ⟨b,off,N⟩) cap (f.length+1)=DP at *;generalize cD (Z ⟨b,off,N⟩) cap f.length=SP at *;go_wp2_with fail;refine wp_region_held_drew (S:=λ_=>True) oK_ trivial (λhHeld=>?_);refine fJ (i:=0) (v:=?_) (Z 87) rfl rfl oK_ oK_ oK_ (λ_ _ _ h=>h) oR_ oA_ ?_ ?_;rotate_left
      ·intro w F;go_simp;try(with_reducible rfl)
      try simp only[Act.put,sA,sB,sC]
      refine fJ (i:=1) (v:=?_) (Z 88) rfl rfl oK_ oK_ oK_ (λ_ _ _ h=>h) oR_ oA_ ?_ ?_;rotate_left
      ·intro w F;go_simp;try(with_reducible rfl)
      try simp only[Act.put,sA,sB,sC]
      refine tV 2 89 (I J ((f.length:Int)+1)) ?_ ?_
      ·intro w F;go_simp
      try simp only[Act.put,sA,sB,sC]
      refine fJ (i:=3) (v:=?_) (Z 90) rfl rfl oK_ oK_ oK_ (λ_ _ _ h=>h) oR_ oA_ ?_ ?_;rotate_left
      ·intro w F;go_simp;try(with_reducible rfl)
      try simp only[Act.put,sA,sB,sC]
      refine tV 4 91 (I J ((i:Int)+1)) ?_ ?_
      ·intro w F;go_simp
      try simp only[Act.put,sA,sB,sC]
      refine tV 5 92 (H DP (i-f.length) (cap-(f.length+1))) ?_ ?_
      ·intro w F;go_simp
      try simp only[Act.put,sA,sB,sC]
      refine fJ (i:=6) (v:=?_) (Z 93) rfl rfl oK_ oK_ oK_ (λ_ _ _ h=>h) oR_ oA_ ?_ ?_;rotate_left
      ·intro w F;go_simp;try(with_reducible rfl)
      try simp only[Act.put,sA,sB,sC]
      refine fJ (i:=7) (v:=?_) (Z 94) rfl rfl oK_ oK_ oK_ (λ_ _ _ h=>h) oR_ oA_ ?_ ?_;rotate_left
      ·intro w F;go_simp;try(with_reducible rfl)
      try simp only[Act.put,sA,sB,sC]
      refine fJ (i:=8) (v:=?_) (Z 95) rfl rfl oK_ oK_ oK_ (λ_ _ _ h=>h) oR_ oA_ ?_ ?_;rotate_left
      ·intro w F;go_simp;try(with_reducible rfl)
      try simp only[Act.put,sA,sB,sC]
      refine tV 9 96 (H SP (i-f.length) (cap-f.length)) ?_ ?_
      ·intro w F;go_simp
      try simp only[Act.put,sA,sB,sC]
      refine IV (i:=10) (Z 97) rfl rfl oK_ oR_ (.tmp 92) (.tmp 96) 33 33 rfl 3 underlying33 PQ _ _ _ _ _ _ rfl rfl b (off+f.length+1) _ 3 bf.o (g.map (Value.int .i64)) b0.o b1.o a5.o (cJ g) ?_;intro W5 ae bm;refine⟨trivial,?_⟩;try simp only[Act.put,sA,sB,sC]
      refine wpAnyH_done oK_ ?_ _
      all_goals
       have f5:=ae.free (off+f.length)
       obtain⟨v5,c5⟩:∃v,W5.cell? ⟨b,off+f.length,N⟩=Z v:=by
        have co:off+f.length<(splice (pre++(f++g++x::t.drop (i+1)).map (Value.int .i64)++post) (off+f.length+1) (g.map (Value.int .i64))).length:=by
         rw[length_splice _ _ _ a5.o];have:=a5.o;omega
        exact⟨_,ae.cell (List.getElem?_eq_getElem co)⟩
       have b3:=U (Row (W5.setCell ⟨b,off+f.length,N⟩ (I J x)) b off 3 pre post (f++[x]++g++t.drop (i+1))) (Row.of_box C.o.1 (by
        have h:=ae.set (off+f.length) (I J x)
        rw[SY C.o.1]at h
        exact h))
       have bx:=U (w.grownBy (W5.setCell ⟨b,off+f.length,N⟩ (I J x)) (Z b)) (bK (bK (eP a1) bm) (bR _ _ _));have bh:=U (∀y∈f++[x]++g++t.drop (i+1),iok y) (λy hy=>Y.o y (by simp only[List.mem_append,List.mem_cons,List.not_mem_nil,or_false]at hy|-;rcases hy with((h|h)|h)|h<;>simp[h]));clear ae bm a1 C bf;go_wp2;go_roundw
       case rel=>exact⟨_,f++[x],g,i+1,hi,oL_,rfl,oN_,b6.o,b3.o,bh.o,bx.o⟩
       exact oI_
    have d2:decide (hi<tp)=false:=by simpa using hht
    have M:=G (m.o.fin (.inr λx=>by have:=CT.o x;omega));have P:=U (mt=(f,g++t.drop i,true)) (by rw[M1.o z ao.o hz1,M.o]);have HF:=G (FC.o (Z ⟨b,off,N⟩) f.length cap f wr K (by have h:=(Row.ints aa.o).take f.length;rw[m.o.take_eq]at h;exact h) rfl O (λy hy=>Y.o y (m.o.mem hy)));have an:=U (∀W',By wr W'->Row W' b off 3 pre post (f++(g++t.drop i))) (λW' h=>by rw[<-List.append_assoc,<-m.o.eq];exact Row.below aa.o h);have al:=U (∀W',By wr W'->w.grownBy W' (Z b)) (λW' h=>cT ax h);obtain rfl:=P.o;clear m M P;go_wp2_with fail;refine HF.o.mono ?_;rintro e W9 ⟨E9,d9,rfl,s,A⟩;have X:=G s;clear s;go_wp2_with fail;go_ret3;exact⟨E9,d9,rfl,X.o,an.o _ A,al.o _ A⟩
   have d1:decide ((i:Int)<(t.length:Int))=false:=by simpa using hil2
   have M:=G (m.o.fin (.inl O));have P:=U (mt=(f,g++t.drop i,true)) (by rw[M1.o z ao.o hz1,M.o]);have HF:=G (FC.o (Z ⟨b,off,N⟩) f.length cap f wr K (by have h:=(Row.ints aa.o).take f.length;rw[m.o.take_eq]at h;exact h) rfl O (λy hy=>Y.o y (m.o.mem hy)));have an:=U (∀W',By wr W'->Row W' b off 3 pre post (f++(g++t.drop i))) (λW' h=>by rw[<-List.append_assoc,<-m.o.eq];exact Row.below aa.o h);have al:=U (∀W',By wr W'->w.grownBy W' (Z b)) (λW' h=>cT ax h);obtain rfl:=P.o;clear m M P;go_wp2_with fail;refine HF.o.mono ?_;rintro e W9 ⟨E9,d9,rfl,s,A⟩;have X:=G s;clear s;go_wp2_with fail;go_ret3;exact⟨E9,d9,rfl,X.o,an.o _ A,al.o _ A⟩
 obtain rfl:z=0:=O;have HM:=G (M0.o av.o);have c0:wr.cell? ⟨b,off,N⟩=Z (I J t[0]):=by
  have h:=au.o.cell (i:=0) (List.getElem?_eq_getElem a2);simpa using h
 have HI:=G (IC.o t[0] wr K);have e1:(t.take 1).length=1:=by rw[List.length_take];omega
 have e2:Mtc.ofPart ent imp (t.take 1) false=imp t[0]:=by
  unfold Mtc.ofPart;rw[if_neg oL_];congr 1;cases t with
  |nil=>simp at a2
  |cons y r=>rfl
 have E1:=G e1;have E2:=G e2;clear e1 e2;obtain rfl:=HM.o;generalize t[0]=x at *;go_wp2_with fail;refine HI.o.mono ?_;rintro e W9 ⟨E9,d9,rfl,s,A⟩;have X:=G s;clear s;go_wp2_with fail;go_ret3;refine⟨E9,d9,?_,?_,?_,cT (cT (aP w _) D) A⟩
 ·simp only[E1.o,E2.o];rfl
 ·simp only[E2.o];exact X.o
 simp only[List.take_append_drop];exact au.o.below A
end
section
open Go.RowKit
def jP(R:Li->Prop)(b off:Nat)(e:TypeId)(pre post:Lv)(w:Wv)(x:Ending)(w':Wv):Prop:=
 x=.returned (.tuple #[])/\∃d',R d'/\Row w' b off e pre post d'/\w.grownBy w' (Z b)
def SwR(d:Li)(p q k:Nat)(d':Li):Prop:=
 d'.length=d.length/\∀t,d'[t]?=if p<=t/\t<p+k then d[t+(q-p)]? else if q<=t/\t<q+k then d[t-(q-p)]? else d[t]?
theorem SwR.step{d d1:Li}{p q k m:Nat}{x y:Int}(h:SwR d p q k d1)(hk:k<m)(hpq:p+m<=q)(hx:d1[p+k]?=Z x)(hy:d1[q+k]?=Z y):
  SwR d p q (k+1) (Srt.swp d1 (p+k) (q+k) x y):=by
 refine⟨(Srt.swp_len _ _ _ _ _).trans h.1,λt=>?_⟩;rw[Srt.swp_get d1 (p+k) (q+k) t x y hx hy O,h.2,h.2,h.2];(repeat' split)<;>first|rfl|omega|(congr 1;omega)
theorem fZ{d:Li}{i:Nat}(h:i<d.length):∃x,d[i]?=Z x:=⟨d[i],List.getElem?_eq_getElem h⟩
theorem uT(b off n c p q m:Nat)(e:TypeId)(g:Value)(d:Li)(pre post:Lv)(w:Wv)(hR:Row w b off e pre post d)(hn:d.length=n)
  (hpq:p+m<=q) (hq:q+m<=n) (hbig:n<=1099511627776) :
  Calls prog 210 #[H (Z ⟨b,off,N⟩) n c,I J p,I J q,I J m,g] w (jP (SwR d p q m) b off e pre post w):=by
 subst hn;go_enter func210,ntmps210;go_wp2;go_loopw [10] (λi wr=>∃(k:Nat)(f:Li),k<=m/\i=I J k/\SwR d p q k f/\Row wr b off e pre post f/\w.grownBy wr (Z b)) (λi _=>m-(intOf i).toNat)
 case atStart=>
  refine⟨0,d,Nat.zero_le _,rfl,⟨rfl,λt=>?_⟩,hR,aP _ _⟩;rw[if_neg O,if_neg O]
 obtain⟨k,f,hk,rfl,h,a,hg⟩:=hrel;by_cases hlt:k<m
 ·obtain⟨x,hx⟩:=fZ (d:=f) (i:=p+k) (by rw[h.1];omega)
  obtain⟨y,hy⟩:=fZ (d:=f) (i:=q+k) (by rw[h.1];omega);have cx:=a.cell hx;have cy:=a.cell hy;have fx:=a.frozen (off+(p+k));have fy:=a.frozen (off+(q+k));have o:¬(p+k=q+k):=O;have j:=G hx;have l:=G hy;clear hx hy;go_wp2;go_region;go_wp2;go_roundw
  case rel=>
   refine⟨k+1,Srt.swp f (p+k) (q+k) x y,O,oN_,h.step hlt hpq j.o l.o,?_,?_⟩
   ·exact(Row.set (a.set (by rw[h.1];omega) y) (by rw[List.length_set,h.1];omega) x).drew
   exact eP (lI (lI hg _ _) _ _)
  exact oI_
 go_wp2;go_end0;obtain rfl:k=m:=O;exact⟨rfl,f,h,a,hg⟩
theorem YA{d0 d1 d2:Li}{a m b i j:Nat}(him:i<=m)(hij:j<i)
  (h:∀d',Srt.Rot d1 d' (m-i) m (m+j)->Srt.Rot d0 d' a m b) (hS:SwR d1 (m-i) m j d2):∀d',Srt.Rot d2 d' (m-(i-j)) m (m+j)->Srt.Rot d0 d' a m b:=by
 intro d' hr;apply h;refine⟨hr.1.trans hS.1,λt=>?_⟩;rw[hr.2 t];simp only[hS.2];(repeat' split)<;>first|rfl|omega|(congr 1;omega)
theorem YB{d0 d1 d2:Li}{a m b i j:Nat}(him:i<=m)(hij:i<j)
  (h:∀d',Srt.Rot d1 d' (m-i) m (m+j)->Srt.Rot d0 d' a m b) (hS:SwR d1 (m-i) (m+j-i) i d2):∀d',Srt.Rot d2 d' (m-i) m (m+(j-i))->Srt.Rot d0 d' a m b:=by
 intro d' hr;apply h;refine⟨hr.1.trans hS.1,λt=>?_⟩;rw[hr.2 t];simp only[hS.2];(repeat' split)<;>first|rfl|omega|(congr 1;omega)
theorem X_{d0 d1 d2:Li}{a m b i:Nat}(him:i<=m)
  (h:∀d',Srt.Rot d1 d' (m-i) m (m+i)->Srt.Rot d0 d' a m b) (hS:SwR d1 (m-i) m i d2):Srt.Rot d0 d2 a m b:=by
 apply h;refine⟨hS.1,λt=>?_⟩;rw[hS.2];(repeat' split)<;>first|rfl|omega|(congr 1;omega)
theorem DG(b off n c x m y:Nat)(e:TypeId)(g:Value)(d:Li)(pre post:Lv)(w:Wv)(hR:Row w b off e pre post d)(hn:d.length=n)
  (hxm:x<m) (hmy:m<y) (hy:y<=n) (hbig:n<=1099511627776) :
  Calls prog 204 #[H (Z ⟨b,off,N⟩) n c,I J x,I J m,I J y,g] w (jP (λd'=>Srt.Rot d d' x m y) b off e pre post w):=by
 subst hn;go_enter func204,ntmps204;go_wp2
 go_loopw [10,11] (λu v wr=>∃(i j:Nat)(l:Li),0<i/\0<j/\i<=m/\m+j<=d.length/\u=I J i/\v=I J j/\l.length=d.length/\(∀d',Srt.Rot l d' (m-i) m (m+j)->Srt.Rot d d' x m y)/\
   Row wr b off e pre post l/\w.grownBy wr (Z b)) (λu v _=>(intOf u).toNat+(intOf v).toNat)
 case atStart=>
  refine⟨m-x,y-m,d,O,O,O,O,oN_,oN_,rfl,λd' h=>?_,hR,aP _ _⟩;rw[show m-(m-x)=x by omega,show m+(y-m)=y by omega]at h;exact h
 obtain⟨i,j,l,hi,hj,q,D,rfl,rfl,hl,k,o,hg⟩:=hrel;have z:=G k;have r:=G hl;clear k hl;by_cases h1:j<i
 ·have A:((i:Int)!=(j:Int))=true:=oU_
  have C:=G (uT b off d.length c (m-i) m j e g l pre post wr o r.o O O hbig);have hz:((m:Int)-(i:Int))=((m-i:Nat):Int):=O;rw[<-hz]at C;clear hz;go_wp2_with fail;refine C.o.mono ?_;rintro e B ⟨rfl,s,p,a,f⟩;go_wp2;go_roundw
  case rel=>exact⟨i-j,j,s,O,O,O,O,oN_,rfl,p.1.trans r.o,YA q h1 z.o p,a,bK hg f⟩
  exact oI_
 by_cases h2:i<j
 ·have A:((i:Int)!=(j:Int))=true:=oU_
  have C:=G (uT b off d.length c (m-i) (m+j-i) i e g l pre post wr o r.o O O hbig);have hz:((m:Int)-(i:Int))=((m-i:Nat):Int):=O;have t:((m:Int)+(j:Int)-(i:Int))=((m+j-i:Nat):Int):=O;rw[<-hz,<-t]at C;clear hz t;go_wp2_with fail;refine C.o.mono ?_;rintro e B ⟨rfl,s,p,a,f⟩;go_wp2;go_roundw
  case rel=>exact⟨i,j-i,s,O,O,O,O,rfl,oN_,p.1.trans r.o,YB q h2 z.o p,a,bK hg f⟩
  exact oI_
 obtain rfl:i=j:=O;have A:((i:Int)!=(i:Int))=false:=L;have C:=G (uT b off d.length c (m-i) m i e g l pre post wr o r.o O O hbig);have hz:((m:Int)-(i:Int))=((m-i:Nat):Int):=O;rw[<-hz]at C;clear hz;go_wp2_with fail;refine C.o.mono ?_;rintro e B ⟨rfl,s,p,a,f⟩;go_wp2;go_end0;exact⟨rfl,s,X_ q z.o p,a,bK hg f⟩
def vE(p:Prop)(w:Wv)(x:Ending)(w':Wv):Prop:=∃c:Int,x=.returned (I J c)/\(c<0 ↔ p)/\By w w'
def iJ(b B:Nat)(w0:Wv)(key:Int->Int):Prop:=
 ∀W,w0.grownBy W (Z b)->∀x y:Int,Calls prog 123 #[I J x,I J y,.pointer (Z ⟨B,0,N⟩)] W (vE (key x<key y) W)
theorem iJ.later{b B:Nat}{w0 w1:Wv}{key:Int->Int}(h:iJ b B w0 key)(hg:w0.grownBy w1 (Z b)):iJ b B w1 key:=λW hW=>h W (bK hg hW)
theorem yY(b B off n c p q:Nat)(e:TypeId)(key:Int->Int)(d:Li)(pre post:Lv)(w:Wv)(hR:Row w b off e pre post d)(hn:d.length=n)
  (hpq:p<=q) (hq:q<=n) (hbig:n<=1099511627776) (hC:iJ b B w key) :
  Calls prog 191 #[H (Z ⟨b,off,N⟩) n c,I J p,I J q,.func (.func 123) #[] #[.pointer (Z ⟨B,0,N⟩)]] w
   (jP (λd'=>Srt.Done key d d' p q) b off e pre post w):=by
 subst hn;have HC:=G hC;clear hC;go_enter func191,ntmps191;go_wp2;go_loopw [8] (λi wr=>∃(k:Nat)(A:Li),p+1<=k/\(k<=q\/k=p+1)/\i=I J k/\Srt.Same d A p q/\Srt.St key d A/\Srt.SortedOn key A p k/\Row wr b off e pre post A/\w.grownBy wr (Z b)) (λi _=>q-(intOf i).toNat)
 case atStart=>exact⟨p+1,d,Nat.le_refl _,.inr rfl,oN_,Srt.Same.refl _ _ _,Srt.St.refl _,Srt.SortedOn.short (Nat.le_refl _),hR,aP _ _⟩
 obtain⟨k,A,ah,ai,rfl,f,r,R,K,hg⟩:=hrel;have T:=G f;have X:=G r;have V:=G R;clear f r R;by_cases hlt:k<q
 ·obtain⟨wo,rfl⟩:∃wo:Wv,wo=wr:=⟨_,rfl⟩
  go_wp2;go_loopw [9] (λi wr=>∃(j:Nat)(m:Li),p<=j/\j<=k/\i=I J j/\Srt.Same d m p q/\Srt.St key d m/\Srt.Ins key m p k j/\Row wr b off e pre post m/\w.grownBy wr (Z b)) (λi _=>(intOf i).toNat)
  case atStart=>exact⟨k,A,O,Nat.le_refl _,rfl,T.o,X.o,Srt.Ins.start V.o,K,hg⟩
  obtain⟨j,m,M,P,rfl,f,r,v,o,t⟩:=hrel;have g:=G f;have z:=G r;have S:=G v;clear f r v;by_cases hpj:p<j
  ·have ag:j<d.length:=O
   obtain⟨x,hx⟩:=fZ (d:=m) (i:=j-1) (by rw[g.o.1];omega);obtain⟨y,hy⟩:=fZ (d:=m) (i:=j) (by rw[g.o.1];omega);have cx:=o.cell hx;have cy:=o.cell hy;have E:=G hx;have F:=G hy;have C:=G (λW hW=>HC.o W hW y x);clear hx hy;have i0:decide (p<j)=true:=oU_;have i1:IntKind.i64.wrap ((j:Int)-1)=(j:Int)-1:=IntWalk.i64_in _ O;have i2:(0:Int)<=(j:Int)-1:=O;have al:(1:Int)<=(j:Int):=O;have Y:1<=j:=O;have i3:((j:Int)-1).toNat=j-1:=O;have i4:(j:Int)-1<(d.length:Int):=O;go_wp2;refine wp_region_still_tail 14 oK_ oK_ ?_;simp only[List.take_succ_cons,List.take_zero,List.drop_succ_cons,List.drop_zero];change wpStill _ _ wr.drew _ _ _;repeat still_step
   refine wpStill_nil ?_;change wpList _ _ _ _ _ wr.drew;go_wp2_with fail;refine(C.o _ (eP t)).mono ?_;rintro e w3 ⟨cc,rfl,s,D⟩;have l:=(o.drew).below D;have L:=cT (eP t) D;have ab:=l.cell E.o;have ad:=l.cell F.o;have ae:=l.frozen (off+(j-1));have af:=l.frozen (off+j);clear o t D cx cy;by_cases hkey:key y<key x
   ·have Q:cc<0:=s.2 hkey
    clear s;have aj:¬(j-1=j):=O;go_wp2;go_region;go_wp2;go_roundw
    case rel=>
     refine⟨j-1,Srt.swp m (j-1) j x y,O,O,oN_,g.o.trans (Srt.swp_same E.o F.o O O O O O),z.o.trans ?_,?_,?_,?_⟩
     ·have:=Srt.swp_done (key:=key) (d:=m) (j:=j-1) E.o (by rw[show j-1+1=j by omega];exact F.o) hkey
      rw[show j-1+1=j by omega]at this;exact this
     ·have:=Srt.Ins.step (key:=key) (d:=m) (a:=p) (i:=k) (j:=j-1) (x:=x) (y:=y) (by rw[show j-1+1=j by omega];exact S.o) O O E.o (by rw[show j-1+1=j by omega];exact F.o) hkey
      rw[show j-1+1=j by omega]at this;exact this
     ·rw[Srt.swp,List.set_comm _ _ O]
      exact(Row.set (l.set (i:=j) (by rw[g.o.1];omega) x) (i:=j-1) (by rw[List.length_set,g.o.1];omega) y).drew
     exact eP (lI (lI L _ _) _ _)
    exact oI_
   have Q:¬cc<0:=λh=>hkey (s.1 h)
   clear s;go_wp2;go_roundw
   case rel=>
    refine⟨k+1,m,O,.inl O,oN_,g.o,z.o,S.o.stop M P (.inr ?_),l,L⟩;rw[Srt.kf_some E.o,Srt.kf_some F.o];omega
   exact oI_
  have i0:decide (p<j)=false:=oU_;go_wp2;go_quiet(fail);go_wp2;go_roundw
  case rel=>exact⟨k+1,m,O,.inl O,oN_,g.o,z.o,S.o.stop M P (.inl O),o.drewN _,O_ t _⟩
  exact oI_
 go_wp2;go_end0;refine⟨rfl,A,⟨T.o,X.o,?_⟩,K,hg⟩;by_cases hkq:q<=k
 ·exact V.o.sub (Nat.le_refl _) hkq
 omega
theorem zAa(b B off n c p y:Nat)(e:TypeId)(key:Int->Int)(d:Li)(pre post:Lv)(w:Wv)(hR:Row w b off e pre post d)(hn:d.length=n)
  (hpy:p+1<y) (hy:y<=n) (hbig:n<=1099511627776) (hC:iJ b B w key) (hs:Srt.SortedOn key d (p+1) y) :
  Calls prog 192 #[H (Z ⟨b,off,N⟩) n c,I J p,I J ((p:Int)+1),I J y,.func (.func 123) #[] #[.pointer (Z ⟨B,0,N⟩)]] w
   (jP (λd'=>Srt.Done key d d' p y) b off e pre post w):=by
 subst hn;have HC:=G hC;have R:=G hs;clear hC hs;obtain⟨x,hx⟩:=fZ (d:=d) (i:=p) O;have S:=G hx;clear hx;have e1:((p:Int)+1-(p:Int)==1)=true:=oU_;go_enter func192,ntmps192;go_wp2
 go_loopw [10,11] (λu v wr=>∃i j:Nat,p+1<=i/\i<=j/\j<=y/\u=I J i/\v=I J j/\(∀t,p+1<=t->t<i->Srt.kf key d t<Srt.kf key d p)/\(∀t,j<=t->t<y->Srt.kf key d p<=Srt.kf key d t)/\
   Row wr b off e pre post d/\w.grownBy wr (Z b)) (λu v _=>(intOf v).toNat-(intOf u).toNat)
 case atStart=>exact⟨p+1,y,Nat.le_refl _,O,Nat.le_refl _,oN_,rfl,λt h1 h2=>O,λt h1 h2=>O,hR,aP _ _⟩
 obtain⟨i,j,hi,ai,hj,rfl,rfl,P,M,m,hg⟩:=hrel;have E:=G P;have D:=G M;clear P M;by_cases hlt:i<j
 ·obtain⟨h,hh,h1,h2,h3⟩:∃h:Nat,((i:Int)+(j:Int))/2=(h:Int)/\i<=h/\h<j/\h<d.length:=⟨(i+j)/2,O,O,O,O⟩
  obtain⟨z,hz⟩:=fZ (d:=d) (i:=h) h3;have cx:=m.cell S.o;have cz:=m.cell hz;have HZ:=G hz;have C:=G (λW hW=>HC.o W hW z x);clear hz;have ak:p<d.length:=O;go_wp2_with fail;clear hh;refine wp_region_still_tail 9 oK_ oK_ ?_;simp only[List.take_succ_cons,List.take_zero,List.drop_succ_cons,List.drop_zero];change wpStill _ _ wr.drew _ _ _;repeat still_step
  refine wpStill_nil ?_;change wpList _ _ _ _ _ wr.drew;go_wp2_with fail;refine(C.o _ (eP hg)).mono ?_;rintro e w3 ⟨cc,rfl,o,r⟩;have F:=(m.drew).below r;have L:=cT (eP hg) r;clear m hg r cx cz;by_cases hkey:key z<key x
  ·have Q:cc<0:=o.2 hkey
   clear o;go_wp2;go_roundw
   case rel=>
    refine⟨h+1,j,O,O,hj,oN_,rfl,λt g1 g2=>?_,D.o,F,L⟩;have Y:=R.o.le (i:=t) (j:=h) g1 O O;rw[Srt.kf_some HZ.o]at Y;rw[Srt.kf_some S.o];omega
   exact oI_
  have Q:¬cc<0:=λg=>hkey (o.1 g)
  clear o;go_wp2;go_roundw
  case rel=>
   refine⟨i,h,hi,O,O,rfl,rfl,E.o,λt g1 g2=>?_,F,L⟩;have Y:=R.o.le (i:=h) (j:=t) O g1 g2;rw[Srt.kf_some HZ.o]at Y;rw[Srt.kf_some S.o];omega
  exact oI_
 obtain rfl:i=j:=O;obtain⟨wo,rfl⟩:∃wo:Wv,wo=wr:=⟨_,rfl⟩;go_wp2;go_loopw [13] (λu wr=>∃(k:Nat)(q:Li),p<=k/\k+1<=i/\u=I J k/\Srt.Rot d q p (p+1) (k+1)/\Row wr b off e pre post q/\w.grownBy wr (Z b)) (λu _=>i-(intOf u).toNat)
 case atStart=>exact⟨p,d,Nat.le_refl _,hi,rfl,Srt.rot_triv O O (.inr rfl),m,hg⟩
 obtain⟨k,q,X,aj,rfl,a,f,K⟩:=hrel;by_cases hki:k+1<i
 ·obtain⟨x1,s⟩:=fZ (d:=q) (i:=k) (by rw[a.1];omega)
  obtain⟨y1,A⟩:=fZ (d:=q) (i:=k+1) (by rw[a.1];omega);have cx:=f.cell s;have cy:=f.cell A;have fx:=f.frozen (off+k);have fy:=f.frozen (off+(k+1));have T:=G s;have V:=G A;have l:=G a;clear s A a;go_wp2;go_region;go_wp2;go_roundw
  case rel=>
   refine⟨k+1,Srt.swp q k (k+1) x1 y1,O,O,oN_,Srt.rot_snoc l.o X T.o V.o,?_,?_⟩
   ·exact(Row.set (f.set (i:=k) (by rw[l.o.1];omega) y1) (i:=k+1) (by rw[List.length_set,l.o.1];omega) x1).drew
   exact eP (lI (lI K _ _) _ _)
  exact oI_
 obtain rfl:i=k+1:=O;have l:=G a;clear a;go_wp2;go_end0;exact⟨rfl,q,Srt.Done.left l.o hi hj hy R.o E.o D.o,f,K⟩
theorem zAb(b B off n c p m:Nat)(e:TypeId)(key:Int->Int)(d:Li)(pre post:Lv)(w:Wv)(hR:Row w b off e pre post d)(hn:d.length=n)
  (hpm:p+1<m) (hm:m+1<=n) (hbig:n<=1099511627776) (hC:iJ b B w key) (hs:Srt.SortedOn key d p m) :
  Calls prog 192 #[H (Z ⟨b,off,N⟩) n c,I J p,I J m,I J ((m:Int)+1),.func (.func 123) #[] #[.pointer (Z ⟨B,0,N⟩)]] w
   (jP (λd'=>Srt.Done key d d' p (m+1)) b off e pre post w):=by
 subst hn;have HC:=G hC;have S:=G hs;clear hC hs;obtain⟨x,hx⟩:=fZ (d:=d) (i:=m) O;have T:=G hx;clear hx;have e1:((m:Int)-(p:Int)==1)=false:=oU_;have e2:((m:Int)+1-(m:Int)==1)=true:=oU_;go_enter func192,ntmps192;go_wp2
 go_loopw [14,15] (λu v wr=>∃i j:Nat,p<=i/\i<=j/\j<=m/\u=I J i/\v=I J j/\(∀t,p<=t->t<i->Srt.kf key d t<=Srt.kf key d m)/\(∀t,j<=t->t<m->Srt.kf key d m<Srt.kf key d t)/\
   Row wr b off e pre post d/\w.grownBy wr (Z b)) (λu v _=>(intOf v).toNat-(intOf u).toNat)
 case atStart=>exact⟨p,m,Nat.le_refl _,O,Nat.le_refl _,rfl,rfl,λt h1 h2=>O,λt h1 h2=>O,hR,aP _ _⟩
 obtain⟨i,j,hi,aj,hj,rfl,rfl,Q,P,o,hg⟩:=hrel;have F:=G Q;have E:=G P;clear Q P;by_cases hlt:i<j
 ·obtain⟨h,hh,h1,h2,h3⟩:∃h:Nat,((i:Int)+(j:Int))/2=(h:Int)/\i<=h/\h<j/\h<d.length:=⟨(i+j)/2,O,O,O,O⟩
  obtain⟨z,hz⟩:=fZ (d:=d) (i:=h) h3;have cx:=o.cell T.o;have cz:=o.cell hz;have HZ:=G hz;have C:=G (λW hW=>HC.o W hW x z);clear hz;have an:m<d.length:=O;go_wp2_with fail;clear hh;refine wp_region_still_tail 9 oK_ oK_ ?_;simp only[List.take_succ_cons,List.take_zero,List.drop_succ_cons,List.drop_zero];change wpStill _ _ wr.drew _ _ _;repeat still_step
  refine wpStill_nil ?_;change wpList _ _ _ _ _ wr.drew;go_wp2_with fail;refine(C.o _ (eP hg)).mono ?_;rintro e w3 ⟨cc,rfl,r,s⟩;have K:=(o.drew).below s;have M:=cT (eP hg) s;clear o hg s cx cz;by_cases hkey:key x<key z
  ·have R:decide (cc<0)=true:=by simpa using r.2 hkey
   clear r;go_wp2;go_roundw
   case rel=>
    refine⟨i,h,hi,O,O,rfl,rfl,F.o,λt g1 g2=>?_,K,M⟩;have Y:=S.o.le (i:=h) (j:=t) O g1 g2;rw[Srt.kf_some HZ.o]at Y;rw[Srt.kf_some T.o];omega
   exact oI_
  have R:decide (cc<0)=false:=by simpa using λg=>hkey (r.1 g)
  clear r;go_wp2;go_roundw
  case rel=>
   refine⟨h+1,j,O,O,hj,oN_,rfl,λt g1 g2=>?_,E.o,K,M⟩;have Y:=S.o.le (i:=t) (j:=h) g1 O O;rw[Srt.kf_some HZ.o]at Y;rw[Srt.kf_some T.o];omega
  exact oI_
 obtain rfl:i=j:=O;obtain⟨wo,rfl⟩:∃wo:Wv,wo=wr:=⟨_,rfl⟩;go_wp2;go_loopw [17] (λu wr=>∃(k:Nat)(q:Li),i<=k/\k<=m/\u=I J k/\Srt.Rot d q k m (m+1)/\Row wr b off e pre post q/\w.grownBy wr (Z b)) (λu _=>(intOf u).toNat)
 case atStart=>exact⟨m,d,hj,Nat.le_refl _,rfl,Srt.rot_triv O O (.inl rfl),o,hg⟩
 obtain⟨k,q,ak,al,rfl,a,f,L⟩:=hrel;by_cases hki:i<k
 ·obtain⟨x1,A⟩:=fZ (d:=q) (i:=k-1) (by rw[a.1];omega)
  obtain⟨y1,D⟩:=fZ (d:=q) (i:=k) (by rw[a.1];omega);have cx:=f.cell A;have cy:=f.cell D;have fx:=f.frozen (off+(k-1));have fy:=f.frozen (off+k);have V:=G A;have X:=G D;have l:=G a;clear A D a;have i1:IntKind.i64.wrap ((k:Int)-1)=(k:Int)-1:=IntWalk.i64_in _ O;have i2:(0:Int)<=(k:Int)-1:=O;have ao:(1:Int)<=(k:Int):=O;have ag:1<=k:=O;have i3:((k:Int)-1).toNat=k-1:=O;have i4:(k:Int)-1<(d.length:Int):=O;have am:¬(k-1=k):=O;go_wp2;go_region;go_wp2;go_roundw
  case rel=>
   refine⟨k-1,Srt.swp q (k-1) k x1 y1,O,O,oN_,?_,?_,?_⟩
   ·have:=Srt.rot_cons (d:=d) (d1:=q) (k:=k-1) (m:=m) (x:=x1) (y:=y1) (by rw[show k-1+1=k by omega];exact l.o) O V.o (by rw[show k-1+1=k by omega];exact X.o)
    rw[show k-1+1=k by omega]at this;exact this
   ·rw[Srt.swp,List.set_comm _ _ O]
    exact(Row.set (f.set (i:=k) (by rw[l.o.1];omega) x1) (i:=k-1) (by rw[List.length_set,l.o.1];omega) y1).drew
   exact eP (lI (lI L _ _) _ _)
  exact oI_
 obtain rfl:i=k:=O;have l:=G a;clear a;go_wp2;go_end0;exact⟨rfl,q,Srt.Done.right l.o hj hi hm S.o F.o E.o,f,L⟩
theorem zAc(b B off n c p m y:Nat)(e:TypeId)(key:Int->Int)(d:Li)(pre post:Lv)(w:Wv)
  (ih:∀(p' m' y':Nat)(d':Li)(w':Wv),Row w' b off e pre post d'->d'.length=n->p' < m'->m' < y'->y'<=n->n<=1099511627776->iJ b B w' key->Srt.SortedOn key d' p' m'->Srt.SortedOn key d' m' y'->y' - p' < y-p->
   Calls prog 192 #[H (Z ⟨b,off,N⟩) n c,I J p',I J m',I J y',(.func (.func 123) #[] #[.pointer (Z ⟨B,0,N⟩)])] w' (jP (λd''=>Srt.Done key d' d'' p' y') b off e pre post w'))
  (hR:Row w b off e pre post d) (hn:d.length=n) (hpm:p<m) (hmy:m<y) (hy:y<=n) (hbig:n<=1099511627776) (hC:iJ b B w key) (hs1:Srt.SortedOn key d p m) (hs2:Srt.SortedOn key d m y)
  (hp1:¬m=p+1) (hy1:¬y=m+1) :
  Calls prog 192 #[H (Z ⟨b,off,N⟩) n c,I J p,I J m,I J y,(.func (.func 123) #[] #[.pointer (Z ⟨B,0,N⟩)])] w (jP (λd'=>Srt.Done key d d' p y) b off e pre post w):=by
 subst hn;have HC:=G hC;have Y:=G hs1;have aa:=G hs2;have IH:=G ih;clear hC hs1 hs2 ih;have e1:((m:Int)-(p:Int)==1)=false:=oU_;have e2:((y:Int)-(m:Int)==1)=false:=oU_;obtain⟨M,hM,l,cg,ch⟩:∃M:Nat,((p:Int)+(y:Int))/2=(M:Int)/\(p+y)/2=M/\p<M/\M<y:=⟨(p+y)/2,O,rfl,O,O⟩;have ci:2*M<=p+y:=O;have cj:p+y<=2*M+1:=O
 obtain⟨Q,P,ar⟩:∃Q P:Nat,(M<m/\Q=M+m-y/\P=M)\/(m<=M/\Q=p/\P=m):=by
  by_cases hmm:M<m
  ·exact⟨_,_,.inl ⟨hmm,rfl,rfl⟩⟩
  exact⟨_,_,.inr ⟨O,rfl,rfl⟩⟩
 have X:=G ar;have ak:=G l;clear l;by_cases hmm:M<m
 all_goals
  have L:M<m/\Q+y=M+m/\P<=M/\M<=P\/m<=M/\Q<=p/\p<=Q/\m<=P:=O;have ah:P<=m:=O;go_enter func192,ntmps192;first
  | (have hz:(M:Int)+(m:Int)-(y:Int)=(Q:Int):=O
     have ck:decide (M<m)=true:=by simpa using hmm
     have ap:=G L
     clear ar L
     go_wp2_with fail
     clear hM hz)
  | (have ap:=G L
     clear ar L
     go_wp2_with fail
     clear hM)
  have l:=ak.o;have L:=ap.o;clear ak
  go_loopw [20,21] (λu v wr=>∃st r:Nat,Q<=st/\st<=r/\r<=P/\u=I J st/\v=I J r/\(∀c,Q<=c->c<st->Srt.kf key d c<=Srt.kf key d (M+m-1-c))/\(∀c,r<=c->c<P->Srt.kf key d (M+m-1-c)<Srt.kf key d c)/\
    Row wr b off e pre post d/\w.grownBy wr (Z b)) (λu v _=>(intOf v).toNat-(intOf u).toNat)
  case atStart=>exact⟨Q,P,Nat.le_refl _,by have:=X.o;omega,Nat.le_refl _,congrArg (Value.int .i64) (by have:=X.o;omega),congrArg (Value.int .i64) (by have:=X.o;omega),λt h1 h2=>O,λt h1 h2=>O,hR,aP _ _⟩
  obtain⟨st,r,hs1,cl,hs2,rfl,rfl,an,a7,o,q⟩:=hrel;have R:=G an;have ao:=G a7;clear an a7;by_cases hlt:st<r
  ·obtain⟨h,hh,h1,h2,h3⟩:∃h:Nat,((st:Int)+(r:Int))/2=(h:Int)/\st<=h/\h<r/\h<d.length:=⟨(st+r)/2,O,O,O,O⟩
   obtain⟨g,a1,bd⟩:∃g:Nat,g=M+m-1-h/\g<d.length:=⟨M+m-1-h,rfl,O⟩;obtain⟨x,hx⟩:=fZ (d:=d) (i:=h) h3;obtain⟨z,hz⟩:=fZ (d:=d) (i:=g) bd;have cx:=o.cell hx;have cz:=o.cell hz;have HX:=G hx;have HZ:=G hz;have C:=G (λW hW=>HC.o W hW z x);have i0:(M:Int)+(m:Int)-1-(h:Int)=(g:Int):=O;have i1:IntKind.i64.wrap ((M:Int)+(m:Int)-1-(h:Int))=(g:Int):=by rw[i0];exact IntWalk.i64_in _ O
   have be:IntKind.i64.wrap (g:Int)=(g:Int):=IntWalk.i64_in _ O;have HG:=G a1;have b8:=G l;clear hx hz a1 l;go_wp2_with fail;clear hh;refine wp_region_still_tail 11 oK_ oK_ ?_;simp only[List.take_succ_cons,List.take_zero,List.drop_succ_cons,List.drop_zero];change wpStill _ _ wr.drew _ _ _;repeat still_step
   refine wpStill_nil ?_;change wpList _ _ _ _ _ wr.drew;clear i0 i1 be;go_wp2_with fail;refine(C.o _ (eP q)).mono ?_;rintro e w3 ⟨cc,rfl,af,aq⟩;have ae:=(o.drew).below aq;have ag:=cT (eP q) aq;clear o q aq cx cz;by_cases hkey:key z<key x
   ·have a6:decide (cc<0)=true:=by simpa using af.2 hkey
    clear af;go_wp2;go_roundw
    case rel=>
     refine⟨st,h,O,O,O,rfl,rfl,R.o,λt g1 g2=>?_,ae,ag⟩;have av:=HG.o;have kz:Srt.kf key d (M+m-1-h)=key z:=by rw[<-av];exact Srt.kf_some HZ.o
     have kx:=Srt.kf_some (key:=key) HX.o;by_cases et:t<r
     ·have k1:=Y.o.le (i:=h) (j:=t) O g1 O
      have k2:=aa.o.le (i:=M+m-1-t) (j:=M+m-1-h) O O O;omega
     exact ao.o t O g2
    exact oI_
   have a6:decide (cc<0)=false:=by simpa using λg=>hkey (af.1 g)
   clear af;go_wp2;go_roundw
   case rel=>
    refine⟨h+1,r,O,O,O,oN_,rfl,λt g1 g2=>?_,ao.o,ae,ag⟩;have av:=HG.o;have kz:Srt.kf key d (M+m-1-h)=key z:=by rw[<-av];exact Srt.kf_some HZ.o
    have kx:=Srt.kf_some (key:=key) HX.o;by_cases et:st<=t
    ·have k1:=Y.o.le (i:=t) (j:=h) O O O
     have k2:=aa.o.le (i:=M+m-1-h) (j:=M+m-1-t) O O O;omega
    exact R.o t g1 O
   exact oI_
  obtain rfl:st=r:=O;have f:=Srt.found_of (key:=key) (d:=d) (a:=p) (m:=m) (b:=y) (st:=st) (s0:=Q) (r0:=P) hpm Y.o aa.o (by rw[l];exact X.o) hs1 hs2 (by rw[l];exact R.o) (by rw[l];exact ao.o);obtain⟨E,hE,s⟩:∃E:Nat,((M:Int)+(m:Int))-(st:Int)=(E:Int)/\M+m-st=E:=⟨M+m-st,O,rfl⟩;have k:=l;clear L ap;rcases(show(st<m/\m<E)\/¬(st<m)\/¬(m<E) by omega)with hrr|hrr|hrr
  all_goals first
   | (obtain⟨aw,ax⟩:=hrr
      have cf:E<=y:=by rw[<-s,<-l];exact f.en2
      have C:=G (DG b off d.length c st m E e (.func (.func 123) #[] #[.pointer (Z ⟨B,0,N⟩)]) d pre post wr o rfl aw ax O hbig)
      have F0:=G f;have aj:=G k;have ai:=G s
      clear f k s l
      go_wp2_with fail
      all_goals
       refine C.o.mono ?_
       rintro e W1 ⟨rfl,d1,T,D,al⟩
       have K:=bK q al
       have f:=F0.o;have k:=aj.o;have s:=ai.o
       have A:Srt.Rot d d1 st m ((p+y)/2+m-st):=by rw[k,s];exact T
       clear T al o q C F0 aj ai)
   | (have A:Srt.Rot d d st m ((p+y)/2+m-st):=Srt.rot_triv f.hi f.en (by have:=f.hi;have:=f.en;rw[k,s]at *;omega)
      clear l
      obtain⟨d1,au⟩:∃d1,d1=d:=⟨_,rfl⟩
      obtain⟨W1,rfl⟩:∃W1:Wv,W1=wr:=⟨_,rfl⟩
      have D:=o
      have K:=q
      rw[<-au]at D
      have V:Srt.Rot d d1 st m ((p+y)/2+m-st):=by rw[au];exact A
      clear A o q au
      have A:=V
      clear V)
  all_goals
   obtain⟨q1,q2,q3,q4,q5,q6,q7⟩:=f.halves hy Y.o aa.o A;rw[k]at q4 q7;rw[k,s]at q5 q6;have Q1:=G q1;have Q2:=G q2;have Q3:=G q3;have Q4:=G q4;have Q5:=G q5;have Q6:=G q6;have Q7:=G q7;have F:=G f;have b7:=G k;have b6:=G s;have a4:d1.length=d.length:=q1.1;have ay:=G a4;have f1:=f.lo;have f2:=f.hi;have f3:m<=E:=by rw[<-s,<-k];exact f.en
   have f4:E<=y:=by rw[<-s,<-k];exact f.en2
   have f5:st<=M:=by rw[<-k];exact f.mid
   clear q1 q2 q3 q4 q5 q6 q7 f k s A a4;rcases(show(p<st/\st<M)\/¬(p<st)\/¬(st<M) by omega)with hll|hll|hll
   all_goals first
    | (obtain⟨a2,a3⟩:=hll
       have C:=G (IH.o p st M d1 W1 D ay.o a2 a3 O hbig (HC.o.later K) Q3.o Q4.o O)
       go_wp2_with fail
       all_goals
        refine C.o.mono ?_
        rintro e W2 ⟨rfl,S,a0,o,am⟩
        have q:=bK K am
        have hl:=Srt.left_done Q3.o Q4.o (λ_=>a0) (λh=>absurd ⟨a2,a3⟩ h) f1 f5
        clear a0 am D K)
    | (have hl:=Srt.left_done (d2:=d1) Q3.o Q4.o (λh=>absurd h O) (λ_=>rfl) f1 f5
       obtain⟨S,rfl⟩:∃S,S=d1:=⟨_,rfl⟩
       obtain⟨W2,rfl⟩:∃W2:Wv,W2=W1:=⟨_,rfl⟩
       have o:=D
       have q:=K
       clear D K)
   all_goals
    have s1:Srt.SortedOn key S M E:=Q5.o.same hl.1 (.inr (Nat.le_refl _));have s2:Srt.SortedOn key S E y:=Q6.o.same hl.1 (.inr O);have a5:S.length=d.length:=by rw[hl.1.1,ay.o]
    have HL:=G hl;have S1:=G s1;have S2:=G s2;have HN:=G a5;clear hl s1 s2 a5;by_cases hrr:M<E/\E<y
    ·obtain⟨aw,ax⟩:=hrr
     have C:=G (IH.o M E y S W2 o HN.o aw ax hy hbig (HC.o.later q) S1.o S2.o O);go_wp2_with fail
     all_goals
      refine C.o.mono ?_;rintro e W3 ⟨rfl,d3,ad,ae,ag⟩;go_wp2;go_end0;exact⟨rfl,d3,Srt.both_done O O hy Q1.o Q2.o Q7.o HL.o ad,ae,bK q ag⟩
    have ad:Srt.Done key S S M y:=by
     refine Srt.Done.refl_of ?_;by_cases e9:M<E
     ·obtain rfl:E=y:=O
      exact S1.o
     obtain rfl:M=E:=O;exact S2.o
    have ba:=G ad;have ah:¬(M<E)\/¬(E<y):=O;clear ad hrr;rcases ah with ah|ah
    all_goals
     go_wp2_with fail
     all_goals
      go_end0;exact⟨rfl,S,Srt.both_done O O hy Q1.o Q2.o Q7.o HL.o ba.o,o,q⟩
theorem ET(b B off n c:Nat)(e:TypeId)(key:Int->Int)(pre post:Lv)(f:Nat):∀(p m y:Nat)(d:Li)(w:Wv),y-p<=f->Row w b off e pre post d->d.length=n->p<m->m<y->y<=n->n<=1099511627776->iJ b B w key->
  Srt.SortedOn key d p m->Srt.SortedOn key d m y->
  Calls prog 192 #[H (Z ⟨b,off,N⟩) n c,I J p,I J m,I J y,(.func (.func 123) #[] #[.pointer (Z ⟨B,0,N⟩)])] w (jP (λd'=>Srt.Done key d d' p y) b off e pre post w):=by
 induction f with
 |zero=>intro p m y d w hf _ _ j k;omega
 |succ f ih=>
  intro p m y d w hf o hn q g hy a l h i;by_cases j:m=p+1
  ·subst j
   have:=zAa b B off n c p y e key d pre post w o hn g hy a l i;rw[show((p+1:Nat):Int)=(p:Int)+1 by omega];exact this
  by_cases k:y=m+1
  ·subst k
   have:=zAb b B off n c p m e key d pre post w o hn O hy a l h;rw[show((m+1:Nat):Int)=(m:Int)+1 by omega];exact this
  exact zAc b B off n c p m y e key d pre post w (λp' m' y' d' w' g1 g2 g3 g4 g5 g6 g7 g8 g9 g10=>ih p' m' y' d' w' O g1 g2 g3 g4 g5 g6 g7 g8 g9) o hn q g hy a l h i j k
theorem ZV(b B off n c:Nat)(e:TypeId)(key:Int->Int)(d:Li)(pre post:Lv)(w:Wv)(hR:Row w b off e pre post d)(hn:d.length=n)(hbig:n<=1099511627776)(hC:iJ b B w key):
  Calls prog 167 #[H (Z ⟨b,off,N⟩) n c,I J n,.func (.func 123) #[] #[.pointer (Z ⟨B,0,N⟩)]] w
   (jP (λd'=>Srt.Done key d d' 0 n) b off e pre post w):=by
 subst hn;have HC:=G hC;clear hC;go_enter func167,ntmps167;go_wp2
 go_loopw [7,8] (λu v wr=>∃(q a:Nat)(E:Li),a=q*20/\a<=d.length/\u=I J a/\v=I J ((a:Int)+20)/\Srt.Same d E 0 d.length/\Srt.St key d E/\Srt.Pf key E 20 q/\Row wr b off e pre post E/\w.grownBy wr (Z b))
  (λu _ _=>d.length-(intOf u).toNat)
 case atStart=>exact⟨0,0,d,rfl,Nat.zero_le _,rfl,rfl,Srt.Same.refl _ _ _,Srt.St.refl _,Srt.Pf.zero,hR,aP _ _⟩
 obtain⟨q,a,E,l,k,rfl,rfl,f,h,p,K,hg⟩:=hrel;have r:=G l;have i:=G f;have A:=G h;have z:=G p;clear l f h p;by_cases hlt:a+20<=d.length
 ·have C:=G (yY b B off d.length c a (a+20) e key E pre post wr K i.o.1 O hlt hbig (HC.o.later hg))
  rw[show((a+20:Nat):Int)=(a:Int)+20 by omega]at C;go_wp2_with fail;refine C.o.mono ?_;rintro e W1 ⟨rfl,d2,g,s,t⟩;go_wp2;go_roundw
  case rel=>
   refine⟨q+1,a+20,d2,by rw[r.o];omega,hlt,oN_,oN_,i.o.trans (g.1.mono (Nat.zero_le _) hlt),A.o.trans g.2.1,?_,s,bK hg t⟩;have:=r.o;subst this;exact z.o.succ g.1 g.2.2
  exact oI_
 have C:=G (yY b B off d.length c a d.length e key E pre post wr K i.o.1 k (Nat.le_refl _) hbig (HC.o.later hg));go_wp2_with fail;refine C.o.mono ?_;rintro e W1 ⟨rfl,d2,g,s,t⟩;have X:Srt.Bl key d2 20 0 d.length:=by
  have:=r.o;subst this;exact Srt.Bl.of_pf z.o k O g.1 g.2.2
 have V:=G (i.o.trans (g.1.mono (Nat.zero_le _) (Nat.le_refl _)));have W:=G (A.o.trans g.2.1);have T:=G X;have Y:=bK hg t;clear X g hg t i A z r K C;go_wp2;go_loopw [6] (λu wr=>∃(bs:Nat)(F:Li),20<=bs/\bs<=2199023255552/\u=I J bs/\Srt.Same d F 0 d.length/\Srt.St key d F/\Srt.Bl key F bs 0 d.length/\Row wr b off e pre post F/\w.grownBy wr (Z b)) (λu _=>d.length-(intOf u).toNat)
 case atStart=>exact⟨20,d2,Nat.le_refl _,O,rfl,V.o,W.o,T.o,s,Y⟩
 obtain⟨bs,F,al,ag,rfl,f,h,m,M,R⟩:=hrel;have x:=G f;have D:=G h;have y:=G m;clear f h m V W T s Y;by_cases hlt2:bs<d.length
 ·obtain⟨wo,rfl⟩:∃wo:Wv,wo=wr:=⟨_,rfl⟩
  go_wp2
  go_loopw [7,8] (λu v wr=>∃(q a:Nat)(j:Li),a=q*(2*bs)/\a<=d.length/\u=I J a/\v=I J ((a:Int)+2*(bs:Int))/\Srt.Same d j 0 d.length/\Srt.St key d j/\Srt.Pf key j (2*bs) q/\Srt.Bl key j bs a d.length/\
    Row wr b off e pre post j/\w.grownBy wr (Z b)) (λu _ _=>d.length-(intOf u).toNat)
  case atStart=>exact⟨0,0,F,L,Nat.zero_le _,rfl,oN_,x.o,D.o,Srt.Pf.zero,y.o,M,R⟩
  obtain⟨q,a,j,l,k,rfl,rfl,f,h,p,m,P,o⟩:=hrel;have r:=G l;have i:=G f;have A:=G h;have z:=G p;have T:=G m;clear l f h p m x D y M R;have s1:Srt.SortedOn key j a (min (a+bs) d.length):=T.o.first
  have s2:Srt.SortedOn key j (a+bs) (min (a+bs+bs) d.length):=T.o.next.first
  have S1:=G s1;have S2:=G s2;clear s1 s2;by_cases hlt3:a+2*bs<=d.length
  ·have C:=G (ET b B off d.length c e key pre post _ a (a+bs) (a+2*bs) j wr (Nat.le_refl _) P i.o.1 O O hlt3 hbig (HC.o.later o)
    (S1.o.sub (Nat.le_refl _) O) (S2.o.sub (Nat.le_refl _) O))
   rw[show((a+bs:Nat):Int)=(a:Int)+(bs:Int) by omega,show((a+2*bs:Nat):Int)=(a:Int)+2*(bs:Int) by omega]at C
   go_wp2_with fail
   refine C.o.mono ?_
   rintro e W4 ⟨rfl,d5,g,Q,S⟩
   go_wp2
   go_roundw
   case rel=>
    refine⟨q+1,a+2*bs,d5,by rw[r.o,Nat.add_mul,Nat.one_mul],hlt3,oN_,oN_,i.o.trans (g.1.mono (Nat.zero_le _) hlt3),A.o.trans g.2.1,?_,?_,Q,bK o S⟩
    ·have:=r.o
     subst this
     exact z.o.succ g.1 g.2.2
    have:=T.o.next.next
    rw[show a+bs+bs=a+2*bs by omega]at this
    exact this.same g.1 (Nat.le_refl _)
   exact oI_
  by_cases hlt4:a+bs<d.length
  ·have C:=G (ET b B off d.length c e key pre post _ a (a+bs) d.length j wr (Nat.le_refl _) P i.o.1 O hlt4 (Nat.le_refl _) hbig (HC.o.later o)
    (S1.o.sub (Nat.le_refl _) O) (S2.o.sub (Nat.le_refl _) O))
   rw[show((a+bs:Nat):Int)=(a:Int)+(bs:Int) by omega]at C
   go_wp2_with fail
   refine C.o.mono ?_
   rintro e W4 ⟨rfl,d5,g,Q,S⟩
   go_wp2
   go_roundw
   case rel=>
    refine⟨bs*2,d5,O,O,oN_,i.o.trans (g.1.mono (Nat.zero_le _) (Nat.le_refl _)),A.o.trans g.2.1,?_,Q,bK o S⟩
    have:=r.o
    subst this
    rw[Nat.mul_comm bs 2]
    exact Srt.Bl.of_pf z.o k O g.1 g.2.2
   exact oI_
  go_wp2;go_roundw
  case rel=>
   refine⟨bs*2,j,O,O,oN_,i.o,A.o,?_,P,o⟩;have:=r.o;subst this;rw[Nat.mul_comm bs 2];exact Srt.Bl.of_pf z.o k O (Srt.Same.refl _ _ _) (S1.o.sub (Nat.le_refl _) O)
  exact oI_
 go_wp2;go_end0;exact⟨rfl,F,⟨x.o,D.o,y.o.all O⟩,M,R⟩
theorem IJ(b B off n c:Nat)(e:TypeId)(key:Int->Int)(d:Li)(pre post:Lv)(w:Wv)(hR:Row w b off e pre post d)(hn:d.length=n)(hbig:n<=1099511627776)(hC:iJ b B w key):
  Calls prog 122 #[H (Z ⟨b,off,N⟩) n c,.func (.func 123) #[] #[.pointer (Z ⟨B,0,N⟩)]] w
   (jP (λd'=>Srt.Done key d d' 0 n) b off e pre post w):=by
 have C:=G (ZV b B off n c e key d pre post w hR hn hbig hC);clear hR hn hC;go_enter func122,ntmps122;go_wp2_with fail;refine C.o.mono ?_;rintro e i ⟨rfl,g,h,a,f⟩;go_wp2;go_end0;exact⟨rfl,g,h,a,f⟩
theorem ZP(B:Nat)(A':Oa)(ns ks:Nat)(ss:List Spn)(x y:Int)(W:Wv)(hc:W.cell? ⟨B,0,N⟩=Z (H A' ns ks))(hS:bG W A' ss)(hns:ss.length=ns)(hb2:ns<=1099511627776)(hasc:Asc ss):
  Calls prog 123 #[I J x,I J y,.pointer (Z ⟨B,0,N⟩)] W (vE (cls ss x<cls ss y) W):=by
 have g:=G hasc;clear hasc;subst hns;have f:B<W.heap.size:=World.block_lt_of_cell? W _ hc;have c:bG W.drew A' ss:=hS;go_enter func123,ntmps123;go_wp2
 go_region_with (first
  |(go_at_call 124;(with_reducible refine(mA _ _ _).mono ?_);rintro e j ⟨rfl,rfl⟩)
  |(go_at_call 125;(with_reducible refine(rW A' ss.length ks ss _ _ b rfl hb2 g.o).mono ?_);rintro e k ⟨rfl,d⟩;clear b)
  | (go_at_call 125;(with_reducible refine(rW A' ss.length ks ss _ _ c rfl hb2 g.o).mono ?_);rintro e h ⟨rfl,a⟩;have i:h.cell? ⟨B,0,N⟩=Z (H A' ss.length ks):=(a.cell (p:=⟨B,0,N⟩) f).trans hc;have b:bG h A' ss:=bG.below (w:=W.drew) c a))
 all_goals
  go_wp2;go_ret;refine⟨_,rfl,?_,((Below.drew (Below.refl _ W)).trans a).trans (d.mono a.size)⟩;unfold dM;split
  ·simp[*]
  split<;>simp[*]
theorem LY{b B:Nat}{A':Oa}{ns ks:Nat}{ss:List Spn}{w:Wv}(hc:w.cell? ⟨B,0,N⟩=Z (H A' ns ks))(hS:bG w A' ss)(hns:ss.length=ns)(hb2:ns<=1099511627776)(hasc:Asc ss)
  (hB:B≠b) (hA:ss≠[]->∀o,A'≠Z ⟨b,o,N⟩):iJ b B w (cls ss):=by
 intro W hg x y;have a:∀p:Addr,p.block<w.heap.size->p.block≠b->W.cell? p=w.cell? p:=λp d h2=>World.cell?_of_block (w:=w) (hg.block p.block d (λe=>h2 (by injection e)))
 refine ZP B A' ns ks ss x y W ?_ ?_ hns hb2 hasc
 ·rw[a _ (World.block_lt_of_cell? w _ hc) hB];exact hc
 intro c;obtain⟨h,g,rfl,f⟩:=hS c;refine⟨h,g,rfl,λj u hu=>?_⟩;have d:=f j u hu;rw[a _ (World.block_lt_of_cell? w _ d) (by rintro rfl;exact hA (by rintro rfl;exact c rfl) g rfl)];exact d
end
section
open Go.RowKit Go.Shelf
attribute [local go_sem] Oper.semAt_some
theorem AR{w:Wv}{base:Nat}{e:TypeId}{A:Oa}{n c:Nat}{d:Li}(h:w.ownsRow base e 1 (H A n c) n (d.map (Value.int .i64)))(hn:0<n):
  ∃g post,A=Z ⟨g,0,N⟩/\base<=g/\Row w g 0 e [] post d/\d.length=n/\n+post.length=c/\c<=maxLen:=by
 obtain⟨k,l⟩:=h;rcases l with⟨hv,rfl⟩|⟨g,j,b,hv,hb,hg,m,f,i,a⟩
 ·omega
 injection hv with hA _ hc;subst hA;subst hc;simp only[Nat.mul_one,List.length_map]at *;refine⟨g,b.toList.drop n,rfl,hb,⟨rfl,?_⟩,k,oU_,f⟩;unfold Blk;rw[List.nil_append,<-a,List.take_append_drop];exact hg
theorem YD{w:Wv}{base g n c:Nat}{e:TypeId}{post:Lv}{d:Li}(h:Row w g 0 e [] post d)(hb:base<=g)(hn:d.length=n)(hc:n+post.length=c)(hcm:c<=maxLen):
  w.ownsRow base e 1 (H (Z ⟨g,0,N⟩) n c) n (d.map (Value.int .i64)):=by
 refine⟨by simp[hn],.inr ⟨g,c,_,rfl,hb,h.2,O,hcm,oU_,?_⟩⟩;simp[<-hn]
theorem Row.cut{w:Wv}{g:Nat}{e:TypeId}{post:Lv}{d:Li}(h:Row w g 0 e [] post d){lo hi:Nat}(h1:lo<=hi)(h2:hi<=d.length):
  Row w g lo e ((d.take lo).map (Value.int .i64)) ((d.drop hi).map (Value.int .i64)++post) ((d.drop lo).take (hi-lo)):=by
 refine⟨oU_,?_⟩;have:=h.2;unfold Blk at this|-;rw[this];congr 2;have hp:=Srt.parts d lo lo hi (Nat.le_refl _) h1;simp only[Nat.sub_self,List.take_zero,List.nil_append]at hp;rw[List.nil_append];conv=>lhs;rw[hp]
 simp
theorem Row.uncut{w:Wv}{g lo:Nat}{e:TypeId}{post:Lv}{p s q:Li}(h:Row w g lo e (p.map (Value.int .i64)) (q.map (Value.int .i64)++post) s):Row w g 0 e [] post (p++s++q):=by
 refine⟨rfl,?_⟩;have:=h.2;unfold Blk at this|-;rw[this];simp
theorem XU(cl:Int->Int)(l:Li)(i:Nat)(s:Option Nat)(hs:∀x,s=Z x->x<i):∀r∈rns cl l i s,r.1<r.2/\r.2<=i+l.length:=by
 induction l generalizing i s with
 |nil=>
  cases s with
  |none=>intro r hr;cases hr
  |some s=>intro r hr;simp only[rns,List.mem_singleton]at hr;subst hr;have:=hs s rfl;simp;omega
 |cons c t ih=>
  have a:=ih (i+1) N (λ_ h=>by cases h);have b:=ih (i+1) (Z i) (λx h=>by cases h;omega);cases s with
  |none=>
   intro r hr;simp only[rns]at hr;simp only[List.length_cons];split at hr
   ·have:=a r hr;omega
   have:=b r hr;omega
  |some s=>
   have e:=hs s rfl;have d:=ih (i+1) (Z s) (λx h=>by cases h;omega);intro r hr;simp only[rns]at hr;simp only[List.length_cons];split at hr
   ·simp only[List.mem_cons]at hr
    rcases hr with rfl|hr
    ·simp;omega
    have:=a r hr;omega
   have:=d r hr;omega
abbrev RgN(n:Nat):={ x:Nat×Nat // x.1<x.2/\x.2<=n }
theorem XL{n:Nat}(l:List (Nat×Nat))(h:∀r∈l,r.1<r.2/\r.2<=n):∃all:List (RgN n),all.map (λx=>x.1)=l:=by
 induction l with
 |nil=>exact⟨[],rfl⟩
 |cons x l ih=>
  obtain⟨all,ha⟩:=ih λr hr=>h r (List.mem_cons_of_mem _ hr)
  exact⟨⟨x,h x (List.mem_cons_self ..)⟩::all,by rw[List.map_cons,ha]⟩
theorem wJ{W W':Wv}{row:Option Nat}(hg:W.grownBy W' row)(hr:∀r,row=Z r->∃o:Obj,W.heap[r]?=Z o/\o.isCells=false){p:Addr}{v:Value}(h:W.cell? p=Z v):W'.cell? p=Z v:=by
 have a:=World.block_lt_of_cell? W p h;refine(World.cell?_of_block (w:=W) (hg.block p.block a λe=>?_)).trans h;obtain⟨o,ho,hc⟩:=hr p.block e.symm;unfold World.cell? at h;rw[ho]at h;cases o with
 |cells c t f=>cases hc
 |_=>simp at h
theorem Sl.grown{W W':Wv}{row:Option Nat}{A:Oa}{cs:Lv}(h:Sl W A cs)(hg:W.grownBy W' row)(hr:∀r,row=Z r->∃o:Obj,W.heap[r]?=Z o/\o.isCells=false):Sl W' A cs:=by
 intro a;obtain⟨b,o,rfl,hc⟩:=h a;exact⟨b,o,rfl,λj u hu=>wJ hg hr (hc j u hu)⟩
structure iM(key:Int->Int)(text:Li)(base Bo Bl:Nat)(A:Oa)(n c:Nat)(A1:Oa)(n1 k1:Nat)(ts:List Spn)(w:Wv)(pre:List (Nat×Nat))(W:Wv):Prop where
 box:Boxed W Bo 33 (H A n c)
 row:∃d,W.ownsRow base 3 1 (H A n c) n (d.map (Value.int .i64))/\Srt.Stp key text pre d
 l:W.cell? ⟨Bl,0,N⟩=Z (H A1 n1 k1)
 sp:bG W A1 ts
 bel:By w W
theorem iM.own{key:Int->Int}{text:Li}{base Bo Bl:Nat}{A:Oa}{n c:Nat}{A1:Oa}{n1 k1:Nat}{ts:List Spn}{w:Wv}{β:Type}(f:β->List (Nat×Nat)){B:Nat}(hB:w.heap.size<=B):
  OwnFrom B (λs W=>iM key text base Bo Bl A n c A1 n1 k1 ts w (f s) W):=by
 intro s X Y i h hg hr;have a:∀r,i=Z r->∃o:Obj,X.heap[r]?=Z o/\o.isCells=false:=λr e=>(hr r e).2
 refine⟨h.box.kept hg (λe'=>?_),?_,wJ hg a h.l,Sl.grown h.sp hg a,?_⟩
 ·obtain⟨o,ho,hc⟩:=a Bo e'.symm
  rw[show X.heap[Bo]?=_ from h.box]at ho;cases ho;cases hc
 ·obtain⟨d,hd,hs⟩:=h.row
  refine⟨d,hd.kept hg ?_,hs⟩;rcases hd.2 with⟨hv,_⟩|⟨g,j,l,hv,_,b,_⟩
  ·rw[hv];exact .inl rfl
  rw[hv];refine .inr λe'=>?_
  obtain⟨o,ho,hc⟩:=a g (by simpa[Value.ownBlock]using e'.symm);rw[b]at ho;cases ho;cases hc
 exact h.bel.grown hg h.bel.size (λk e=>Nat.le_trans hB (hr k e).1)
theorem iM.alloc{key:Int->Int}{text:Li}{base Bo Bl:Nat}{A:Oa}{n c:Nat}{A1:Oa}{n1 k1:Nat}{ts:List Spn}{w W:Wv}{pre:List (Nat×Nat)}(h:iM key text base Bo Bl A n c A1 n1 k1 ts w pre W)(o:Obj):iM key text base Bo Bl A n c A1 n1 k1 ts w pre (W.alloc o):=
 OwnFrom.alloc (iM.own (λs:List (Nat×Nat)=>s) (B:=w.heap.size) (Nat.le_refl _)) (s:=pre) o h
end
end Go.Proofs.YtkhmjidaeliccaaGreatDoor
