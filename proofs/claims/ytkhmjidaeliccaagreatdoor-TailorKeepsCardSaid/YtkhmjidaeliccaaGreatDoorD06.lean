import Derived.Test.YtkhmjidaeliccaaGreatDoorD00
import Derived.Test.YtkhmjidaeliccaaGreatDoorD01
import Derived.Test.YtkhmjidaeliccaaGreatDoorD02
import Derived.Test.YtkhmjidaeliccaaGreatDoorD05
import Derived.Test.YtkhmjidaeliccaaGreatDoorProg
import Derived.Outline
import Derived.RegionTactic
import Derived.BigRegion
import Derived.Deep.Light
import Derived.Deep.QuietTactic
import Derived.BigQuiet
import Derived.RangeFuncNested
import Derived.RangeFuncBound
import Derived.RangeFuncCalls
import Derived.RangeFuncLeaves
import Derived.Shelf.Abstract
import Derived.Shelf.RegionOpen
import Derived.WalkKit
import Derived.OwnWalkIn
import Derived.TacticsInMore
import Derived.LoopNIn
import Derived.LoopIn
set_option maxRecDepth 100000
set_option maxHeartbeats 51200000
namespace Go.Proofs.YtkhmjidaeliccaaGreatDoor
open Option renaming none->N,some->Z
open Value renaming int->I,slice->H
open IntKind renaming i64->J
open Go.Proofs.Tryz
section
open Go.RowKit Go.Maps Go.WideMaps
theorem wY(W:Wv)(a:Addr)(x:Bool)(h:W.cell? a=Z (.bool x)):(loadVar 4 a).run prog W=.ok (.bool x) W:=by
 have hu:=underlying4;simp only[loadVar,isAgg,Sem.run_bind,run_underlying hu,Result.andThen_ok,Sem.run_pure];simp[run_load,h]
theorem RU{fn:Func}{p q:Tmp}{t u:TypeId}(h:fn.results=#[.cell p t,.cell q u])(tmps:Array Value)(P:Program)(w:Wv){a b:Addr}{x y:Value}(ha:tmps.getD p undef=.pointer (Z a))(hb:tmps.getD q undef=.pointer (Z b))
  (hx:(loadVar t a).run P w=.ok x w) (hy:(loadVar u b).run P w=.ok y w):(results fn tmps).run P w=.ok (.tuple #[x,y]) w:=by
 rw[Array.getD_eq_getD_getElem?]at ha hb;simp only[results,h];simp[Sem.run_bind,Result.andThen,ha,hb,asAddr,hx,hy]
theorem AS(on:Int->Option (Li))(cap mx:Int):eQ on cap mx (fun _=>N) false false:=⟨fun _ _ h=>(by cases h),fun _ _ _ h=>(by cases h),fun h=>(by cases h),fun h=>(by cases h),fun _ _ h=>(by cases h),fun _ _ h=>(by cases h)⟩
def BK(ms:List Mp)(w:Wv)(e:Ending)(w':Wv):Prop:=∃cyc lng,e=.returned (.tuple #[.bool cyc,.bool lng])/\iW ms cyc lng/\By w w'
theorem zW(fs:Li)(mk:Int->Option Int):unmarked fs mk<=fs.length:=List.length_filter_le _ _
theorem AW(A0:Oa)(n0 k0:Nat)(A1:Oa)(n1 k1:Nat)(A2:Oa)(n2 k2:Nat)(w:Wv):MS A0 n0 k0 A1 n1 k1 A2 n2 k2 w.heap.size (((((((w).alloc (.cells #[H A0 n0 k0,H A1 n1 k1,H A2 n2 k2] 28)).alloc (.cells #[.bool false] 4)).alloc (.cells #[.bool false] 4)).alloc (.map #[] 0)).alloc (.cells #[.map (Z (w.heap.size+1+1+1))] 229)).alloc (.cells #[.func (.func 181) #[] #[.pointer (Z ⟨w.heap.size,0,N⟩),.pointer (Z ⟨w.heap.size+1+1+1+1,0,N⟩),.pointer (Z ⟨w.heap.size+1,0,N⟩),.pointer (Z ⟨w.heap.size+1+1+1+1+1,0,N⟩),.pointer (Z ⟨w.heap.size+1+1,0,N⟩)]] 147)) 0 (fun _=>N) false false/\By w (((((((w).alloc (.cells #[H A0 n0 k0,H A1 n1 k1,H A2 n2 k2] 28)).alloc (.cells #[.bool false] 4)).alloc (.cells #[.bool false] 4)).alloc (.map #[] 0)).alloc (.cells #[.map (Z (w.heap.size+1+1+1))] 229)).alloc (.cells #[.func (.func 181) #[] #[.pointer (Z ⟨w.heap.size,0,N⟩),.pointer (Z ⟨w.heap.size+1+1+1+1,0,N⟩),.pointer (Z ⟨w.heap.size+1,0,N⟩),.pointer (Z ⟨w.heap.size+1+1+1+1+1,0,N⟩),.pointer (Z ⟨w.heap.size+1+1,0,N⟩)]] 147)):=by
 have h1:Box ((w).alloc (.cells #[H A0 n0 k0,H A1 n1 k1,H A2 n2 k2] 28)) w.heap.size 28 [H A0 n0 k0,H A1 n1 k1,H A2 n2 k2]:=Box.new _ _ _ rfl;have h2:Box (((w).alloc (.cells #[H A0 n0 k0,H A1 n1 k1,H A2 n2 k2] 28)).alloc (.cells #[.bool false] 4)) (w.heap.size+1) 4 [.bool false]:=Box.new _ _ _ (by simp);have h3:Box ((((w).alloc (.cells #[H A0 n0 k0,H A1 n1 k1,H A2 n2 k2] 28)).alloc (.cells #[.bool false] 4)).alloc (.cells #[.bool false] 4)) (w.heap.size+2) 4 [.bool false]:=Box.new _ _ _ (by simp);have h4:kR (((((w).alloc (.cells #[H A0 n0 k0,H A1 n1 k1,H A2 n2 k2] 28)).alloc (.cells #[.bool false] 4)).alloc (.cells #[.bool false] 4)).alloc (.map #[] 0)) (w.heap.size+3) 0 (fun _=>N):=by
  have:=aR.made prog 3 m_ iok ((((w).alloc (.cells #[H A0 n0 k0,H A1 n1 k1,H A2 n2 k2] 28)).alloc (.cells #[.bool false] 4)).alloc (.cells #[.bool false] 4));simpa using this
 have h5:Box ((((((w).alloc (.cells #[H A0 n0 k0,H A1 n1 k1,H A2 n2 k2] 28)).alloc (.cells #[.bool false] 4)).alloc (.cells #[.bool false] 4)).alloc (.map #[] 0)).alloc (.cells #[.map (Z (w.heap.size+1+1+1))] 229)) (w.heap.size+4) 229 [.map (Z (w.heap.size+1+1+1))]:=Box.new _ _ _ (by simp);have h6:Box (((((((w).alloc (.cells #[H A0 n0 k0,H A1 n1 k1,H A2 n2 k2] 28)).alloc (.cells #[.bool false] 4)).alloc (.cells #[.bool false] 4)).alloc (.map #[] 0)).alloc (.cells #[.map (Z (w.heap.size+1+1+1))] 229)).alloc (.cells #[.func (.func 181) #[] #[.pointer (Z ⟨w.heap.size,0,N⟩),.pointer (Z ⟨w.heap.size+1+1+1+1,0,N⟩),.pointer (Z ⟨w.heap.size+1,0,N⟩),.pointer (Z ⟨w.heap.size+1+1+1+1+1,0,N⟩),.pointer (Z ⟨w.heap.size+1+1,0,N⟩)]] 147)) (w.heap.size+5) 147 [.func (.func 181) #[] #[.pointer (Z ⟨w.heap.size,0,N⟩),.pointer (Z ⟨w.heap.size+1+1+1+1,0,N⟩),.pointer (Z ⟨w.heap.size+1,0,N⟩),.pointer (Z ⟨w.heap.size+1+1+1+1+1,0,N⟩),.pointer (Z ⟨w.heap.size+1+1,0,N⟩)]]:=Box.new _ _ _ (by simp);have al:∀(W:Wv)(o:Obj),By W (W.alloc o):=fun W o=>ba _ _
 have b2:=al ((w).alloc (.cells #[H A0 n0 k0,H A1 n1 k1,H A2 n2 k2] 28)) (.cells #[.bool false] 4);have b3:=al (((w).alloc (.cells #[H A0 n0 k0,H A1 n1 k1,H A2 n2 k2] 28)).alloc (.cells #[.bool false] 4)) (.cells #[.bool false] 4);have b4:=al ((((w).alloc (.cells #[H A0 n0 k0,H A1 n1 k1,H A2 n2 k2] 28)).alloc (.cells #[.bool false] 4)).alloc (.cells #[.bool false] 4)) (.map #[] 0);have b5:=al (((((w).alloc (.cells #[H A0 n0 k0,H A1 n1 k1,H A2 n2 k2] 28)).alloc (.cells #[.bool false] 4)).alloc (.cells #[.bool false] 4)).alloc (.map #[] 0)) (.cells #[.map (Z (w.heap.size+1+1+1))] 229);have b6:=al ((((((w).alloc (.cells #[H A0 n0 k0,H A1 n1 k1,H A2 n2 k2] 28)).alloc (.cells #[.bool false] 4)).alloc (.cells #[.bool false] 4)).alloc (.map #[] 0)).alloc (.cells #[.map (Z (w.heap.size+1+1+1))] 229)) (.cells #[.func (.func 181) #[] #[.pointer (Z ⟨w.heap.size,0,N⟩),.pointer (Z ⟨w.heap.size+1+1+1+1,0,N⟩),.pointer (Z ⟨w.heap.size+1,0,N⟩),.pointer (Z ⟨w.heap.size+1+1+1+1+1,0,N⟩),.pointer (Z ⟨w.heap.size+1+1,0,N⟩)]] 147);refine⟨⟨?_,?_,?_,?_,?_,?_⟩,?_⟩
 ·exact((((h1.below b2 h1.lt).below b3 (h1.below b2 h1.lt).lt).below b4 (by simp<;>omega)).below b5 (by simp<;>omega)).below b6 (by simp<;>omega)
 ·exact(((h2.below b3 h2.lt).below b4 (by simp<;>omega)).below b5 (by simp<;>omega)).below b6 (by simp<;>omega)
 ·exact((h3.below b4 h3.lt).below b5 (by simp<;>omega)).below b6 (by simp<;>omega)
 ·exact(h4.below b5).below b6
 ·exact h5.below b6 h5.lt
 ·exact h6
 exact(((((ba _ _).alloc (by simp) _).alloc (by simp<;>omega) _).alloc (by simp<;>omega) _).alloc (by simp<;>omega) _).alloc (by simp<;>omega) _
theorem OT(A0:Oa)(n0 k0:Nat)(A1:Oa)(n1 k1:Nat)(A2:Oa)(n2 k2:Nat)(ms:List Mp)(w:Wv)(hA:Mps w A1 ms)(hn:ms.length=n1)(hst:StF ms)(hco:fM ms)(hh:c_ ms)(hbig:n1<=1048576):
  Calls prog 144 #[.agg #[H A0 n0 k0,H A1 n1 k1,H A2 n2 k2]] w (BK ms w):=by
 subst hn;have SZ:=G (UM A0 n0 k0 A1 k1 A2 n2 k2 w.heap.size ms w rfl hA hst hco hbig);have OK:=G (fun mk cyc lng=>iW.of (mk:=mk) (cyc:=cyc) (lng:=lng) hst hh);have ON:=G (fun i(hi:i<ms.length)=>(mB hst hh true hi).trans (if_pos (.inl rfl)));have HH:=G (fun i(hi:i<ms.length)=>show hk ms[i].frm=0 from by unfold hk;rw[hh i hi];rfl);have CO:=G (fun i(hi:i<ms.length)=>(hco i hi).1);clear hst hco hh;have hmm:=@run_makeMap prog;have hsf:=fun(W:Wv) (a:Addr) (m:Mode) (fn:Fn) (x y:Array Value)=>run_store prog W a (.func fn x y) m rfl
 go_enter func144,ntmps144;go_wp2_with fail;obtain⟨W0,hW0⟩:∃W0,(((((((w).alloc (.cells #[H A0 n0 k0,H A1 ms.length k1,H A2 n2 k2] 28)).alloc (.cells #[.bool false] 4)).alloc (.cells #[.bool false] 4)).alloc (.map #[] 0)).alloc (.cells #[.map (Z (w.heap.size+1+1+1))] 229)).alloc (.cells #[.func (.func 181) #[] #[.pointer (Z ⟨w.heap.size,0,N⟩),.pointer (Z ⟨w.heap.size+1+1+1+1,0,N⟩),.pointer (Z ⟨w.heap.size+1,0,N⟩),.pointer (Z ⟨w.heap.size+1+1+1+1+1,0,N⟩),.pointer (Z ⟨w.heap.size+1+1,0,N⟩)]] 147))=W0:=⟨_,rfl⟩;obtain⟨hM0,hB0⟩:=AW A0 n0 k0 A1 ms.length k1 A2 n2 k2 w;rw[hW0]at hM0 hB0|-;clear hW0 hmm hsf;have HM0:=G hM0;clear hM0
 go_loopw [7,13] (fun _ u wr=>∃(i n:Nat)(mk:Int->Option Int)(cyc lng:Bool),i<=ms.length/\u=I J i/\MS A0 n0 k0 A1 ms.length k1 A2 n2 k2 w.heap.size wr n mk cyc lng/\eQ (onM ms true) aK mxE mk cyc lng/\(∀x,mk x≠Z (-1))/\n+200*unmarked (fsM ms) mk<=200*ms.length/\
   (∀t,(ht:t<ms.length)->t<i->ms[t].toq≠[]->∃k,mk ms[t].frm=Z k)/\By w wr) (fun _ u _=>ms.length-(intOf u).toNat)
 case atStart=>
  refine⟨0,0,_,false,false,Nat.zero_le _,rfl,HM0.out,AS _ _ _,fun x h=>(by cases h),?_,fun t _ h=>absurd h (Nat.not_lt_zero _),hB0⟩;have:=zW (fsM ms) (fun _=>N);unfold fsM at *;rw[List.length_map]at this;omega
 obtain⟨i,n,mk,cyc,lng,hi,rfl,hMS,hDI,hfin,hpot,hmkd,hb⟩:=hrel;have HMS:=G hMS;have HDI:=G hDI;have HFI:=G hfin;have HPO:=G hpot;have HMD:=G hmkd;clear hMS hDI hfin hpot hmkd;by_cases hlt:i<ms.length
 ·obtain⟨b,o,rfl,_,hcell⟩:=(hA.below hb).at hlt
  obtain⟨E,d,c1,c2,c3,_,_⟩:=hcell i hlt;clear hcell;have HO:=G (ON.out i hlt);have h0:=HH.out i hlt;have hcd:=CO.out i hlt
  have HST:=G (fun(mk':Int->Option Int) (he:dW mk mk') (hm:ms[i].toq≠[]->∃k,mk' ms[i].frm=Z k)=>show ∀t,(ht:t<ms.length)->t<i+1->ms[t].toq≠[]->∃k,mk' ms[t].frm=Z k from fun t ht h1 h2=>by
   by_cases e:t=i
   ·subst e;exact hm h2
   ·obtain⟨k,hk⟩:=HMD.out t ht (by omega) h2;exact⟨k,he.old _ _ hk⟩)
  generalize ms[i].frm=f at *;generalize ms[i].toq=toq at *;generalize ms[i].tag=tg at *;have hBa:By wr (wr.alloc (.cells #[I J f,H E toq.length d,.string tg] 154)):=ba _ _;have hbW:=hb.trans (hBa.mono hb.size);have hMW:=HMS.out.below hBa;have p5:(wr.alloc (.cells #[I J f,H E toq.length d,.string tg] 154)).cell? ⟨w.heap.size+1+1+1+1+1,0,N⟩=Z (.func (.func 181) #[] #[.pointer (Z ⟨w.heap.size,0,N⟩),.pointer (Z ⟨w.heap.size+1+1+1+1,0,N⟩),.pointer (Z ⟨w.heap.size+1,0,N⟩),.pointer (Z ⟨w.heap.size+1+1+1+1+1,0,N⟩),.pointer (Z ⟨w.heap.size+1+1,0,N⟩)]):=hMW.bS.cell rfl;have q5:wr.cell? ⟨w.heap.size+1+1+1+1+1,0,N⟩=Z (.func (.func 181) #[] #[.pointer (Z ⟨w.heap.size,0,N⟩),.pointer (Z ⟨w.heap.size+1+1+1+1,0,N⟩),.pointer (Z ⟨w.heap.size+1,0,N⟩),.pointer (Z ⟨w.heap.size+1+1+1+1+1,0,N⟩),.pointer (Z ⟨w.heap.size+1+1,0,N⟩)]):=HMS.out.bS.cell rfl
  have CL:=U (Calls prog 181 #[I J f,.pointer (Z ⟨w.heap.size,0,N⟩),.pointer (Z ⟨w.heap.size+1+1+1+1,0,N⟩),.pointer (Z ⟨w.heap.size+1,0,N⟩),.pointer (Z ⟨w.heap.size+1+1+1+1+1,0,N⟩),.pointer (Z ⟨w.heap.size+1+1,0,N⟩)] (wr.alloc (.cells #[I J f,H E toq.length d,.string tg] 154))
    (mQ A0 n0 k0 _ ms.length k1 A2 n2 k2 w.heap.size ms f (wr.alloc (.cells #[I J f,H E toq.length d,.string tg] 154)) n mk cyc)) (SZ.out (2*unmarked (fsM ms) mk+1) f _ n mk cyc lng (by omega) hcd HDI.out (fun x h=>absurd h (HFI.out x)) hMW hbW (by have:=HPO.out;omega))
  clear hMW hBa;go_wp2_with fail;with_reducible refine CL.out.mono ?_
  rintro e W ⟨v,n',mk',cyc',lng',rfl,hp⟩;have hbN:=hbW.trans hp.bel
  have RL:=U (MS A0 n0 k0 _ ms.length k1 A2 n2 k2 w.heap.size W n' mk' cyc' lng'/\eQ (onM ms true) aK mxE mk' cyc' lng'/\(∀x,mk' x≠Z (-1))/\n'+200*unmarked (fsM ms) mk'<=200*ms.length/\(∀t,(ht:t<ms.length)->t<i+1->ms[t].toq≠[]->∃k,mk' ms[t].frm=Z k)) (⟨hp.st,hp.inv,fun x=>by
    cases hx:mk x with
    |none=>exact hp.ext.new x hx
    |some k=>intro h;have:=hp.ext.old x k hx;rw[h]at this;injection this with this;subst this;exact HFI.out x hx,
   by have:=hp.pot;have:=HPO.out;omega,HST.out mk' hp.ext (fun hne=>hp.mkd toq HO.out hne)⟩)
  clear hp CL p5 q5;go_wp2_with fail;go_roundw
  case rel=>exact⟨i+1,n',mk',cyc',lng',by omega,by go_num,RL.out.1,RL.out.2.1,RL.out.2.2.1,RL.out.2.2.2.1,RL.out.2.2.2.2,hbN⟩
  simp[intOf];omega
 obtain rfl:i=ms.length:=by omega
 have MO:=G (OK.out mk cyc lng HDI.out HFI.out (fun t ht h=>HMD.out t ht ht h));have e1:wr.cell? ⟨w.heap.size+1,0,N⟩=Z (.bool cyc):=HMS.out.bC.cell rfl;have e2:wr.cell? ⟨w.heap.size+1+1,0,N⟩=Z (.bool lng):=HMS.out.bL.cell rfl;have e3:wr.frozen? ⟨w.heap.size+1,0,N⟩=false:=HMS.out.bC.free 0;have e4:wr.frozen? ⟨w.heap.size+1+1,0,N⟩=false:=HMS.out.bL.free 0;go_wp2_with fail;go_region
 all_goals
  go_wp2_with fail;(try simp only[Exit.inBlock,Exit.then]);refine bodyPost_ret (RU rfl _ _ _ rfl rfl (wY _ _ cyc ?_) (wY _ _ lng ?_)) rfl ?_
  ·go_simp
  ·go_simp
  exact⟨cyc,lng,rfl,MO.out,((hb.setCell (by simp) _).setCell (by simp;omega) _).drew⟩
end
section
open Go.RowKit
def iO(lo hi c:Int):Int:=if hi<c then -1 else if c<lo then 1 else 0
theorem uV(lo hi v c:Int)(w:Wv):Calls prog 170 #[.agg #[I J lo,I J hi,I J v],I J c] w (bU (iO lo hi c) w):=by
 unfold iO;by_cases h1:hi<c
 ·rw[if_pos h1]
  go_enter func170,ntmps170;go_wp2;go_ret;exact⟨rfl,ba _ _⟩
 rw[if_neg h1];by_cases h2:c<lo
 ·rw[if_pos h2]
  go_enter func170,ntmps170;go_wp2;go_ret;exact⟨rfl,ba _ _⟩
 rw[if_neg h2];go_enter func170,ntmps170;go_wp2;go_ret;exact⟨rfl,ba _ _⟩
def qH(ss:List Spn)(c:Int)(i:Nat)(found:Bool):Prop:=
 i<=ss.length/\(∀t,(ht:t<ss.length)->t<i->ss[t].hi<c)/\(∀t,(ht:t<ss.length)->i<=t->c<=ss[t].hi)/\found=decide (∃h:i<ss.length,ss[i].lo<=c)
def BN(ss:List Spn)(c:Int)(w:Wv)(e:Ending)(w':Wv):Prop:=∃(i:Nat)(f:Bool),e=.returned (.tuple #[I J i,.bool f])/\qH ss c i f/\By w w'
theorem EE(A:Oa)(n k:Nat)(ss:List Spn)(c:Int)(w:Wv)(hA:bD w A ss)(hn:ss.length=n)(hbig:n<=1099511627776)(hasc:Asc ss):
  Calls prog 169 #[H A n k,I J c,.func (.func 170) #[] #[]] w (BN ss c w):=by
 subst hn;have HS:=G hasc;clear hasc;go_enter func169,ntmps169;go_wp2
 go_loopw [9,10] (fun u v wr=>∃i j:Nat,i<=j/\j<=ss.length/\u=I J i/\v=I J j/\(∀t,(ht:t<ss.length)->t<i->ss[t].hi<c)/\(∀t,(ht:t<ss.length)->j<=t->c<=ss[t].hi)/\By w wr)
  (fun u v _=>(intOf v).toNat-(intOf u).toNat)
 case atStart=>exact⟨0,ss.length,Nat.zero_le _,Nat.le_refl _,rfl,rfl,fun t _ h=>by omega,fun t h1 h2=>by omega,Below.refl _ _⟩
 obtain⟨i,j,hij,hj,rfl,rfl,hlo,hhi,hbel⟩:=hrel;have HLO:=G hlo;have HHI:=G hhi;clear hlo hhi;by_cases hlt:i<j
 ·obtain⟨h,hh,h1,h2,h3⟩:∃h:Nat,((i:Int)+(j:Int))/2=(h:Int)/\i<=h/\h<j/\h<ss.length:=⟨(i+j)/2,by omega,by omega,by omega,by omega⟩
  obtain⟨b,o,rfl,_,hcell⟩:=(hA.below hbel).at h3;obtain⟨c1,c2,c3⟩:=hcell h h3;clear hcell;have HO:=G (fun t(ht:t<ss.length)(hth:t<h)=>(HS.out t h ht h3).2 hth);have HO2:=G (fun t(ht:t<ss.length)(hth:h<t)=>(HS.out h t h3 ht).2 hth);have HO3:=G (fun t(ht:t<ss.length)=>(HS.out t t ht ht).1);have HO4:=G (HS.out h h h3 h3).1;generalize hlo:ss[h].lo=lo at *;generalize hhi:ss[h].hi=hi at *;generalize ss[h].val=v at *;have E1:=G hlo;have E2:=G hhi;have C:=G (uV lo hi v c);clear hlo hhi;by_cases hk:hi<c
  ·have hsc:iO lo hi c=-1:=by unfold iO;rw[if_pos hk]
   rw[hsc]at C;clear hsc;go_wp2_with(go_at_call 170;refine(C.out _).mono ?_;rintro e w1 ⟨rfl,hb1⟩);go_roundw
   case rel=>
    refine⟨h+1,j,by omega,hj,by go_num,rfl,fun t ht g=>?_,HHI.out,hbel.trans (hb1.mono hbel.size)⟩;by_cases e:t=h
    ·subst e;rw[E2.out];exact hk
    have a1:=HO.out t ht (by omega);have a2:=HO4.out;omega
   simp[intOf];omega
  have hsc:0<=iO lo hi c:=by unfold iO;rw[if_neg hk];split<;>omega
  generalize iO lo hi c=sc at *;go_wp2_with(go_at_call 170;refine(C.out _).mono ?_;rintro e w1 ⟨rfl,hb1⟩);go_roundw
  case rel=>
   refine⟨i,h,h1,by omega,rfl,rfl,HLO.out,fun t ht g=>?_,hbel.trans (hb1.mono hbel.size)⟩;by_cases e:t=h
   ·subst e;rw[E2.out];omega
   have a1:=HO2.out t ht (by omega);have a2:=HO3.out t ht;omega
  simp[intOf];omega
 obtain rfl:i=j:=by omega
 by_cases hend:i<ss.length
 ·obtain⟨b,o,rfl,_,hcell⟩:=(hA.below hbel).at hend
  obtain⟨c1,c2,c3⟩:=hcell i hend;clear hcell;have hci:=HHI.out i hend (Nat.le_refl _)
  have HF:=G (show decide (∃h:i<ss.length,ss[i].lo<=c)=(iO ss[i].lo ss[i].hi c==0) by
   rw[Bool.eq_iff_iff];simp only[decide_eq_true_eq,beq_iff_eq];unfold iO;rw[if_neg (by omega)];split
   ·constructor
    ·rintro⟨_,h⟩;omega
    intro h;omega
   ·exact⟨fun _=>rfl,fun _=>⟨hend,by omega⟩⟩)
  clear hci;generalize ss[i].lo=lo at *;generalize ss[i].hi=hi at *;generalize ss[i].val=v at *;have C:=G (uV lo hi v c);generalize iO lo hi c=sc at *;go_wp2_with(go_at_call 170;refine(C.out _).mono ?_;rintro e w1 ⟨rfl,hb1⟩);go_ret2;refine⟨i,_,rfl,⟨hj,HLO.out,HHI.out,?_⟩,hbel.trans (hb1.mono hbel.size)⟩;exact HF.out.symm
 go_wp2_with fail;go_ret2;refine⟨i,_,rfl,⟨hj,HLO.out,HHI.out,?_⟩,hbel⟩;simp[hend]
theorem qH.cls{ss:List Spn}{c:Int}{i:Nat}{f:Bool}(h:qH ss c i f)(hasc:Asc ss):if f=true then ∃hi:i<ss.length,Go.Proofs.YtkhmjidaeliccaaGreatDoor.cls ss c=ss[i].val else Go.Proofs.YtkhmjidaeliccaaGreatDoor.cls ss c=0:=by
 obtain⟨h1,h2,h3,h4⟩:=h;by_cases e:∃g:i<ss.length,ss[i].lo<=c
 ·rw[if_pos (by rw[h4];simpa using e)]
  obtain⟨g,hg⟩:=e;exact⟨g,uX ss c i g hasc hg (h3 i g (Nat.le_refl _))⟩
 rw[if_neg (by rw[h4];simpa using e)];refine qT ss c fun t ht hc=>?_
 by_cases e1:t<i
 ·have:=h2 t ht e1;omega
 by_cases e2:t=i
 ·subst e2;exact e ⟨ht,hc.1⟩
 have hi:i<ss.length:=by omega
 have a1:=(hasc i t hi ht).2 (by omega);have a2:=(hasc i i hi hi).1;exact e ⟨hi,by omega⟩
theorem qQ(A:Oa)(n k:Nat)(ss:List Spn)(c:Int)(w:Wv)(hA:bD w A ss)(hn:ss.length=n)(hbig:n<=1099511627776)(hasc:Asc ss):
  Calls prog 125 #[H A n k,I J c] w (bU (cls ss c) w):=by
 subst hn;have C:=G (EE A ss.length k ss c w hA rfl hbig hasc);have HS:=G hasc;clear hasc;go_enter func125,ntmps125;go_wp2_with fail;refine C.out.mono ?_;rintro e w1 ⟨i,f,rfl,hs,hb1⟩;have h:=hs.cls HS.out;cases f with
 |true=>
  rw[if_pos rfl]at h;obtain⟨hi,hcls⟩:=h;obtain⟨b,o,rfl,_,hcell⟩:=(hA.below hb1).at hi;obtain⟨c1,c2,c3⟩:=hcell i hi;have HC:=G hcls;clear hcell hs hcls;generalize ss[i].val=v at *;go_wp2_with fail;go_ret;exact⟨aQ HC.out.symm,hb1⟩
 |false=>
  rw[if_neg (by simp)]at h;have HC:=G h;clear hs h;go_wp2_with fail;go_ret;exact⟨aQ HC.out.symm,hb1⟩
def cK(w:Wv):Prop:=
 w.cell? ⟨1,0,N⟩=Z (I J 4352)/\w.cell? ⟨1,1,N⟩=Z (I J 4370)/\
 w.cell? ⟨1,2,N⟩=Z (I J 4449)/\w.cell? ⟨1,3,N⟩=Z (I J 4469)/\
 w.cell? ⟨1,4,N⟩=Z (I J 4520)/\w.cell? ⟨1,5,N⟩=Z (I J 4546)/\
 w.cell? ⟨1,6,N⟩=Z (I J 44032)/\w.cell? ⟨1,7,N⟩=Z (I J 55203)
theorem cK.below{w w':Wv}(h:cK w)(hb:By w w'):cK w':=by
 obtain⟨h0,h1,h2,h3,h4,h5,h6,h7⟩:=h
 exact⟨(hb.cell (World.block_lt_of_cell? w _ h0)).trans h0,(hb.cell (World.block_lt_of_cell? w _ h1)).trans h1,(hb.cell (World.block_lt_of_cell? w _ h2)).trans h2,(hb.cell (World.block_lt_of_cell? w _ h3)).trans h3,
  (hb.cell (World.block_lt_of_cell? w _ h4)).trans h4,(hb.cell (World.block_lt_of_cell? w _ h5)).trans h5,(hb.cell (World.block_lt_of_cell? w _ h6)).trans h6,(hb.cell (World.block_lt_of_cell? w _ h7)).trans h7⟩
theorem PN(W:Wv):(Instr.index 222 (.agg #[I J 4352,I J 4370,I J 4449,I J 4469,I J 4520,I J 4546,I J 44032,I J 55203]) (I J 0)).run prog W=.ok (.agg #[I J 4352,I J 4370]) W:=by kernel_rfl
theorem PO(W:Wv):(Instr.index 222 (.agg #[I J 4352,I J 4370,I J 4449,I J 4469,I J 4520,I J 4546,I J 44032,I J 55203]) (I J 1)).run prog W=.ok (.agg #[I J 4449,I J 4469]) W:=by kernel_rfl
theorem PP(W:Wv):(Instr.index 222 (.agg #[I J 4352,I J 4370,I J 4449,I J 4469,I J 4520,I J 4546,I J 44032,I J 55203]) (I J 2)).run prog W=.ok (.agg #[I J 4520,I J 4546]) W:=by kernel_rfl
theorem PQ(W:Wv):(Instr.index 222 (.agg #[I J 4352,I J 4370,I J 4449,I J 4469,I J 4520,I J 4546,I J 44032,I J 55203]) (I J 3)).run prog W=.ok (.agg #[I J 44032,I J 55203]) W:=by kernel_rfl
theorem tN(A:Oa)(n k:Nat)(ss:List Spn)(w:Wv)(hA:bD w A ss)(hn:ss.length=n)(hbig:n<=1099511627776)(hL:cK w):
  Calls prog 139 #[H A n k] w (bU (chk ss) w):=by
 subst hn;go_enter func139,ntmps139;go_wp2;go_loopw [14] (fun u wr=>∃i:Nat,i<=ss.length/\u=I J i/\(∀t,(ht:t<ss.length)->t<i->¬eJ ss[t])/\By w wr) (fun u _=>ss.length-(intOf u).toNat)
 case atStart=>exact⟨0,Nat.zero_le _,rfl,fun t _ h=>by omega,Below.refl _ _⟩
 obtain⟨i,hi,rfl,h1,hbel⟩:=hrel;have H1:=G h1;clear h1;by_cases hlt:i<ss.length
 ·obtain⟨b,o,rfl,hbl,hcell⟩:=(hA.below hbel).at hlt
  obtain⟨c1,c2,c3⟩:=hcell i hlt;clear hcell;have HB:=U (eJ ss[i] ↔ (ss[i].lo<0\/1114111<ss[i].hi\/ss[i].hi<ss[i].lo\/ss[i].val<1\/254<ss[i].val)) Iff.rfl;have HC:=G (fun h=>EY (ss:=ss) hlt h);have HN:=G (fun h=>uE (P:=eJ) hlt H1.out h);generalize eJ ss[i]=Bd at *;generalize ss[i].lo=lo at *;generalize ss[i].hi=hi' at *;generalize ss[i].val=v at *;go_wp2
  all_goals first
   | (go_ret
      exact⟨aQ (HC.out (HB.out.2 (by omega))).symm,hbel.alloc hbel.size _⟩)
   | (go_roundw
      case rel=>exact⟨i+1,by omega,by go_num,HN.out (fun h=>by have:=HB.out.1 h;omega),hbel.alloc hbel.size _⟩
      case measure=>simp[intOf];omega)
 have H1':=G (fun t(ht:t<ss.length)=>H1.out t ht (by omega));clear H1;go_wp2;go_loopw [5] (fun u wr=>∃i:Nat,i<=ss.length/\u=I J ((i:Int)+1)/\(∀t,(ht:t+1<ss.length)->t<i->¬fC ss[t] ss[t+1])/\By w wr) (fun u _=>ss.length+1-(intOf u).toNat)
 case atStart=>exact⟨0,Nat.zero_le _,rfl,fun t _ h=>by omega,hbel⟩
 obtain⟨j,hj,rfl,h2,hbel2⟩:=hrel;have H2:=G h2;clear h2;by_cases hlt2:j+1<ss.length
 ·obtain⟨b,o,rfl,hbl,hcell⟩:=(hA.below hbel2).at hlt2
  obtain⟨c1,c2,c3⟩:=hcell j (by omega);obtain⟨c4,c5,c6⟩:=hcell (j+1) hlt2;clear hcell;have hmax:=H1'.out j (by omega);have hmax2:ss[j].hi<=1114111/\0<=ss[j].hi:=by unfold eJ at hmax;omega
  clear hmax;have HB:=U (fC ss[j] ss[j+1] ↔ (ss[j+1].lo<=ss[j].hi\/(ss[j+1].lo=ss[j].hi+1/\ss[j+1].val=ss[j].val))) Iff.rfl;have HC:=G (fun h=>E_ (ss:=ss) H1'.out hlt2 h);have HN:=G (fun h=>QQ (P:=fC) hlt2 H2.out h);generalize fC ss[j] ss[j+1]=Bd at *;generalize ss[j].lo=lo at *;generalize ss[j].hi=hi' at *;generalize ss[j].val=v at *;generalize ss[j+1].lo=lo2 at *;generalize ss[j+1].hi=hi2 at *;generalize ss[j+1].val=v2 at *;obtain⟨hm1,hm2⟩:=hmax2;by_cases t1:lo2<=hi'
  ·have d1:decide (lo2<=hi')=true:=by simpa using t1
   go_wp2;go_region
   all_goals
    go_wp2;go_ret;exact⟨aQ (HC.out (HB.out.2 (by omega))).symm,by repeat(first|exact hbel2|refine Below.drew ?_|refine Below.alloc ?_ (by have:=hbel2.size;simp;omega) _)⟩
  have d1:decide (lo2<=hi')=false:=by simpa using t1
  by_cases t2:lo2=hi'+1
  ·have d2:(lo2==hi'+1)=true:=by simpa using t2
   by_cases t3:v2=v
   ·have d3:(v2==v)=true:=by simpa using t3
    have HT2:=G t2;have HT3:=G t3;clear t2 t3;go_wp2;go_region
    all_goals
     go_wp2;go_ret;exact⟨aQ (HC.out (HB.out.2 (.inr ⟨HT2.out,HT3.out⟩))).symm,by repeat(first|exact hbel2|refine Below.drew ?_|refine Below.alloc ?_ (by have:=hbel2.size;simp;omega) _)⟩
   have d3:(v2==v)=false:=by simpa using t3
   have HT2:=G t2;have HT3:=G t3;clear t2 t3;go_wp2;go_region
   all_goals
    go_wp2;go_roundw
    case rel=>exact⟨j+1,by omega,by go_num,HN.out (fun h=>by have:=HB.out.1 h;have:=HT3.out;omega),by repeat(first|exact hbel2|refine Below.drew ?_|refine Below.alloc ?_ (by have:=hbel2.size;simp;omega) _)⟩
    simp[intOf];omega
  have d2:(lo2==hi'+1)=false:=by simpa using t2
  have HT2:=G t2;clear t2;go_wp2;go_region
  all_goals
   go_wp2;go_roundw
   case rel=>exact⟨j+1,by omega,by go_num,HN.out (fun h=>by have:=HB.out.1 h;have:=HT2.out;omega),by repeat(first|exact hbel2|refine Below.drew ?_|refine Below.alloc ?_ (by have:=hbel2.size;simp;omega) _)⟩
   simp[intOf];omega
 have H2':=G (fun t(ht:t+1<ss.length)=>H2.out t ht (by omega));clear H2;go_wp2;go_loopw [81] (fun u wr=>∃i:Nat,i<=ss.length/\u=I J i/\(∀t,(ht:t<ss.length)->t<i->¬iU ss[t])/\By w wr) (fun u _=>ss.length-(intOf u).toNat)
 case atStart=>exact⟨0,Nat.zero_le _,rfl,fun t _ h=>by omega,hbel2⟩
 obtain⟨i,hi,rfl,h3,hbel3⟩:=hrel;have H3:=G h3;clear h3;by_cases hlt3:i<ss.length
 ·obtain⟨b,o,rfl,hbl,hcell⟩:=(hA.below hbel3).at hlt3
  obtain⟨c1,c2,c3⟩:=hcell i hlt3;obtain⟨l0,l1,l2,l3,l4,l5,l6,l7⟩:=hL.below hbel3;clear hcell;have hz:1<wr.heap.size:=World.block_lt_of_cell? wr _ l0;have HB:=U (iU ss[i] ↔ ((ss[i].lo<=4370/\4352<=ss[i].hi)\/(ss[i].lo<=4469/\4449<=ss[i].hi)\/(ss[i].lo<=4546/\4520<=ss[i].hi)\/(ss[i].lo<=55203/\44032<=ss[i].hi))) Iff.rfl;have HC:=G (fun h=>EZ (ss:=ss) H1'.out H2'.out hlt3 h);have HN:=G (fun h=>uE (P:=iU) hlt3 H3.out h);generalize iU ss[i]=Bd at *;generalize ss[i].lo=lo at *;generalize ss[i].hi=hi' at *;generalize ss[i].val=v at *;obtain⟨wo,rfl⟩:∃wo:Wv,wo=wr:=⟨_,rfl⟩;go_wp2;have hB9:By w (wo.alloc (.cells #[I J lo,I J hi',I J v] 182)):=hbel3.alloc hbel3.size _
  go_loopw [86] (fun u wr=>∃j:Int,0<=j/\j<=4/\u=I J j/\(0<j->¬(lo<=4370/\4352<=hi'))/\(1<j->¬(lo<=4469/\4449<=hi'))/\(2<j->¬(lo<=4546/\4520<=hi'))/\(3<j->¬(lo<=55203/\44032<=hi'))/\
    Below (wo.heap.size+1) (wo.alloc (.cells #[I J lo,I J hi',I J v] 182)) wr) (fun u _=>4-(intOf u).toNat)
  case atStart=>exact⟨0,by omega,by omega,rfl,by omega,by omega,by omega,by omega,Below.refl _ _⟩
  obtain⟨j,hj0,hj4,rfl,g0,g1,g2,g3,hbw⟩:=hrel;have a0:wr.cell? ⟨wo.heap.size,0,N⟩=Z (I J lo):=(hbw.cell (p:=⟨wo.heap.size,0,N⟩) (by simp)).trans (by simp[World.cell?_alloc_at]);have a1:wr.cell? ⟨wo.heap.size,1,N⟩=Z (I J hi'):=(hbw.cell (p:=⟨wo.heap.size,1,N⟩) (by simp)).trans (by simp[World.cell?_alloc_at]);have hsz:wo.heap.size<wr.heap.size:=by have:=hbw.size;simp at this;omega
  have HBW:=G (hB9.trans (hbw.mono (by have:=hbel3.size;omega)));have HG:=G (And.intro g0 (And.intro g1 (And.intro g2 g3)));clear g0 g1 g2 g3;have x0:=PN;have x1:=PO;have x2:=PP;have x3:=PQ;obtain rfl|rfl|rfl|rfl|rfl:j=0\/j=1\/j=2\/j=3\/j=4:=by omega
  all_goals go_wp2
  all_goals first
   | (go_ret
      exact⟨aQ (HC.out (HB.out.2 (by omega))).symm,HBW.out.alloc (by have:=hbel3.size;omega) _⟩)
   | (go_roundw
      case rel=>exact⟨i+1,by omega,by go_num,HN.out (fun h=>by have h1:=HB.out.1 h;have h2:=HG.out;omega),HBW.out⟩
      case measure=>simp[intOf];omega)
   | (go_roundw
      case rel=>exact⟨1,by omega,by omega,rfl,by have:=HG.out;omega,by have:=HG.out;omega,by have:=HG.out;omega,by have:=HG.out;omega,hbw.alloc (by omega) _⟩
      case measure=>simp[intOf])
   | (go_roundw
      case rel=>exact⟨2,by omega,by omega,rfl,by have:=HG.out;omega,by have:=HG.out;omega,by have:=HG.out;omega,by have:=HG.out;omega,hbw.alloc (by omega) _⟩
      case measure=>simp[intOf])
   | (go_roundw
      case rel=>exact⟨3,by omega,by omega,rfl,by have:=HG.out;omega,by have:=HG.out;omega,by have:=HG.out;omega,by have:=HG.out;omega,hbw.alloc (by omega) _⟩
      case measure=>simp[intOf])
   | (go_roundw
      case rel=>exact⟨4,by omega,by omega,rfl,by have:=HG.out;omega,by have:=HG.out;omega,by have:=HG.out;omega,by have:=HG.out;omega,hbw.alloc (by omega) _⟩
      case measure=>simp[intOf])
 have HC:=G (EW (ss:=ss) H1'.out H2'.out (fun t ht=>H3.out t ht (by omega)));go_wp2;go_ret;exact⟨aQ HC.out.symm,hbel3⟩
def us(ss:List Spn):List Spn:=if chk ss=0 then ss else []
def clz(ss:List Spn)(c:Int):Int:=cls (us ss) c
theorem tJ{ss:List Spn}(h:chk ss=0):us ss=ss:=by unfold us;rw[if_pos h]
theorem tI{ss:List Spn}(h:¬chk ss=0):us ss=[]:=by unfold us;rw[if_neg h]
theorem AD(ss:List Spn):(us ss).length<=ss.length:=by unfold us;split<;>simp
theorem AC(ss:List Spn):Asc (us ss):=by
 by_cases h:chk ss=0
 ·rw[tJ h];exact uI h
 rw[tI h];exact Asc.nil
theorem FQ{ss:List Spn}(h:∀t,(ht:t<ss.length)->¬eJ ss[t])(c:Int):0<=cls ss c/\cls ss c<=254:=by
 induction ss with
 |nil=>simp[cls]
 |cons s r ih=>
  unfold cls;split
  ·have:=h 0 (by simp)
   simp only[List.getElem_cons_zero]at this;unfold eJ at this;omega
  exact ih fun t ht=>by
   have:=h (t+1) (by simpa using ht);simpa using this
theorem FU(ss:List Spn)(c:Int):0<=clz ss c/\clz ss c<=254:=by
 unfold clz;by_cases h:chk ss=0
 ·rw[tJ h];exact FQ (uT h).1 c
 rw[tI h];simp[cls]
def BM(ss:List Spn)(w:Wv)(e:Ending)(w':Wv):Prop:=∃A k,e=.returned (H A ss.length k)/\bD w' A ss/\By w w'
theorem AE(A:Oa)(n k:Nat)(ss:List Spn)(w:Wv)(hA:bD w A ss)(hn:ss.length=n)(hbig:n<=1099511627776)(hL:cK w):
  Calls prog 120 #[H A n k] w (BM (us ss) w):=by
 subst hn;have C:=G (tN A ss.length k ss w hA rfl hbig hL);clear hL;by_cases h:chk ss=0
 ·rw[tJ h]
  rw[h]at C;clear h;go_enter func120,ntmps120;go_wp2_with fail;refine C.out.mono ?_;rintro e w1 ⟨rfl,hb1⟩;go_wp2_with fail;go_ret;exact⟨A,k,rfl,hA.below hb1,hb1⟩
 rw[tI h];have hne:(chk ss !=0)=true:=by simpa using h
 generalize chk ss=z at *;clear h;go_enter func120,ntmps120;go_wp2_with fail;refine C.out.mono ?_;rintro e w1 ⟨rfl,hb1⟩;go_wp2_with fail;go_ret;exact⟨N,0,rfl,Sl.nil _ _,hb1⟩
theorem BS(A:Oa)(n k:Nat)(w:Wv):Calls prog 81 #[H A n k] w fun e w'=>e=.returned (.bool (decide (n<=16)))/\w=w':=by
 go_enter func81,ntmps81;go_wp2_with fail;go_ret;refine⟨cR ?_,rfl⟩;rw[Bool.eq_iff_iff];simp;omega
end
section
def rns(cl:Int->Int):Li->Nat->Option Nat->List (Nat×Nat)
 | [],_,N=>[]
 | [],i,Z s=>[(s,i)]
 |c::r,i,N=>if cl c=0 then rns cl r (i+1) N else rns cl r (i+1) (Z i)
 |c::r,i,Z s=>if cl c=0 then(s,i)::rns cl r (i+1) N else rns cl r (i+1) (Z s)
theorem SV(cl:Int->Int)(l:Li)(i:Nat)(s:Option Nat):(rns cl l i s).length<=l.length+1:=by
 induction l generalizing i s with
 |nil=>cases s<;>simp[rns]
 |cons c r ih=>
  cases s with
  |none=>
   simp only[rns];split
   ·have:=ih (i+1) N;simp;omega
   have:=ih (i+1) (Z i);simp;omega
  |some s=>
   simp only[rns];split
   ·have:=ih (i+1) N;simp;omega
   have:=ih (i+1) (Z s);simp;omega
theorem SW(cl:Int->Int)(l:Li)(i:Nat):(rns cl l i N).length<=l.length:=by
 induction l generalizing i with
 |nil=>simp[rns]
 |cons c r ih=>
  simp only[rns];split
  ·have:=ih (i+1);simp;omega
  have:=SV cl r (i+1) (Z i);simp;omega
def stv:Option Nat->Int
 |none=>-1
 |some s=>s
theorem SX(cl:Int->Int)(l:Li)(k:Nat)(h:k<l.length)(s:Option Nat):
  rns cl (l.drop k) k s=match s with
   |none=>if cl l[k]=0 then rns cl (l.drop (k+1)) (k+1) N else rns cl (l.drop (k+1)) (k+1) (Z k)
   |some s=>if cl l[k]=0 then(s,k)::rns cl (l.drop (k+1)) (k+1) N else rns cl (l.drop (k+1)) (k+1) (Z s):=by
 rw[List.drop_eq_getElem_cons h];cases s<;>rfl
theorem SS(cl:Int->Int)(l:Li)(k:Nat)(h:l.length<=k)(s:Option Nat):rns cl (l.drop k) k s=match s with|none=>[]|some s=>[(s,k)]:=by
 rw[List.drop_eq_nil_of_le h];cases s<;>rfl
end
section
open Go.RowKit
def stB(ms:List Mp):Bool:=(List.range (ms.length-1)).all fun i=>decide (jF ms i<jF ms (i+1))
def dY(m:Mp):Bool:=decide (m.tag.size=0)&&(decide (¬m.toq.length=1)&&decide (¬m.toq.length=2))
def eL(ss:List Spn)(m:Mp):Bool:=decide (¬Hg.kind m.frm=0)||(decide (¬m.tag.size=0)&&decide (¬clz ss m.frm=0))
def dG(ms:List Mp):Bool:=(bZ ms.length (toM ms) (aT ms true) ms.length).all id
def oZ(ms:List Mp)(compat:Bool):Nat->Li
 |0=>List.replicate ms.length 0
 |r+1=>(List.range ms.length).foldl (fV (toM ms) (aT ms compat) dlM aK (dZ ms compat)) (oZ ms compat r)
def nI(ms:List Mp)(compat:Bool):Li:=oZ ms compat ms.length
def fW(ms:List Mp):Bool:=(List.range ms.length).any fun i=>decide (64<(nI ms false).getD i 0)||decide (64<(nI ms true).getD i 0)
def bQ(x:Nrm):Int:=
 if¬chk x.cls=0 then chk x.cls else if¬dI x.dec=0 then dI x.dec else if kL x.exc=false then 11 else if stB x.dec=false then 5
 else if x.dec.any dY=true then 8 else if x.dec.any (eL x.cls)=true then 11 else if dG x.dec=false then 12 else if fW x.dec=true then 13 else 0
structure Ck3(x:Nrm):Prop where
 c:chk x.cls=0
 m:dI x.dec=0
 s:kL x.exc=true
structure Ck4(x:Nrm):Prop extends Ck3 x where
 t:stB x.dec=true
structure Ck5(x:Nrm):Prop extends Ck4 x where
 k:x.dec.any dY=false
structure Ck6(x:Nrm):Prop extends Ck5 x where
 d:x.dec.any (eL x.cls)=false
section
variable {x:Nrm}
theorem xG(h:¬chk x.cls=0):bQ x=chk x.cls:=by unfold bQ;rw[if_pos h]
theorem xI(h:chk x.cls=0)(h2:¬dI x.dec=0):bQ x=dI x.dec:=by unfold bQ;rw[if_neg (by simpa using h),if_pos h2]
theorem xJ(h:chk x.cls=0)(h2:dI x.dec=0)(h3:kL x.exc=false):bQ x=11:=by unfold bQ;rw[if_neg (by simpa using h),if_neg (by simpa using h2),if_pos h3]
theorem Ck3.rest(h:Ck3 x):bQ x=if stB x.dec=false then 5
 else if x.dec.any dY=true then 8 else if x.dec.any (eL x.cls)=true then 11 else if dG x.dec=false then 12 else if fW x.dec=true then 13 else 0:=by
 unfold bQ;rw[if_neg (by simpa using h.c),if_neg (by simpa using h.m),if_neg (by simp[h.s])]
theorem Ck3.twice(h:Ck3 x)(h2:stB x.dec=false):bQ x=5:=by rw[h.rest,if_pos h2]
theorem Ck4.rest(h:Ck4 x):bQ x=if x.dec.any dY=true then 8 else if x.dec.any (eL x.cls)=true then 11 else if dG x.dec=false then 12 else if fW x.dec=true then 13 else 0:=by
 rw[h.toCk3.rest,if_neg (by simp[h.t])]
theorem Ck4.kind(h:Ck4 x)(h2:x.dec.any dY=true):bQ x=8:=by rw[h.rest,if_pos h2]
theorem Ck5.rest(h:Ck5 x):bQ x=if x.dec.any (eL x.cls)=true then 11 else if dG x.dec=false then 12 else if fW x.dec=true then 13 else 0:=by
 rw[h.toCk4.rest,if_neg (by simp[h.k])]
theorem Ck5.data(h:Ck5 x)(h2:x.dec.any (eL x.cls)=true):bQ x=11:=by rw[h.rest,if_pos h2]
theorem Ck6.rest(h:Ck6 x):bQ x=if dG x.dec=false then 12 else if fW x.dec=true then 13 else 0:=by
 rw[h.toCk5.rest,if_neg (by simp[h.d])]
theorem xH(h:bQ x=0):Ck6 x/\dG x.dec=true/\fW x.dec=false:=by
 by_cases h1:chk x.cls=0
 ·by_cases h2:dI x.dec=0
  ·cases h3:kL x.exc with
   |false=>rw[xJ h1 h2 h3]at h;omega
   |true=>
    have c3:Ck3 x:=⟨h1,h2,h3⟩;cases h4:stB x.dec with
    |false=>rw[c3.twice h4]at h;omega
    |true=>
     have c4:Ck4 x:=⟨c3,h4⟩;cases h5:x.dec.any dY with
     |true=>rw[c4.kind h5]at h;omega
     |false=>
      have c5:Ck5 x:=⟨c4,h5⟩;cases h6:x.dec.any (eL x.cls)with
      |true=>rw[c5.data h6]at h;omega
      |false=>
       have c6:Ck6 x:=⟨c5,h6⟩;rw[c6.rest]at h;cases h7:dG x.dec with
       |false=>rw[h7]at h;simp at h
       |true=>
        cases h8:fW x.dec with
        |true=>rw[h7,h8]at h;simp at h
        |false=>exact⟨c6,rfl,rfl⟩
  rw[xI h1 h2]at h;exact absurd h h2
 rw[xG h1]at h;exact absurd h h1
end
theorem yG{ms:List Mp}(h:dI ms=0):dB ms=0:=by
 unfold dI at h;by_cases hp:dB ms=0
 ·exact hp
 rw[if_pos hp]at h;exact h
theorem OJ{ms:List Mp}(h:dI ms=0):eV ms=true:=by
 have hp:=yG h;unfold dI at h;rw[if_neg (by simp[hp])]at h;cases ha:eV ms with
 |true=>rfl
 |false=>rw[ha]at h;by_cases hn:(ms.map bG).Nodup<;>simp[hn]at h
theorem xA{ms:List Mp}(h:dI ms=0):fM ms:=by
 intro i hi;have hm:=List.getElem_mem hi;have hp:=yG h;unfold dB at hp;cases h1:ms.any cQ with
 |true=>rw[h1]at hp;simp at hp
 |false=>
  cases h2:ms.any (fun m=>decide (64<m.toq.length))with
  |true=>rw[h1,h2]at hp;simp at hp
  |false=>
   have a:=List.any_eq_false.1 h1 _ hm;have b:=List.any_eq_false.1 h2 _ hm;unfold cQ inR at a;simp only[Bool.or_eq_true,not_or,Bool.not_eq_true',decide_eq_true_eq,List.any_eq_true,not_exists,not_and]at a b;obtain⟨a1,a2⟩:=a;refine⟨by simpa using a1,by omega,fun e he=>by simpa using a2 e he⟩
theorem uG:∀{ms:List Mp},eV ms=true->∀i,(hi:i+1<ms.length)->ms[i].frm<=ms[i+1].frm
 | [],_,i,hi=>by simp at hi
 | [_],_,i,hi=>by simp at hi
 |a::b::r,h,i,hi=>by
  simp only[eV,Bool.and_eq_true,decide_eq_true_eq]at h;cases i with
  |zero=>
   simp only[List.getElem_cons_zero,List.getElem_cons_succ];have h1:=h.1;unfold jW at h1;split at h1
   ·omega
   split at h1
   ·omega
   omega
  |succ i=>
   have:=uG h.2 i (by simpa using hi);simpa using this
theorem VJ{ms:List Mp}(h:dI ms=0)(hne:∀k,(hk:k+1<ms.length)->¬ms[k+1].frm=ms[k].frm):stB ms=true:=by
 unfold stB;rw[List.all_eq_true];intro i hi;have hi':=List.mem_range.1 hi;have h1:i+1<ms.length:=by omega
 have:=uG (OJ h) i h1;have:=hne i h1;rw[decide_eq_true_eq,fT (by omega),fT h1];omega
theorem mO{ms:List Mp}(h:stB ms=true):StF ms:=by
 have h1:∀i,(hi:i+1<ms.length)->ms[i].frm<ms[i+1].frm:=fun i hi=>by
  unfold stB at h;have:=List.all_eq_true.1 h i (List.mem_range.2 (by omega));rwa[decide_eq_true_eq,fT (by omega),fT hi]at this
 have h2:∀d i,(hi:i+d+1<ms.length)->ms[i].frm<ms[i+d+1].frm:=by
  intro d;induction d with
  |zero=>intro i hi;exact h1 i hi
  |succ d ih=>
   intro i hi;have a:=ih i (by omega);have b:=h1 (i+d+1) (by omega);have:i+(d+1)+1=i+d+1+1:=by omega
   simp only[this];omega
 intro i j hi hj hij;obtain⟨d,rfl⟩:∃d,j=i+d+1:=⟨j-i-1,by omega⟩;exact h2 d i hj
theorem VI{ms:List Mp}{k j:Nat}(hk:k<ms.length)(hj:j<ms.length)(hne:k<j)(h:ms[j].frm=ms[k].frm):stB ms=false:=by
 cases e:stB ms with
 |false=>rfl
 |true=>have:=mO e k j hk hj hne;omega
theorem nV{ss:List Spn}{ms:List Mp}(h:ms.any (eL ss)=false):c_ ms:=fun i hi=>by
 have:=List.any_eq_false.1 h _ (List.getElem_mem hi);unfold eL at this;simp at this;exact this.1
theorem oS{α:Type}(f:α->Nat->α)(n:Nat)(g:Nat->α)(hg:∀r,g (r+1)=(List.range n).foldl f (g r))(r:Nat):((List.replicate r (List.range n)).flatten).foldl f (g 0)=g r:=by
 induction r with
 |zero=>rfl
 |succ r ih=>rw[List.replicate_succ',List.flatten_append,List.foldl_append,ih,hg];simp
theorem vW{ms:List Mp}(hs:StF ms)(compat:Bool):∀e m,aT ms compat e=Z m->aT ms true e=Z m:=fun e m h=>by
 obtain⟨hi,h1,_⟩:=gP h;rw[oN hs hi h1,if_pos (.inl rfl)]
theorem nJ{ms:List Mp}(hs:StF ms)(hh:c_ ms)(he:dG ms=true)(compat:Bool):∀i,(hi:i<ms.length)->Sz (onM ms compat) aK ms[i].frm ((nI ms compat).getD i 0):=by
 intro i hi
 have hfl:∀j∈(List.replicate ms.length (List.range ms.length)).flatten,j<ms.length:=fun j hj=>by
  obtain⟨l,h1,h2⟩:=List.mem_flatten.1 hj;rw[List.eq_of_mem_replicate h1]at h2;exact List.mem_range.1 h2
 have h0:=TF (xC hs hh compat) (vW hs compat) (List.replicate ms.length (List.range ms.length)).flatten hfl i hi;have e1:=oS (aX (toM ms) (aT ms true)) ms.length (bZ ms.length (toM ms) (aT ms true)) (fun _=>rfl) ms.length;have e2:=oS (fV (toM ms) (aT ms compat) dlM aK (dZ ms compat)) ms.length (oZ ms compat) (fun _=>rfl) ms.length;simp only[bZ,oZ]at e1 e2;rw[e1,e2]at h0;have hl:=(mE ms.length (toM ms) (aT ms true) ms.length).1;have:(bZ ms.length (toM ms) (aT ms true) ms.length).getD i false=true:=by
  unfold dG at he;have hi':i<(bZ ms.length (toM ms) (aT ms true) ms.length).length:=by rw[hl];exact hi
  have:=List.all_eq_true.1 he _ (List.getElem_mem hi');simpa[List.getD,hi']using this
 obtain⟨v,h1,h2⟩:=h0 this;rw[fT hi]at h1;unfold nI;rw[h2];exact h1
theorem IE{ms:List Mp}(hs:StF ms)(hh:c_ ms)(h:∀i,(hi:i<ms.length)->∃v,Sz (onM ms true) aK ms[i].frm v):dG ms=true:=by
 unfold dG;rw[List.all_eq_true];intro b hb;obtain⟨i,hi,rfl⟩:=List.getElem_of_mem hb;have hl:=(mE ms.length (toM ms) (aT ms true) ms.length).1;have hi':i<ms.length:=by rw[hl]at hi;exact hi
 have:=SL (n:=ms.length) (toq:=toM ms) (fnd:=aT ms true) (frm:=jF ms) (on:=onM ms true) (cap:=aK) (fun i hi=>by rw[fT hi,mB hs hh true hi,if_pos (.inl rfl),mH hi]) (xC hs hh true).fd (fun i hi=>by rw[fT hi];exact h i hi) i hi';simpa[List.getD,hi]using this
theorem BZ{ms:List Mp}(hs:StF ms)(hh:c_ ms)(he:dG ms=true)(x:Int):∃v,Sz (onM ms true) aK x v:=by
 cases hf:aT ms true x with
 |none=>exact⟨_,qL hh true hf⟩
 |some i=>
  obtain⟨hi,h1,_⟩:=gP hf;subst h1;exact⟨_,nJ hs hh he true i hi⟩
theorem iW.cyc{ms:List Mp}{cyc lng:Bool}(h:iW ms cyc lng)(hs:StF ms)(hh:c_ ms):cyc=!dG ms:=by
 cases hc:cyc with
 |false=>rw[IE hs hh (h.ends hc)];rfl
 |true=>
  cases he:dG ms with
  |false=>rfl
  |true=>
   obtain⟨x,hp⟩:=h.cy hc;obtain⟨v,hv⟩:=BZ hs hh he x;exact absurd hp hv.noway
theorem iW.lng{ms:List Mp}{cyc lng:Bool}(h:iW ms cyc lng)(hs:StF ms)(hh:c_ ms)(he:dG ms=true):lng=fW ms:=by
 have hc:cyc=false:=by rw[h.cyc hs hh,he];rfl
 rw[Bool.eq_iff_iff,h.lg hc];unfold fW;rw[List.any_eq_true];constructor
 ·rintro⟨i,hi,v,h1,h2⟩
  refine⟨i,List.mem_range.2 hi,?_⟩;have:=h1.func (nJ hs hh he true i hi);rw[<-this];unfold mxE at h2;simp[h2]
 rintro⟨i,hi,h1⟩;have hi':=List.mem_range.1 hi;have ht:=nJ hs hh he true i hi';refine⟨i,hi',_,ht,?_⟩;rw[Bool.or_eq_true,decide_eq_true_eq,decide_eq_true_eq]at h1;rcases h1 with h1|h1
 ·obtain⟨u,g1,g2⟩:=B_ hs ht
  have:=g1.func (nJ hs hh he false i hi');unfold mxE;omega
 exact h1
theorem yQ(cl:Int->Int):∀(l:Li)(i:Nat),(∀c∈l,cl c=0)->rns cl l i N=[]
 | [],_,_=>rfl
 |c::l,i,h=>by
  have h1:=h c (by simp);have:=yQ cl l (i+1) (fun c hc=>h c (by simp[hc]));simp[rns,h1,this]
theorem yR(cl:Int->Int):∀(l:Li)(i s:Nat),rns cl l i (Z s)≠[]
 | [],_,_=>by simp[rns]
 |c::l,i,s=>by
  have h1:=yR cl l (i+1) s;simp only[rns];split
  ·simp
  exact h1
theorem yP(cl:Int->Int):∀(l:Li)(i:Nat),rns cl l i N=[]->∀c∈l,cl c=0
 | [],_,_,_,h=>by cases h
 |c::l,i,hr,d,hd=>by
  simp only[rns]at hr;split at hr
  ·next h0=>
   rcases List.mem_cons.1 hd with rfl|hd
   ·exact h0
   exact yP cl l (i+1) hr d hd
  exact absurd hr (yR cl l (i+1) i)
def eC(ms:List Mp):Li:=(ms.filter (fun m=>decide (¬m.tag.size=0))).map Mp.frm
theorem GU{ss:List Spn}{ms:List Mp}(hh:∀t,(ht:t<ms.length)->Hg.kind ms[t].frm=0)(hr:rns (clz ss) (eC ms) 0 N=[]):ms.any (eL ss)=false:=by
 rw[List.any_eq_false];intro m hm;obtain⟨i,hi,rfl⟩:=List.getElem_of_mem hm;unfold eL;by_cases ht:ms[i].tag.size=0
 ·simp[hh i hi,ht]
 have:=yP _ _ _ hr ms[i].frm (List.mem_map.2 ⟨ms[i],List.mem_filter.2 ⟨hm,by simpa using ht⟩,rfl⟩);simp[hh i hi,this]
theorem GV{ss:List Spn}{ms:List Mp}(hr:¬rns (clz ss) (eC ms) 0 N=[]):ms.any (eL ss)=true:=by
 cases h:ms.any (eL ss)with
 |true=>rfl
 |false=>
  refine absurd (yQ _ _ _ fun c hc=>?_) hr;obtain⟨m,hm,rfl⟩:=List.mem_map.1 hc;obtain⟨h1,h2⟩:=List.mem_filter.1 hm;have:=List.any_eq_false.1 h m h1;unfold eL at this;simp at this h2;exact this.2 h2
theorem GT{ss:List Spn}{ms:List Mp}{t:Nat}(ht:t<ms.length)(h:¬Hg.kind ms[t].frm=0):ms.any (eL ss)=true:=List.any_eq_true.2 ⟨_,List.getElem_mem ht,by unfold eL;simp[h]⟩
theorem VZ{ms:List Mp}{i:Nat}(hi:i<ms.length):eC (ms.take (i+1))=eC (ms.take i)++if ms[i].tag.size=0 then []else [ms[i].frm]:=by
 unfold eC;rw[List.take_succ_eq_append_getElem hi,List.filter_append,List.map_append];congr 1;by_cases h:ms[i].tag.size=0
 ·rw[if_pos h,List.filter_cons_of_neg (by rw[decide_eq_true_eq];exact fun g=>g h)];rfl
 rw[if_neg h,List.filter_cons_of_pos (by rw[decide_eq_true_eq];exact h)];rfl
theorem zK(ms:List Mp):(eC ms).length<=ms.length:=by unfold eC;rw[List.length_map];exact List.length_filter_le _ _
end
section
open Go.RowKit Go.Shelf
attribute [local go_sem] Oper.semAt_some
def fO(n₀ bo:Nat)(W W':Wv):Prop:=W.heap.size<=W'.heap.size/\∀k,k<n₀->k≠bo->W'.heap[k]?=W.heap[k]?
theorem fO.refl(n₀ bo:Nat)(W:Wv):fO n₀ bo W W:=⟨Nat.le_refl _,fun _ _ _=>rfl⟩
theorem fO.trans{n₀ bo:Nat}{A B C:Wv}(h:fO n₀ bo A B)(g:fO n₀ bo B C):fO n₀ bo A C:=⟨Nat.le_trans h.1 g.1,fun k hk hne=>(g.2 k hk hne).trans (h.2 k hk hne)⟩
theorem fO.cell{n₀ bo:Nat}{W W':Wv}(h:fO n₀ bo W W'){p:Addr}(h1:p.block<n₀)(h2:p.block≠bo):W'.cell? p=W.cell? p:=World.cell?_of_block (w:=W) (h.2 p.block h1 h2)
def gU(n₀ bo:Nat)(A:Oa):Prop:=∀b o,A=Z ⟨b,o,N⟩->b<n₀/\b≠bo
theorem Sl.keepX{n₀ bo:Nat}{W W':Wv}{A:Oa}{cs:Lv}(h:Sl W A cs)(hk:fO n₀ bo W W')(hw:cs≠[]->gU n₀ bo A):Sl W' A cs:=by
 intro hne;obtain⟨b,o,rfl,hc⟩:=h hne;obtain⟨h1,h2⟩:=hw hne b o rfl;exact⟨b,o,rfl,fun j u hu=>(hk.cell (p:=⟨b,o+j,N⟩) h1 h2).trans (hc j u hu)⟩
structure Mem(Bt Bs:Nat)(A:Oa)(nt kt:Nat)(text:Li)(A':Oa)(ns ks:Nat)(ss:List Spn)(W:Wv):Prop where
 bt:W.cell? ⟨Bt,0,N⟩=Z (H A nt kt)
 bs:W.cell? ⟨Bs,0,N⟩=Z (H A' ns ks)
 tx:aB W A text
 sp:bD W A' ss
theorem Mem.below{Bt Bs:Nat}{A:Oa}{nt kt:Nat}{text:Li}{A':Oa}{ns ks:Nat}{ss:List Spn}{W W':Wv}(h:Mem Bt Bs A nt kt text A' ns ks ss W)(hb:By W W'):Mem Bt Bs A nt kt text A' ns ks ss W':=
 ⟨(hb.cell (World.block_lt_of_cell? W _ h.bt)).trans h.bt,(hb.cell (World.block_lt_of_cell? W _ h.bs)).trans h.bs,h.tx.below hb,h.sp.below hb⟩
theorem Mem.keepX{n₀ bo Bt Bs:Nat}{A:Oa}{nt kt:Nat}{text:Li}{A':Oa}{ns ks:Nat}{ss:List Spn}{W W':Wv}(h:Mem Bt Bs A nt kt text A' ns ks ss W)(hk:fO n₀ bo W W')
  (h1:Bt<n₀/\Bt≠bo) (h2:Bs<n₀/\Bs≠bo) (h3:text≠[]->gU n₀ bo A) (h4:ss≠[]->gU n₀ bo A'):Mem Bt Bs A nt kt text A' ns ks ss W':=
 ⟨(hk.cell (p:=⟨Bt,0,N⟩) h1.1 h1.2).trans h.bt,(hk.cell (p:=⟨Bs,0,N⟩) h2.1 h2.2).trans h.bs,Sl.keepX h.tx hk (fun hne=>h3 (by rintro rfl;exact hne rfl)),Sl.keepX h.sp hk (fun hne=>h4 (by rintro rfl;exact hne rfl))⟩
def lS(x:Nat×Nat):Array Value:=#[.agg #[I J (x.1:Int),I J (x.2:Int)]]
theorem AV{α:Type}{J:List α->Wv->Prop}{B:Nat}(h:AbidesFrom B J){pre:List α}{W W':Wv}(hJ:J pre W)(hb:By W W'):J pre W':=
 h pre W W' N hJ ⟨hb.os,hb.tape,hb.output,hb.size,fun k hk _=>hb.block k hk⟩ (fun r e=>by cases e)
def BQ{α:Type}(all:List α)(J Jx:List α->Wv->Prop)(e:Ending)(W':Wv):Prop:=(∃v,e=.returned v)/\((∃ys,ys=all/\J ys W')\/(∃pre,pre <+: all/\Jx pre W'))
theorem TL{α:Type}(f:α->Nat×Nat)(n:Nat)(hn1:1<=n)(l n₀ bo Bt Bs:Nat)(A:Oa)(nt kt:Nat)(text:Li)(A':Oa)(ns ks:Nat)(ss:List Spn)(all:List α)
  (hall:all.map f=rns (cls ss) text 0 N) (hnt:text.length=nt) (hns:ss.length=ns) (hb1:nt<=1099511627776) (hb2:ns<=1099511627776) (hasc:Asc ss)
  (h1:Bt<n₀/\Bt≠bo) (h2:Bs<n₀/\Bs≠bo) (h3:text≠[]->gU n₀ bo A) (h4:ss≠[]->gU n₀ bo A')
  (J Jx:List α->Wv->Prop) (B:Nat) (hJ:AbidesFrom B J)
  (hY:∀pre x W,J pre W->pre.length<all.length->YieldAt Fence.wide (n-1) prog l (lS (f x)) W fun e W'=>
   (e=.returned (.bool true)/\J (pre++[x]) W'/\fO n₀ bo W W')\/(e=.returned (.bool false)/\Jx (pre++[x]) W'))
  (W:Wv) (hM:Mem Bt Bs A nt kt text A' ns ks ss W) (h0:J [] W) :
  CallsIn Fence.wide n prog 166 #[.func (.yield l) #[] #[],.pointer (Z ⟨Bt,0,N⟩),.pointer (Z ⟨Bs,0,N⟩)] W (BQ all J Jx):=by
 subst hnt hns;have HALL:=G hall;have HA:=G hasc;have HY:=G hY;have HJ:=G hJ;have H3:=G h3;have H4:=G h4;clear hall hasc hY hJ h3 h4;have cbt:=hM.bt;have cbs:=hM.bs;refine callsIn_of_wp func166 rfl trivial ?_ rfl;simp only[ntmps166,List.size_toArray,List.length_cons,List.length_nil,Nat.reduceAdd,Nat.reduceSub,Array.replicate_succ,Array.replicate_zero,List.push_toArray,List.append_toArray,List.nil_append,List.cons_append];gi_wp2
 gi_loopw [4,10] (fun u i wr=>∃(k:Nat)(s:Option Nat)(pre rest:List α),k<=text.length/\i=.int .i64 k/\u=.int .i64 (stv s)/\(pre++rest=all/\rest.map f=rns (cls ss) (text.drop k) k s)/\(∀x,s=Z x->x<=k)/\J pre wr/\Mem Bt Bs A text.length kt text A' ss.length ks ss wr)
  (fun _ i _=>text.length-(intOf i).toNat)
 case atStart=>exact⟨0,N,[],all,Nat.zero_le _,rfl,rfl,⟨rfl,HALL.out⟩,(fun _ h=>by cases h),h0,hM⟩
 obtain⟨k,s,pre,rest,hk,rfl,rfl,⟨hpre,hrest⟩,hs,hJ1,hM1⟩:=hrel;have HP:=G hpre;have HT:=G hrest;clear hrest;have HS:=G hs;clear hpre hs;by_cases hlt:k<text.length
 ·obtain⟨b,o,rfl,hcell⟩:=hM1.tx.at hlt
  have c1:=hcell k hlt;have c2:=hM1.bs;clear hcell;have HR:=G (SX (cls ss) text k hlt s);generalize text[k]=c at *;gi_wp2_with fail;refine⟨trivial,(callsIn_wide.2 (qQ A' ss.length ks ss c wr hM1.sp rfl hb2 HA.out)).mono ?_⟩;rintro e w1 ⟨rfl,hbw⟩;have hM2:=hM1.below hbw;have hJ2:=AV HJ.out hJ1 hbw;clear hM1 hJ1 hbw c1 c2;by_cases hz:cls ss c=0
  ·have hzb:(cls ss c==0)=true:=by simpa using hz
   cases s with
   |none=>
    have HR':=G (HR.out.trans (show _=_ from if_pos hz));clear HR hz;generalize cls ss c=z at *;simp only[stv];gi_wp2;go_roundw
    case rel=>exact⟨k+1,N,pre,rest,by omega,by go_num,rfl,⟨HP.out,HT.out.trans HR'.out⟩,(fun _ h=>by cases h),hJ2,hM2⟩
    simp[intOf];omega
   |some s=>
    have HR':=G (HR.out.trans (show _=_ from if_pos hz));clear HR hz;generalize cls ss c=z at *;simp only[stv]
    obtain⟨x,rest',hx,hfx,hrest'⟩:∃x rest',rest=x::rest'/\f x=(s,k)/\rest'.map f=rns (cls ss) (text.drop (k+1)) (k+1) N:=by
     have:=HT.out.trans HR'.out;cases rest with
     |nil=>cases this
     |cons x r=>simp only[List.map_cons,List.cons.injEq]at this;exact⟨x,r,rfl,this.1,this.2⟩
    have HPX:=G (show(pre++[x])++rest'=all by rw[<-HP.out,hx];simp);have HTX:=G hrest';have hlen:pre.length<all.length:=by rw[<-HP.out,hx];simp
    have hy0:=HY.out pre x w1 hJ2 hlen;rw[hfx]at hy0;clear hx hfx hrest';unfold lS at hy0;obtain⟨fn,tmps,assign,body,hy,hR⟩:=hy0;dsimp only at hy;have HRR:=G hR;clear hR hlen;gi_wp2;refine HRR.out.mono ?_;rintro e W3 (⟨rfl,hJ3,hk3⟩|⟨rfl,hJx3⟩)
    ·have hM3:=hM2.keepX hk3 h1 h2 H3.out H4.out
     clear hM2 hJ2 hy HRR;gi_wp2;go_roundw
     case rel=>exact⟨k+1,N,pre++[x],rest',by omega,by go_num,rfl,⟨HPX.out,HTX.out⟩,(fun _ h=>by cases h),hJ3,hM3⟩
     simp[intOf];omega
    gi_wp2;refine bodyPost_ret (results_none rfl _ _ _) rfl ?_;exact⟨⟨_,rfl⟩,.inr ⟨pre++[x],⟨rest',HPX.out⟩,hJx3⟩⟩
  have hzb:(cls ss c==0)=false:=by simpa using hz
  cases s with
  |none=>
   have HR':=G (HR.out.trans (show _=_ from if_neg hz));clear HR hz;generalize cls ss c=z at *;simp only[stv];gi_wp2;go_roundw
   case rel=>exact⟨k+1,Z k,pre,rest,by omega,by go_num,rfl,⟨HP.out,HT.out.trans HR'.out⟩,(fun x h=>by cases h;omega),hJ2,hM2⟩
   simp[intOf];omega
  |some s=>
   have HR':=G (HR.out.trans (show _=_ from if_neg hz));clear HR hz;generalize cls ss c=z at *;simp only[stv];gi_wp2;go_roundw
   case rel=>exact⟨k+1,Z s,pre,rest,by omega,by go_num,rfl,⟨HP.out,HT.out.trans HR'.out⟩,(fun x h=>by have:=HS.out x h;omega),hJ2,hM2⟩
   simp[intOf];omega
 have HE:=G (SS (cls ss) text k (by omega) s);have cb:=hM1.bt;cases s with
 |none=>
  simp only[stv];gi_wp2;go_end0;have hr0:rest=[]:=by have:=HT.out.trans HE.out;simpa using this
  exact⟨⟨_,rfl⟩,.inl ⟨pre,by rw[<-HP.out,hr0];simp,hJ1⟩⟩
 |some s=>
  obtain rfl:k=text.length:=by omega
  simp only[stv]
  obtain⟨x,hx,hfx⟩:∃x,rest=[x]/\f x=(s,text.length):=by
   have:=HT.out.trans HE.out;cases rest with
   |nil=>cases this
   |cons x r=>simp only[List.map_cons,List.cons.injEq,List.map_eq_nil_iff]at this;exact⟨x,by rw[this.2],this.1⟩
  have HPX:=G (show pre++[x]=all by rw[<-HP.out,hx]);have hlen:pre.length<all.length:=by rw[<-HPX.out];simp
  have hy0:=HY.out pre x wr hJ1 hlen;rw[hfx]at hy0;clear hx hfx;unfold lS at hy0;obtain⟨fn,tmps,assign,body,hy,hR⟩:=hy0;dsimp only at hy;have HRR:=G hR;clear hR hlen;gi_wp2;refine HRR.out.mono ?_;rintro e W3 (⟨rfl,hJ3,hk3⟩|⟨rfl,hJx3⟩)
  ·gi_wp2
   go_end0;exact⟨⟨_,rfl⟩,.inl ⟨pre++[x],HPX.out,hJ3⟩⟩
  gi_wp2;go_end0;exact⟨⟨_,rfl⟩,.inr ⟨pre++[x],⟨[],by rw[List.append_nil];exact HPX.out⟩,hJx3⟩⟩
theorem yX{α:Type}(f:α->Nat×Nat)(n:Nat)(hn1:1<=n)(n₀ bo Bt Bs:Nat)(A:Oa)(nt kt:Nat)(text:Li)(A':Oa)(ns ks:Nat)(ss:List Spn)(all:List α)(w:Wv)
  (hall:all.map f=rns (cls ss) text 0 N) (hnt:text.length=nt) (hns:ss.length=ns) (hb1:nt<=1099511627776) (hb2:ns<=1099511627776) (hasc:Asc ss)
  (h1:Bt<n₀/\Bt≠bo) (h2:Bs<n₀/\Bs≠bo) (h3:text≠[]->gU n₀ bo A) (h4:ss≠[]->gU n₀ bo A') (hM:Mem Bt Bs A nt kt text A' ns ks ss w) :
  SeqStopsK Fence.wide n prog 166 #[.pointer (Z ⟨Bt,0,N⟩),.pointer (Z ⟨Bs,0,N⟩)] (fun x=>lS (f x)) (fO n₀ bo) (fun ys=>ys=all) (fun pre=>pre <+: all) all.length w:=
 fun l J Jx W hW hJ _ hY h0=>TL f n hn1 l n₀ bo Bt Bs A nt kt text A' ns ks ss all hall hnt hns hb1 hb2 hasc h1 h2 h3 h4 J Jx _ hJ hY W (hM.below hW) h0
theorem yW(A:Oa)(nt kt:Nat)(A':Oa)(ns ks:Nat)(w:Wv):
  Calls prog 121 #[H A' ns ks,H A nt kt] w fun e w'=>
   e=.returned (.func (.func 166) #[] #[.pointer (Z ⟨w.heap.size+1,0,N⟩),.pointer (Z ⟨w.heap.size,0,N⟩)])/\
   (w.alloc (.cells #[H A' ns ks] 22)).alloc (.cells #[H A nt kt] 33)=w':=by
 go_enter func121,ntmps121;go_wp2;go_ret;exact⟨rfl,rfl⟩
end
end Go.Proofs.YtkhmjidaeliccaaGreatDoor
