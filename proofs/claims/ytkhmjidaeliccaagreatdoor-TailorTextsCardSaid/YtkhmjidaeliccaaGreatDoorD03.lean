import Derived.Test.YtkhmjidaeliccaaGreatDoorD00
import Derived.Test.YtkhmjidaeliccaaGreatDoorD01
import Derived.Test.YtkhmjidaeliccaaGreatDoorD02
import Derived.WalkLawsBesides
import Derived.DeepKeys4
import Derived.RegionTactic
import Derived.BigRegion
import Derived.StillTailTactics
import Derived.Deep.RegionWith
import Derived.Outline
import Derived.IntWalk
set_option maxRecDepth 100000
set_option maxHeartbeats 51200000
namespace Go.Proofs.YtkhmjidaeliccaaGreatDoor
open Option renaming none->N,some->Z
open Value renaming int->I,slice->H
open IntKind renaming i64->J
open Go.Proofs.Tryz
section
open Go.RowKit Go.Maps Go.WideMaps
theorem xB(s:ByteArray)(w:Wv)(hs:s.size<=9223372036854775807):
  Calls prog 194 #[.string s] w fun e w'=>e=.returned (.bool (bW s))/\w=w':=by
 by_cases h1:s.size=0
 ·have h0:s.toList=[]:=kN h1
  have hn:bW s=false:=by unfold bW;simp[h1]
  rw[hn];go_enter func194,ntmps194;go_wp2;go_ret;exact⟨rfl,rfl⟩
 have h0:¬s.toList=[]:=kM h1;have h0':s.toList.isEmpty=false:=by simpa using h0
 by_cases h2:32<s.size
 ·have hn:bW s=false:=by
   unfold bW;have:¬s.size<=32:=by omega
   simp[this]
  rw[hn];have q1:decide ((32:Int)<(s.size:Int))=true:=by simp;omega
  go_enter func194,ntmps194;go_wp2;go_ret;exact⟨rfl,rfl⟩
 have q1:decide ((32:Int)<(s.size:Int))=false:=by simp;omega
 have HB0:=G (fun k(hk:k<s.size)h=>sG hk h);have HF:=G (fun h=>show bW s=true by rw[sF (s:=s) h,decide_eq_true (show 1<=s.size by omega),decide_eq_true (show s.size<=32 by omega)];rfl);generalize bW s=R at *;go_enter func194,ntmps194;go_wp2;go_loop [15] (fun i=>∃k:Nat,k<=s.size/\i=I J k/\∀j,(hj:j<s.size)->j<k->nmc (s[j].toNat:Int)) (fun i=>s.size-(intOf i).toNat)
 case atStart=>exact⟨0,Nat.zero_le _,rfl,fun j _ h=>by omega⟩
 obtain⟨k,hk,rfl,hall⟩:=hrel;have HA:=G hall;clear hall;by_cases hlt:k<s.size
 ·have HB:=G (fun h=>HB0.out k hlt h)
  have HN:=G (fun(h:nmc (s[k].toNat:Int))=>show ∀j,(hj:j<s.size)->j<k+1->nmc (s[j].toNat:Int)from fun j hj hj2=>by
   by_cases e:j<k
   ·exact HA.out j hj e
   ·obtain rfl:j=k:=by omega
    exact h)
  have HD:=U (nmc (s[k].toNat:Int) ↔ ((65<=(s[k].toNat:Int)/\(s[k].toNat:Int)<=90)\/(97<=(s[k].toNat:Int)/\(s[k].toNat:Int)<=122)\/(48<=(s[k].toNat:Int)/\(s[k].toNat:Int)<=57)\/(s[k].toNat:Int)=95)) Iff.rfl;have hlt8:=s[k].toNat_lt;obtain⟨hc1,hc2⟩|⟨hc1,hc2⟩|⟨hc1,hc2⟩|⟨hc1,hc2⟩|⟨hc1,hc2⟩|⟨hc1,hc2⟩|⟨hc1,hc2⟩|⟨hc1,hc2⟩|⟨hc1,hc2⟩:(0<=(s[k].toNat:Int)/\(s[k].toNat:Int)<=47)\/(48<=(s[k].toNat:Int)/\(s[k].toNat:Int)<=57)\/(58<=(s[k].toNat:Int)/\(s[k].toNat:Int)<=64)\/(65<=(s[k].toNat:Int)/\(s[k].toNat:Int)<=90)\/(91<=(s[k].toNat:Int)/\(s[k].toNat:Int)<=94)\/(95<=(s[k].toNat:Int)/\(s[k].toNat:Int)<=95)\/(96<=(s[k].toNat:Int)/\(s[k].toNat:Int)<=96)\/(97<=(s[k].toNat:Int)/\(s[k].toNat:Int)<=122)\/(123<=(s[k].toNat:Int)/\(s[k].toNat:Int)<=255):=by omega
  ·have hd1:decide (65<=(s[k].toNat:Int))=false:=decide_eq_false (by omega)
   have hd2:decide (97<=(s[k].toNat:Int))=false:=decide_eq_false (by omega);have hd3:decide (48<=(s[k].toNat:Int))=false:=decide_eq_false (by omega);have hd4:decide ((s[k].toNat:Int)<=90)=true:=decide_eq_true (by omega);have hd5:decide ((s[k].toNat:Int)<=122)=true:=decide_eq_true (by omega);have hd6:decide ((s[k].toNat:Int)<=57)=true:=decide_eq_true (by omega);have hc3:((s[k].toNat:Int)!=95)=true:=bne_iff_ne.2 (by omega);have HY:=G (HB.out (fun h=>by have h9:=HD.out.1 h;omega));go_wp2;go_ret;exact⟨cR HY.out.symm,rfl⟩
  ·have hd1:decide (65<=(s[k].toNat:Int))=false:=decide_eq_false (by omega)
   have hd2:decide (97<=(s[k].toNat:Int))=false:=decide_eq_false (by omega);have hd3:decide (48<=(s[k].toNat:Int))=true:=decide_eq_true (by omega);have hd4:decide ((s[k].toNat:Int)<=90)=true:=decide_eq_true (by omega);have hd5:decide ((s[k].toNat:Int)<=122)=true:=decide_eq_true (by omega);have hd6:decide ((s[k].toNat:Int)<=57)=true:=decide_eq_true (by omega);have hc3:((s[k].toNat:Int)!=95)=true:=bne_iff_ne.2 (by omega);have HY:=G (HN.out (HD.out.2 (by omega)));go_wp2;go_round
   case rel=>exact⟨k+1,by omega,by go_num,HY.out⟩
   simp[intOf];omega
  ·have hd1:decide (65<=(s[k].toNat:Int))=false:=decide_eq_false (by omega)
   have hd2:decide (97<=(s[k].toNat:Int))=false:=decide_eq_false (by omega);have hd3:decide (48<=(s[k].toNat:Int))=true:=decide_eq_true (by omega);have hd4:decide ((s[k].toNat:Int)<=90)=true:=decide_eq_true (by omega);have hd5:decide ((s[k].toNat:Int)<=122)=true:=decide_eq_true (by omega);have hd6:decide ((s[k].toNat:Int)<=57)=false:=decide_eq_false (by omega);have hc3:((s[k].toNat:Int)!=95)=true:=bne_iff_ne.2 (by omega);have HY:=G (HB.out (fun h=>by have h9:=HD.out.1 h;omega));go_wp2;go_ret;exact⟨cR HY.out.symm,rfl⟩
  ·have hd1:decide (65<=(s[k].toNat:Int))=true:=decide_eq_true (by omega)
   have hd2:decide (97<=(s[k].toNat:Int))=false:=decide_eq_false (by omega);have hd3:decide (48<=(s[k].toNat:Int))=true:=decide_eq_true (by omega);have hd4:decide ((s[k].toNat:Int)<=90)=true:=decide_eq_true (by omega);have hd5:decide ((s[k].toNat:Int)<=122)=true:=decide_eq_true (by omega);have hd6:decide ((s[k].toNat:Int)<=57)=false:=decide_eq_false (by omega);have hc3:((s[k].toNat:Int)!=95)=true:=bne_iff_ne.2 (by omega);have HY:=G (HN.out (HD.out.2 (by omega)));go_wp2;go_round
   case rel=>exact⟨k+1,by omega,by go_num,HY.out⟩
   simp[intOf];omega
  ·have hd1:decide (65<=(s[k].toNat:Int))=true:=decide_eq_true (by omega)
   have hd2:decide (97<=(s[k].toNat:Int))=false:=decide_eq_false (by omega);have hd3:decide (48<=(s[k].toNat:Int))=true:=decide_eq_true (by omega);have hd4:decide ((s[k].toNat:Int)<=90)=false:=decide_eq_false (by omega);have hd5:decide ((s[k].toNat:Int)<=122)=true:=decide_eq_true (by omega);have hd6:decide ((s[k].toNat:Int)<=57)=false:=decide_eq_false (by omega);have hc3:((s[k].toNat:Int)!=95)=true:=bne_iff_ne.2 (by omega);have HY:=G (HB.out (fun h=>by have h9:=HD.out.1 h;omega));go_wp2;go_ret;exact⟨cR HY.out.symm,rfl⟩
  ·have hd1:decide (65<=(s[k].toNat:Int))=true:=decide_eq_true (by omega)
   have hd2:decide (97<=(s[k].toNat:Int))=false:=decide_eq_false (by omega);have hd3:decide (48<=(s[k].toNat:Int))=true:=decide_eq_true (by omega);have hd4:decide ((s[k].toNat:Int)<=90)=false:=decide_eq_false (by omega);have hd5:decide ((s[k].toNat:Int)<=122)=true:=decide_eq_true (by omega);have hd6:decide ((s[k].toNat:Int)<=57)=false:=decide_eq_false (by omega);have hc3:((s[k].toNat:Int)!=95)=false:=bne_eq_false_iff_eq.2 (by omega);have HY:=G (HN.out (HD.out.2 (by omega)));go_wp2;go_round
   case rel=>exact⟨k+1,by omega,by go_num,HY.out⟩
   simp[intOf];omega
  ·have hd1:decide (65<=(s[k].toNat:Int))=true:=decide_eq_true (by omega)
   have hd2:decide (97<=(s[k].toNat:Int))=false:=decide_eq_false (by omega);have hd3:decide (48<=(s[k].toNat:Int))=true:=decide_eq_true (by omega);have hd4:decide ((s[k].toNat:Int)<=90)=false:=decide_eq_false (by omega);have hd5:decide ((s[k].toNat:Int)<=122)=true:=decide_eq_true (by omega);have hd6:decide ((s[k].toNat:Int)<=57)=false:=decide_eq_false (by omega);have hc3:((s[k].toNat:Int)!=95)=true:=bne_iff_ne.2 (by omega);have HY:=G (HB.out (fun h=>by have h9:=HD.out.1 h;omega));go_wp2;go_ret;exact⟨cR HY.out.symm,rfl⟩
  ·have hd1:decide (65<=(s[k].toNat:Int))=true:=decide_eq_true (by omega)
   have hd2:decide (97<=(s[k].toNat:Int))=true:=decide_eq_true (by omega);have hd3:decide (48<=(s[k].toNat:Int))=true:=decide_eq_true (by omega);have hd4:decide ((s[k].toNat:Int)<=90)=false:=decide_eq_false (by omega);have hd5:decide ((s[k].toNat:Int)<=122)=true:=decide_eq_true (by omega);have hd6:decide ((s[k].toNat:Int)<=57)=false:=decide_eq_false (by omega);have hc3:((s[k].toNat:Int)!=95)=true:=bne_iff_ne.2 (by omega);have HY:=G (HN.out (HD.out.2 (by omega)));go_wp2;go_round
   case rel=>exact⟨k+1,by omega,by go_num,HY.out⟩
   simp[intOf];omega
  have hd1:decide (65<=(s[k].toNat:Int))=true:=decide_eq_true (by omega);have hd2:decide (97<=(s[k].toNat:Int))=true:=decide_eq_true (by omega);have hd3:decide (48<=(s[k].toNat:Int))=true:=decide_eq_true (by omega);have hd4:decide ((s[k].toNat:Int)<=90)=false:=decide_eq_false (by omega);have hd5:decide ((s[k].toNat:Int)<=122)=false:=decide_eq_false (by omega);have hd6:decide ((s[k].toNat:Int)<=57)=false:=decide_eq_false (by omega);have hc3:((s[k].toNat:Int)!=95)=true:=bne_iff_ne.2 (by omega);have HY:=G (HB.out (fun h=>by have h9:=HD.out.1 h;omega));go_wp2;go_ret;exact⟨cR HY.out.symm,rfl⟩
 obtain rfl:=HF.out (fun j hj=>HA.out j hj (by omega));go_wp2;go_ret;exact⟨rfl,rfl⟩
theorem rV(x:ByteArray)(w:Wv):Calls prog 206 #[.string x] w fun e w'=>e=.returned (.bool false)/\w=w':=by
 go_enter func206,ntmps206;go_wp2;go_ret;exact⟨by simp,rfl⟩
theorem FV(x y:ByteArray)(w:Wv):Calls prog 196 #[.string x,.string y] w fun e w'=>e=.returned (I J (lQ x y))/\w=w':=by
 unfold lQ;have E0:=G (fun h1 h2=>show(x.toList==y.toList)=true by rw[DX (a:=x) (b:=y) h1 h2];simp);have E1:=G (fun(h2:bl y x=true)=>show(x.toList==y.toList)=false from zC (fun e=>by rw[e,DW]at h2;cases h2));unfold bl at *;cases h1:Op.bytesLess x.toList y.toList
 ·cases h2:Op.bytesLess y.toList x.toList
  ·have q:=E0.out h1 h2
   simp only[Bool.false_eq_true,if_false];go_enter func196,ntmps196;go_wp2_with(go_at_call 206;refine(rV _ _).mono ?_;rintro e w' ⟨rfl,rfl⟩);go_ret;exact⟨rfl,rfl⟩
  have q:=E1.out h2;simp only[Bool.false_eq_true,if_false,if_true];go_enter func196,ntmps196;go_wp2_with(go_at_call 206;refine(rV _ _).mono ?_;rintro e w' ⟨rfl,rfl⟩);go_ret;exact⟨rfl,rfl⟩
 simp only[if_true];go_enter func196,ntmps196;go_wp2_with(go_at_call 206;refine(rV _ _).mono ?_;rintro e w' ⟨rfl,rfl⟩);go_ret;exact⟨rfl,rfl⟩
def orI(x y:Int):Int:=if x=0 then y else x
theorem xY(b:Nat)(c:Nat)(x y:Int)(w:Wv)(hA:aB w (Z ⟨b,0,N⟩) [x,y]):
  Calls prog 195 #[H (Z ⟨b,0,N⟩) 2 c] w fun e w'=>e=.returned (I J (orI x y))/\w=w':=by
 obtain⟨b',o',h0,hc⟩:=hA.at (k:=0) (by simp);injection h0 with h0;injection h0 with h0 h1;subst h0;subst h1;have c0:=hc 0 (by simp);have c1:=hc 1 (by simp);simp only[List.getElem_cons_zero,List.getElem_cons_succ]at c0 c1;clear hc hA;have O1:=G (fun(h:x≠0)=>show orI x y=x by unfold orI;rw[if_neg h]);have O2:=G (fun(h:x=0)=>show orI x y=y by unfold orI;rw[if_pos h]);generalize orI x y=R at *;go_enter func195,ntmps195;go_wp2;go_loop [8] (fun u=>∃k:Nat,k<=2/\u=I J k/\(1<=k->x=0)/\(2<=k->y=0)) (fun u=>2-(intOf u).toNat)
 case atStart=>exact⟨0,by omega,rfl,fun h=>by omega,fun h=>by omega⟩
 obtain⟨k,hk,rfl,h1,h2⟩:=hrel;have H1:=G h1;have H2:=G h2;clear h1 h2;obtain rfl|rfl|rfl:k=0\/k=1\/k=2:=by omega
 ·by_cases hx:x=0
  ·have q1:(x !=0)=false:=by simpa using hx
   have HX:=G hx;clear hx;go_wp2;go_round
   case rel=>exact⟨1,by omega,rfl,fun _=>HX.out,fun h=>by omega⟩
   simp[intOf]
  have q1:(x !=0)=true:=by simpa using hx
  obtain rfl:=O1.out hx;clear hx;go_wp2;go_ret;exact⟨rfl,rfl⟩
 ·have HX:=G (H1.out (by omega))
  by_cases hy:y=0
  ·have q1:(y !=0)=false:=by simpa using hy
   have HY:=G hy;clear hy;go_wp2;go_round
   case rel=>exact⟨2,by omega,rfl,fun _=>HX.out,fun _=>HY.out⟩
   simp[intOf]
  have q1:(y !=0)=true:=by simpa using hy
  obtain rfl:=O2.out HX.out;clear hy;go_wp2;go_ret;exact⟨rfl,rfl⟩
 have e:=O2.out (H1.out (by omega));have HR:=G (e.trans (H2.out (by omega)));clear e;go_wp2;go_ret;exact⟨aQ HR.out.symm,rfl⟩
theorem GC(a b:Mp):orI (cW a.frm b.frm) (lQ a.tag b.tag)=jW a b:=by
 unfold orI cW jW;by_cases h1:a.frm<b.frm
 ·simp[h1]
 by_cases h2:b.frm<a.frm<;>simp[h1,h2]
theorem OI(a b:Mp)(va vb:Value)(w:Wv):
  Calls prog 177 #[.agg #[I J a.frm,va,.string a.tag],.agg #[I J b.frm,vb,.string b.tag]] w (bU (jW a b) w):=by
 have B0:By w ((w.alloc (.cells #[I J a.frm,va,.string a.tag] 154)).alloc (.cells #[I J b.frm,vb,.string b.tag] 154)):=(ba _ _).alloc (by simp) _;have s0:((w.alloc (.cells #[I J a.frm,va,.string a.tag] 154)).alloc (.cells #[I J b.frm,vb,.string b.tag] 154)).heap.size=w.heap.size+2:=by simp
 have hS0:(fun W':Wv=>W'.cell? ⟨w.heap.size,0,N⟩=Z (I J a.frm)/\W'.cell? ⟨w.heap.size,2,N⟩=Z (.string a.tag)/\W'.cell? ⟨w.heap.size+1,0,N⟩=Z (I J b.frm)/\W'.cell? ⟨w.heap.size+1,2,N⟩=Z (.string b.tag)) ((w.alloc (.cells #[I J a.frm,va,.string a.tag] 154)).alloc (.cells #[I J b.frm,vb,.string b.tag] 154)):=by refine⟨?_,?_,?_,?_⟩<;>simp
 have W0E:∃W0,((w.alloc (.cells #[I J a.frm,va,.string a.tag] 154)).alloc (.cells #[I J b.frm,vb,.string b.tag] 154))=W0:=⟨_,rfl⟩;have CM:=G (GC a b);generalize jW a b=R at *;obtain⟨fa,ta,tga⟩:=a;obtain⟨fb,tb,tgb⟩:=b;dsimp only at *;go_enter func177,ntmps177;go_wp2_with fail;obtain⟨W0,hW0⟩:=W0E;rw[hW0]at B0 s0 hS0|-;clear hW0;have hx0:w.heap.size<W0.heap.size:=by omega
 have hx1:w.heap.size+1<W0.heap.size:=by omega
 refine wp_region_held_drew (S:=fun W'=>W'.cell? ⟨w.heap.size,0,N⟩=Z (I J fa)/\W'.cell? ⟨w.heap.size,2,N⟩=Z (.string tga)/\W'.cell? ⟨w.heap.size+1,0,N⟩=Z (I J fb)/\W'.cell? ⟨w.heap.size+1,2,N⟩=Z (.string tgb)) (by kernel_rfl) hS0 (fun hHeld=>?_);refine tK 0 5 ?_;refine tK 1 6 ?_;refine tK 2 7 ?_;refine tK 3 8 ?_;refine tK 5 10 ?_;refine tK 6 11 ?_;refine tK 7 12 ?_;refine tK 8 13 ?_;refine kT (R:=fun W'=>W0.drew=W') (i:=4) (Z 9) rfl rfl (by kernel_rfl) (by rfl) (by go_simp) ((kV fa fb W0.drew).mono (R':=fun e w'=>e=.returned (I J (cW fa fb))/\_/\W0.drew=w') (fun e w'⟨he,hw⟩=>⟨he,by subst hw;exact hHeld,hw⟩)) (fun w6 hS6 hR6=>?_);subst hR6;clear hS6;try simp only[Act.put,sA,sB,sC]
 refine kT (R:=fun W'=>W0.drew=W') (i:=9) (Z 14) rfl rfl (by kernel_rfl) (by rfl) (by go_simp) ((FV tga tgb W0.drew).mono (R':=fun e w'=>e=.returned (I J (lQ tga tgb))/\_/\W0.drew=w') (fun e w'⟨he,hw⟩=>⟨he,by subst hw;exact hHeld,hw⟩)) (fun w6 hS6 hR6=>?_);subst hR6;clear hS6;try simp only[Act.put,sA,sB,sC]
 generalize cW fa fb=x at *;generalize lQ tga tgb=y at *;have B1:By W0 (W0.drew.alloc (.cells #[I J x,I J y] 3)):=((Below.refl _ _).drew).alloc (Nat.le_refl _) _;have hS1:(fun W':Wv=>W'.cell? ⟨w.heap.size,0,N⟩=Z (I J fa)/\W'.cell? ⟨w.heap.size,2,N⟩=Z (.string tga)/\W'.cell? ⟨w.heap.size+1,0,N⟩=Z (I J fb)/\W'.cell? ⟨w.heap.size+1,2,N⟩=Z (.string tgb)) (W0.drew.alloc (.cells #[I J x,I J y] 3)):=⟨(B1.cell (p:=⟨w.heap.size,0,N⟩) hx0).trans hHeld.1,(B1.cell (p:=⟨w.heap.size,2,N⟩) hx0).trans hHeld.2.1,(B1.cell (p:=⟨w.heap.size+1,0,N⟩) hx1).trans hHeld.2.2.1,(B1.cell (p:=⟨w.heap.size+1,2,N⟩) hx1).trans hHeld.2.2.2⟩;have I1:=fN W0.drew [x,y] 3 rfl;refine mR (w':=W0.drew.alloc (.cells #[I J x,I J y] 3)) (v:=H (Z ⟨W0.drew.heap.size,0,N⟩) 2 2) (i:=10) (Z 15) rfl rfl (by kernel_rfl) (by rfl) (by go_simp) hS1 ?_;try simp only[Act.put,sA,sB,sC]
 refine kT (R:=fun W'=>W0.drew.alloc (.cells #[I J x,I J y] 3)=W') (i:=11) (Z 16) rfl rfl (by kernel_rfl) (by rfl) (by go_simp) ((xY _ 2 x y _ I1).mono (R':=fun e w'=>e=.returned (I J (orI x y))/\_/\W0.drew.alloc (.cells #[I J x,I J y] 3)=w') (fun e w'⟨he,hw⟩=>⟨he,by subst hw;exact hS1,hw⟩)) (fun w6 hS6 hR6=>?_);subst hR6;try simp only[Act.put,sA,sB,sC]
 refine tK 12 4 ?_;refine wpAnyH_done (by kernel_rfl) ?_ _;go_wp2_with fail;go_ret;exact⟨aQ CM.out,B0.trans (B1.mono B0.size)⟩
def lA(x:Int×ByteArray):Value:=.agg #[I J x.1,.string x.2]
theorem RY(tmps:Array Value)(w:Wv){b:Nat}{z0:Int}{s1:ByteArray}(ha:tmps.getD 2 undef=.pointer (Z ⟨b,0,N⟩))
  (c0:w.cell? ⟨b,0,N⟩=Z (I J z0)) (c1:w.cell? ⟨b,1,N⟩=Z (.string s1)) :
  (results f178 tmps).run prog w=.ok (.agg #[I J z0,.string s1]) w:=by
 have hr:f178.results=#[.cell 2 226]:=rfl;unfold results;rw[hr];simp only[ha,List.mapM_toArray,List.mapM_cons,List.mapM_nil,asAddr];go_simp
theorem OL(a:Mp)(va:Value)(w:Wv):
  Calls prog 178 #[.agg #[I J a.frm,va,.string a.tag]] w (fun e w'=>e=.returned (lA (bG a))/\By w w'):=by
 go_enter func178,ntmps178;go_wp2_with fail;(try simp only[Exit.inBlock,Exit.then]);refine bodyPost_ret (RY _ _ (b:=w.heap.size+1) (z0:=a.frm) (s1:=a.tag) rfl (by go_simp) (by go_simp)) rfl ?_;exact⟨rfl,(ba _ _).alloc (by simp) _⟩
theorem oV:Keyed prog 226:=Keyed.of_law (deep_law_laid (by kernel_rfl) (m:=2) (by omega) (of_decide_eq_true (by kernel_rfl)) (by kernel_rfl) (by kernel_rfl))
noncomputable def mA(x:Int×ByteArray):Lit:=(keyOf prog 226 (lA x)).getD (.bool false)
def mok(x:Int×ByteArray):Prop:=(Lit.int .i64 x.1).wf=true/\x.2.size<=maxLen
theorem nK{x:Int×ByteArray}(h:mok x):keyOf prog 226 (lA x)=Z (mA x):=by
 have h9:(keyOf prog 226 (lA x)).isSome=true:=by
  obtain⟨f,t⟩:=x;obtain⟨h1,h2⟩:=h;dsimp only at h1 h2;have hk:prog.keyType 226=true:=by kernel_rfl
  have hu:=underlying226;have hi:=underlying3;have hs:=underlying9;have hc2:prog.cellsOf 226=2:=by kernel_rfl
  have hc1:prog.cellsOf 3=1:=by kernel_rfl
  have hc3:prog.cellsOf 9=1:=by kernel_rfl
  obtain⟨m,hm⟩:∃m,prog.types.size=m+1:=⟨prog.types.size-1,by kernel_rfl⟩;unfold keyOf lA;rw[hu];simp only[hk,hm,Value.formed,hu,hc2];unfold Program.keyLits;rw[hu];simp only[hc2];simp[Program.keyLits,hi,hs,hc1,hc3,h1,h2,Value.cells]
 unfold mA;cases hk:keyOf prog 226 (lA x)with
 |none=>rw[hk]at h9;cases h9
 |some y=>rfl
theorem OZ{x y:Int×ByteArray}(hx:mok x)(hy:mok y)(h:mA x=mA y):x=y:=by
 have a:=nK hx;have b:=nK hy;rw[h]at a;have:=oV.inj a b;obtain⟨x1,x2⟩:=x;obtain⟨y1,y2⟩:=y;unfold lA at this;simp at this;rw[this.1,this.2]
noncomputable instance (x:Int×ByteArray) (l:List (Int×ByteArray)):Decidable (x∈l):=Classical.propDecidable _
noncomputable def jP(l:List (Int×ByteArray))(x:Int×ByteArray):Option Value:=if x∈l then Z (.bool true)else N
theorem UJ{l:List (Int×ByteArray)}{s:Int×ByteArray}(h:s∈l):(jP l s).getD (.bool false)=.bool true:=by unfold jP;rw[if_pos h];rfl
theorem UH{l:List (Int×ByteArray)}{s:Int×ByteArray}(h:s ∉ l):(jP l s).getD (.bool false)=.bool false:=by unfold jP;rw[if_neg h];rfl
theorem UI(l:List (Int×ByteArray))(s x:Int×ByteArray):jP (l++[s]) x=if x=s then Z (.bool true)else jP l x:=by
 unfold jP;by_cases e:x=s
 ·simp[e]
 simp[e]
theorem AO(w:Wv):(zeroValue 4).run prog w=.ok (.bool false) w:=by kernel_rfl
end
namespace Srt
section
variable {α:Type}(key:α->Int)
def kf(d:List α)(i:Nat):Int:=(d[i]?.map key).getD 0
def St(d d':List α):Prop:=∀k:Int,d'.filter (fun x=>key x==k)=d.filter (fun x=>key x==k)
def SortedOn(d:List α)(a b:Nat):Prop:=∀i j,a<=i->i<j->j<b->kf key d i<=kf key d j
def Same(d d':List α)(a b:Nat):Prop:=d'.length=d.length/\∀t,t<a\/b<=t->d'[t]?=d[t]?
variable {key}
theorem St.refl(d:List α):St key d d:=fun _=>rfl
theorem St.trans{a b c:List α}(h:St key a b)(g:St key b c):St key a c:=fun k=>(g k).trans (h k)
theorem St.append{a a' b b':List α}(h:St key a a')(g:St key b b'):St key (a++b) (a'++b'):=fun k=>by
 rw[List.filter_append,List.filter_append,h k,g k]
theorem St.flip{u v:List α}(h:∀x∈u,∀y∈v,key x≠key y):St key (u++v) (v++u):=fun k=>by
 rw[List.filter_append,List.filter_append];by_cases hu:u.filter (fun x=>key x==k)=[]
 ·rw[hu];simp
 have hv:v.filter (fun x=>key x==k)=[]:=by
  rw[List.filter_eq_nil_iff];intro y hy hk;rw[List.filter_eq_nil_iff]at hu;apply hu;intro x hx hk2;exact h x hx y hy (by rw[eq_of_beq hk2,eq_of_beq hk])
 rw[hv];simp
theorem Same.refl(d:List α)(a b:Nat):Same d d a b:=⟨rfl,fun _ _=>rfl⟩
theorem Same.trans{x y z:List α}{a b:Nat}(h:Same x y a b)(g:Same y z a b):Same x z a b:=⟨g.1.trans h.1,fun t ht=>(g.2 t ht).trans (h.2 t ht)⟩
theorem Same.mono{x y:List α}{a b a' b':Nat}(h:Same x y a b)(ha:a'<=a)(hb:b<=b'):Same x y a' b':=⟨h.1,fun t ht=>h.2 t (by omega)⟩
theorem Same.kf{x y:List α}{a b t:Nat}(h:Same x y a b)(ht:t<a\/b<=t):kf key y t=kf key x t:=by unfold Srt.kf;rw[h.2 t ht]
def swp(d:List α)(i j:Nat)(x y:α):List α:=(d.set i y).set j x
def Rot(d d':List α)(a m b:Nat):Prop:=
 d'.length=d.length/\∀t,d'[t]?=if a<=t/\t<a+(b-m)then d[t+(m-a)]? else if a+(b-m)<=t/\t<b then d[t-(b-m)]? else d[t]?
theorem Rot.same{d d':List α}{a m b:Nat}(h:Rot d d' a m b)(h1:a<=m)(h2:m<=b):Same d d' a b:=
 ⟨h.1,fun t ht=>by rw[h.2 t,if_neg (by omega),if_neg (by omega)]⟩
theorem parts(d:List α)(a m b:Nat)(h1:a<=m)(h2:m<=b):d=d.take a++((d.drop a).take (m-a)++(d.drop m).take (b-m))++d.drop b:=by
 apply List.ext_getElem?;intro t;simp only[List.getElem?_append,List.length_append,List.length_take,List.length_drop,List.getElem?_take,List.getElem?_drop];by_cases hb:b<=d.length
 ·(repeat' split)<;>first|rfl|omega|(congr 1;omega)
 by_cases ht:t<d.length
 ·(repeat' split)<;>first|rfl|omega|(congr 1;omega)
 rw[List.getElem?_eq_none (by omega)];(repeat' split)<;>first|rfl|omega|(rw[List.getElem?_eq_none (by omega)])
theorem Rot.parts{d d':List α}{a m b:Nat}(h:Rot d d' a m b)(h1:a<=m)(h2:m<=b)(hb:b<=d.length):
  d'=d.take a++((d.drop m).take (b-m)++(d.drop a).take (m-a))++d.drop b:=by
 apply List.ext_getElem?;intro t;rw[h.2 t];simp only[List.getElem?_append,List.length_append,List.length_take,List.length_drop,List.getElem?_take,List.getElem?_drop];(repeat' split)<;>first|rfl|omega|(congr 1;omega)
theorem Rot.st{d d':List α}{a m b:Nat}(h:Rot d d' a m b)(h1:a<=m)(h2:m<=b)(hb:b<=d.length)
  (hk:∀i j,a<=i->i<m->m<=j->j<b->kf key d i≠kf key d j):St key d d':=by
 rw[h.parts h1 h2 hb];conv=>lhs;rw[Srt.parts d a m b h1 h2]
 refine St.append (St.append (St.refl _) (St.flip fun x hx y hy=>?_)) (St.refl _);obtain⟨i,hi⟩:=List.mem_iff_getElem?.1 hx;obtain⟨j,hj⟩:=List.mem_iff_getElem?.1 hy;rw[List.getElem?_take]at hi hj;split at hi
 ·split at hj
  ·rw[List.getElem?_drop]at hi hj
   have:=hk (a+i) (m+j) (by omega) (by omega) (by omega) (by omega);unfold Srt.kf at this;rw[hi,hj]at this;exact this
  cases hj
 cases hi
theorem swp_get(d:List α)(i j t:Nat)(x y:α)(hx:d[i]?=Z x)(hy:d[j]?=Z y)(hij:i≠j):
  (swp d i j x y)[t]?=if t=i then d[j]? else if t=j then d[i]? else d[t]?:=by
 have hi:i<d.length:=(List.getElem?_eq_some_iff.1 hx).1;have hj:j<d.length:=(List.getElem?_eq_some_iff.1 hy).1;unfold swp;simp only[List.getElem?_set,List.length_set];(repeat' split)<;>first|rfl|omega|(subst_vars;simp_all)
theorem swp_len(d:List α)(i j:Nat)(x y:α):(swp d i j x y).length=d.length:=by simp[swp]
theorem swp_rot(d:List α)(i:Nat)(x y:α)(hx:d[i]?=Z x)(hy:d[i+1]?=Z y):Rot d (swp d i (i+1) x y) i (i+1) (i+2):=by
 refine⟨swp_len _ _ _ _ _,fun t=>?_⟩;rw[swp_get d i (i+1) t x y hx hy (by omega)];by_cases e1:t=i
 ·subst e1;rw[if_pos rfl,if_pos (by omega)];congr 1;omega
 rw[if_neg e1];by_cases e2:t=i+1
 ·subst e2;rw[if_pos rfl,if_neg (by omega),if_pos (by omega)];congr 1;omega
 rw[if_neg e2,if_neg (by omega),if_neg (by omega)]
theorem kf_some{d:List α}{i:Nat}{x:α}(h:d[i]?=Z x):kf key d i=key x:=by unfold kf;rw[h];rfl
theorem swp_kf(d:List α)(i j t:Nat)(x y:α)(hx:d[i]?=Z x)(hy:d[j]?=Z y)(hij:i≠j):
  kf key (swp d i j x y) t=if t=i then kf key d j else if t=j then kf key d i else kf key d t:=by
 unfold kf;rw[swp_get d i j t x y hx hy hij];(repeat' split)<;>rfl
def Ins(key:α->Int)(d:List α)(a i j:Nat):Prop:=
 (∀p q,a<=p->p<q->q<=i->p≠j->q≠j->kf key d p<=kf key d q)/\(∀q,j<q->q<=i->kf key d j<=kf key d q)
theorem Ins.start{d:List α}{a i:Nat}(h:SortedOn key d a i):Ins key d a i i:=
 ⟨fun p q hp hpq hq _ hqj=>h p q hp hpq (by omega),fun q h1 h2=>by omega⟩
theorem Ins.step{d:List α}{a i j:Nat}{x y:α}(h:Ins key d a i (j+1))(hj:a<=j)(hji:j+1<=i)(hx:d[j]?=Z x)(hy:d[j+1]?=Z y)(hlt:key y<key x):
  Ins key (swp d j (j+1) x y) a i j:=by
 have kx:=kf_some (key:=key) hx;have ky:=kf_some (key:=key) hy;refine⟨fun p q hp hpq hq hpj hqj=>?_,fun q h1 h2=>?_⟩
 ·rw[swp_kf d j (j+1) p x y hx hy (by omega),swp_kf d j (j+1) q x y hx hy (by omega)]
  rw[if_neg hpj,if_neg hqj];by_cases e1:p=j+1
  ·rw[if_pos e1]
   rw[if_neg (by omega)];exact h.1 j q hj (by omega) hq (by omega) (by omega)
  rw[if_neg e1];by_cases e2:q=j+1
  ·rw[if_pos e2]
   exact h.1 p j hp (by omega) (by omega) e1 (by omega)
  rw[if_neg e2];exact h.1 p q hp hpq hq e1 e2
 rw[swp_kf d j (j+1) j x y hx hy (by omega),swp_kf d j (j+1) q x y hx hy (by omega)];rw[if_pos rfl,if_neg (by omega)];by_cases e2:q=j+1
 ·rw[if_pos e2];omega
 rw[if_neg e2];exact h.2 q (by omega) h2
theorem Ins.stop{d:List α}{a i j:Nat}(h:Ins key d a i j)(hj:a<=j)(hji:j<=i)(hend:j=a\/kf key d (j-1)<=kf key d j):SortedOn key d a (i+1):=by
 intro p q hp hpq hq;by_cases e1:p=j
 ·subst e1;exact h.2 q hpq (by omega)
 by_cases e2:q=j
 ·subst e2
  rcases hend with he|he
  ·omega
  by_cases e3:p=q-1
  ·subst e3;exact he
  have:=h.1 p (q-1) hp (by omega) (by omega) (by omega) (by omega);omega
 exact h.1 p q hp hpq (by omega) e1 e2
def Done(key:α->Int)(d d':List α)(a b:Nat):Prop:=Same d d' a b/\St key d d'/\SortedOn key d' a b
theorem SortedOn.short{d:List α}{a b:Nat}(h:b<=a+1):SortedOn key d a b:=fun i j h1 h2 h3=>by omega
theorem SortedOn.sub{d:List α}{a b a' b':Nat}(h:SortedOn key d a b)(ha:a<=a')(hb:b'<=b):SortedOn key d a' b':=fun i j h1 h2 h3=>h i j (by omega) h2 (by omega)
theorem SortedOn.same{d d':List α}{a b x y:Nat}(h:SortedOn key d a b)(hs:Same d d' x y)(hd:b<=x\/y<=a):SortedOn key d' a b:=fun i j h1 h2 h3=>by
 rw[hs.kf (by omega),hs.kf (by omega)];exact h i j h1 h2 h3
theorem SortedOn.join{d:List α}{a m b:Nat}(h1:SortedOn key d a m)(h2:SortedOn key d m b)(h:∀i j,a<=i->i<m->m<=j->j<b->kf key d i<=kf key d j):SortedOn key d a b:=by
 intro i j hi hij hj;by_cases e1:j<m
 ·exact h1 i j hi hij e1
 by_cases e2:m<=i
 ·exact h2 i j e2 hij hj
 exact h i j hi (by omega) (by omega) hj
theorem Rot.kf{d d':List α}{a m b:Nat}(h:Rot d d' a m b)(t:Nat):
  kf key d' t=if a<=t/\t<a+(b-m)then kf key d (t+(m-a))else if a+(b-m)<=t/\t<b then kf key d (t-(b-m))else kf key d t:=by
 unfold Srt.kf;rw[h.2 t];(repeat' split)<;>rfl
theorem Done.left{d d':List α}{a i b:Nat}(h:Rot d d' a (a+1) i)(hi:a+1<=i)(hib:i<=b)(hb:b<=d.length)(hs:SortedOn key d (a+1) b)
  (hlo:∀t,a+1<=t->t<i->kf key d t<kf key d a) (hhi:∀t,i<=t->t<b->kf key d a<=kf key d t):Done key d d' a b:=by
 refine⟨(h.same (by omega) (by omega)).mono (Nat.le_refl _) hib,h.st (by omega) hi (by omega) (fun p q h1 h2 h3 h4=>?_),?_⟩
 ·obtain rfl:p=a:=by omega
  have:=hlo q h3 h4;omega
 intro p q hp hpq hq;rw[h.kf,h.kf];by_cases c1:p<a+(i-(a+1))
 ·rw[if_pos (by omega)]
  by_cases c2:q<a+(i-(a+1))
  ·rw[if_pos (by omega)];exact hs _ _ (by omega) (by omega) (by omega)
  rw[if_neg (by omega)];by_cases c3:q<i
  ·rw[if_pos (by omega)]
   have:=hlo (p+(a+1-a)) (by omega) (by omega);rw[show q-(i-(a+1))=a by omega];omega
  rw[if_neg (by omega)];exact hs _ _ (by omega) (by omega) (by omega)
 rw[if_neg (by omega)];by_cases c3:p<i
 ·rw[if_pos (by omega),if_neg (by omega),if_neg (by omega)]
  rw[show p-(i-(a+1))=a by omega];exact hhi q (by omega) hq
 rw[if_neg (by omega),if_neg (by omega),if_neg (by omega)];exact hs _ _ (by omega) hpq hq
theorem Done.right{d d':List α}{a i m:Nat}(h:Rot d d' i m (m+1))(hi:i<=m)(hai:a<=i)(hb:m+1<=d.length)(hs:SortedOn key d a m)
  (hlo:∀t,a<=t->t<i->kf key d t<=kf key d m) (hhi:∀t,i<=t->t<m->kf key d m<kf key d t):Done key d d' a (m+1):=by
 refine⟨(h.same hi (by omega)).mono hai (Nat.le_refl _),h.st hi (by omega) hb (fun p q h1 h2 h3 h4=>?_),?_⟩
 ·obtain rfl:q=m:=by omega
  have:=hhi p h1 h2;omega
 intro p q hp hpq hq;rw[h.kf,h.kf];by_cases c1:p<i
 ·rw[if_neg (by omega),if_neg (by omega)]
  by_cases c2:q<i
  ·rw[if_neg (by omega),if_neg (by omega)];exact hs _ _ hp hpq (by omega)
  by_cases c3:q=i
  ·rw[if_pos (by omega),show q+(m-i)=m by omega];exact hlo p hp c1
  rw[if_neg (by omega),if_pos (by omega)];exact hs _ _ hp (by omega) (by omega)
 by_cases c3:p=i
 ·rw[if_pos (by omega),if_neg (by omega),if_pos (by omega),show p+(m-i)=m by omega]
  have:=hhi (q-(m+1-m)) (by omega) (by omega);omega
 rw[if_neg (by omega),if_pos (by omega),if_neg (by omega),if_pos (by omega)];exact hs _ _ (by omega) (by omega) (by omega)
structure Found(key:α->Int)(d:List α)(a m b st:Nat):Prop where
 lo:a<=st
 hi:st<=m
 en:m<=(a+b)/2+m-st
 en2:(a+b)/2+m-st<=b
 mid:st<=(a+b)/2
 yes:∀i j,a<=i->i<st->(a+b)/2+m-st<=j->j<b->kf key d i<=kf key d j
 no:∀i j,st<=i->i<m->m<=j->j<(a+b)/2+m-st->kf key d j<kf key d i
theorem Found.halves{d d1:List α}{a m b st:Nat}(f:Found key d a m b st)(hb:b<=d.length)(h1:SortedOn key d a m)(h2:SortedOn key d m b)(h:Rot d d1 st m ((a+b)/2+m-st)):
  Same d d1 a b/\St key d d1/\SortedOn key d1 a st/\SortedOn key d1 st ((a+b)/2)/\SortedOn key d1 ((a+b)/2) ((a+b)/2+m-st)/\SortedOn key d1 ((a+b)/2+m-st) b/\
   ∀i j,a<=i->i<(a+b)/2->(a+b)/2<=j->j<b->kf key d1 i<=kf key d1 j:=by
 obtain⟨f1,f2,f3,f4,f5,f6,f7⟩:=f;generalize hM:(a+b)/2=M at *;have hMb:a<=M/\M<=b:=by omega
 generalize hE:M+m-st=E at *;refine⟨(h.same f2 f3).mono f1 f4,h.st f2 f3 (by omega) (fun p q g1 g2 g3 g4=>by have:=f7 p q g1 g2 g3 g4;omega),?_,?_,?_,?_,?_⟩
 ·intro p q g1 g2 g3
  rw[h.kf,h.kf,if_neg (by omega),if_neg (by omega),if_neg (by omega),if_neg (by omega)];exact h1 _ _ g1 g2 (by omega)
 ·intro p q g1 g2 g3
  rw[h.kf,h.kf,if_pos (by omega),if_pos (by omega)];exact h2 _ _ (by omega) (by omega) (by omega)
 ·intro p q g1 g2 g3
  rw[h.kf,h.kf,if_neg (by omega),if_pos (by omega),if_neg (by omega),if_pos (by omega)];exact h1 _ _ (by omega) (by omega) (by omega)
 ·intro p q g1 g2 g3
  rw[h.kf,h.kf,if_neg (by omega),if_neg (by omega),if_neg (by omega),if_neg (by omega)];exact h2 _ _ (by omega) g2 g3
 intro p q g1 g2 g3 g4;rw[h.kf,h.kf];by_cases c1:p<st
 ·rw[if_neg (by omega),if_neg (by omega)]
  by_cases c2:q<E
  ·rw[if_neg (by omega),if_pos (by omega)];exact h1 _ _ g1 (by omega) (by omega)
  rw[if_neg (by omega),if_neg (by omega)];exact f6 _ _ g1 c1 (by omega) g4
 rw[if_pos (by omega)];by_cases c2:q<E
 ·rw[if_neg (by omega),if_pos (by omega)];exact Int.le_of_lt (f7 _ _ (by omega) (by omega) (by omega) (by omega))
 rw[if_neg (by omega),if_neg (by omega)];exact h2 _ _ (by omega) (by omega) g4
theorem swp_done{d:List α}{j:Nat}{x y:α}(hx:d[j]?=Z x)(hy:d[j+1]?=Z y)(hlt:key y<key x):St key d (swp d j (j+1) x y):=
 (swp_rot d j x y hx hy).st (by omega) (by omega) (by have:=(List.getElem?_eq_some_iff.1 hy).1;omega) (fun p q h1 h2 h3 h4=>by
  obtain rfl:p=j:=by omega
  obtain rfl:q=p+1:=by omega
  rw[kf_some hx,kf_some hy];omega)
theorem swp_same{d:List α}{i j a b:Nat}{x y:α}(hx:d[i]?=Z x)(hy:d[j]?=Z y)(hij:i≠j)(h1:a<=i)(h2:i<b)(h3:a<=j)(h4:j<b):Same d (swp d i j x y) a b:=
 ⟨swp_len _ _ _ _ _,fun t ht=>by rw[swp_get d i j t x y hx hy hij,if_neg (by omega),if_neg (by omega)]⟩
end
end Srt
section
open Go.RowKit Go.Maps Go.WideMaps
def cV(r:Rg):Prop:=0<=r.lo/\r.lo<=r.hi/\r.hi<=1114111
def dM(r:Rg):Int:=r.lo*2097152+r.hi
def rv(x:Rg):Value:=.agg #[I J x.lo,I J x.hi]
def A_(p:Prop)(w:Wv)(x:Ending)(w':Wv):Prop:=∃c:Int,x=.returned (I J c)/\(c<0 ↔ p)/\By w w'
theorem SK{a b:Rg}(ha:cV a)(hb:cV b):orI (cW a.lo b.lo) (cW a.hi b.hi)<0 ↔ dM a<dM b:=by
 unfold orI cW dM;unfold cV at ha hb;by_cases h1:a.lo<b.lo
 ·simp[h1];omega
 by_cases h2:b.lo<a.lo
 ·simp[h1,h2];omega
 by_cases h3:a.hi<b.hi
 ·simp[h1,h2,h3];omega
 by_cases h4:b.hi<a.hi
 ·simp[h1,h2,h3,h4];omega
 simp[h1,h2,h3,h4];omega
theorem OW(a b:Rg)(ha:cV a)(hb:cV b)(w:Wv):
  Calls prog 198 #[rv a,rv b] w (A_ (dM a<dM b) w):=by
 have B0:By w ((w.alloc (.cells #[I J a.lo,I J a.hi] 179)).alloc (.cells #[I J b.lo,I J b.hi] 179)):=(ba _ _).alloc (by simp) _;have s0:((w.alloc (.cells #[I J a.lo,I J a.hi] 179)).alloc (.cells #[I J b.lo,I J b.hi] 179)).heap.size=w.heap.size+2:=by simp
 have hS0:(fun W':Wv=>W'.cell? ⟨w.heap.size,0,N⟩=Z (I J a.lo)/\W'.cell? ⟨w.heap.size,1,N⟩=Z (I J a.hi)/\W'.cell? ⟨w.heap.size+1,0,N⟩=Z (I J b.lo)/\W'.cell? ⟨w.heap.size+1,1,N⟩=Z (I J b.hi)) ((w.alloc (.cells #[I J a.lo,I J a.hi] 179)).alloc (.cells #[I J b.lo,I J b.hi] 179)):=by refine⟨?_,?_,?_,?_⟩<;>simp
 have W0E:∃W0,((w.alloc (.cells #[I J a.lo,I J a.hi] 179)).alloc (.cells #[I J b.lo,I J b.hi] 179))=W0:=⟨_,rfl⟩;have CM:=G (SK ha hb);generalize (dM a<dM b)=R at *;unfold rv;obtain⟨al,ah⟩:=a;obtain⟨bl',bh⟩:=b;dsimp only at *;clear ha hb;go_enter func198,ntmps198;go_wp2_with fail;obtain⟨W0,hW0⟩:=W0E;rw[hW0]at B0 s0 hS0|-;clear hW0;have hx0:w.heap.size<W0.heap.size:=by omega
 have hx1:w.heap.size+1<W0.heap.size:=by omega
 refine wp_region_held_drew (S:=fun W'=>W'.cell? ⟨w.heap.size,0,N⟩=Z (I J al)/\W'.cell? ⟨w.heap.size,1,N⟩=Z (I J ah)/\W'.cell? ⟨w.heap.size+1,0,N⟩=Z (I J bl')/\W'.cell? ⟨w.heap.size+1,1,N⟩=Z (I J bh)) (by kernel_rfl) hS0 (fun hHeld=>?_);refine tK 0 5 ?_;refine tK 1 6 ?_;refine tK 2 7 ?_;refine tK 3 8 ?_;refine tK 5 10 ?_;refine tK 6 11 ?_;refine tK 7 12 ?_;refine tK 8 13 ?_;refine kT (R:=fun W'=>W0.drew=W') (i:=4) (Z 9) rfl rfl (by kernel_rfl) (by rfl) (by go_simp) ((kV al bl' W0.drew).mono (R':=fun e w'=>e=.returned (I J (cW al bl'))/\_/\W0.drew=w') (fun e w'⟨he,hw⟩=>⟨he,by subst hw;exact hHeld,hw⟩)) (fun w6 hS6 hR6=>?_);subst hR6;clear hS6;try simp only[Act.put,sA,sB,sC]
 refine kT (R:=fun W'=>W0.drew=W') (i:=9) (Z 14) rfl rfl (by kernel_rfl) (by rfl) (by go_simp) ((kV ah bh W0.drew).mono (R':=fun e w'=>e=.returned (I J (cW ah bh))/\_/\W0.drew=w') (fun e w'⟨he,hw⟩=>⟨he,by subst hw;exact hHeld,hw⟩)) (fun w6 hS6 hR6=>?_);subst hR6;clear hS6;try simp only[Act.put,sA,sB,sC]
 generalize cW al bl'=x at *;generalize cW ah bh=y at *;have B1:By W0 (W0.drew.alloc (.cells #[I J x,I J y] 3)):=((Below.refl _ _).drew).alloc (Nat.le_refl _) _;have hS1:(fun W':Wv=>W'.cell? ⟨w.heap.size,0,N⟩=Z (I J al)/\W'.cell? ⟨w.heap.size,1,N⟩=Z (I J ah)/\W'.cell? ⟨w.heap.size+1,0,N⟩=Z (I J bl')/\W'.cell? ⟨w.heap.size+1,1,N⟩=Z (I J bh)) (W0.drew.alloc (.cells #[I J x,I J y] 3)):=⟨(B1.cell (p:=⟨w.heap.size,0,N⟩) hx0).trans hHeld.1,(B1.cell (p:=⟨w.heap.size,1,N⟩) hx0).trans hHeld.2.1,(B1.cell (p:=⟨w.heap.size+1,0,N⟩) hx1).trans hHeld.2.2.1,(B1.cell (p:=⟨w.heap.size+1,1,N⟩) hx1).trans hHeld.2.2.2⟩;have I1:=fN W0.drew [x,y] 3 rfl;refine mR (w':=W0.drew.alloc (.cells #[I J x,I J y] 3)) (v:=H (Z ⟨W0.drew.heap.size,0,N⟩) 2 2) (i:=10) (Z 15) rfl rfl (by kernel_rfl) (by rfl) (by go_simp) hS1 ?_;try simp only[Act.put,sA,sB,sC]
 refine kT (R:=fun W'=>W0.drew.alloc (.cells #[I J x,I J y] 3)=W') (i:=11) (Z 16) rfl rfl (by kernel_rfl) (by rfl) (by go_simp) ((xY _ 2 x y _ I1).mono (R':=fun e w'=>e=.returned (I J (orI x y))/\_/\W0.drew.alloc (.cells #[I J x,I J y] 3)=w') (fun e w'⟨he,hw⟩=>⟨he,by subst hw;exact hS1,hw⟩)) (fun w6 hS6 hR6=>?_);subst hR6;try simp only[Act.put,sA,sB,sC]
 refine tK 12 4 ?_;refine wpAnyH_done (by kernel_rfl) ?_ _;go_wp2_with fail;go_ret;exact⟨_,rfl,CM.out,B0.trans (B1.mono B0.size)⟩
def dD(w:Wv)(base g n c:Nat)(d:List Rg):Prop:=w.ownsRow base 179 2 (H (Z ⟨g,0,N⟩) n c) n (aE Rg.cells d)
section
variable {w w':Wv}{base g n c:Nat}{d:List Rg}
theorem dD.len(h:dD w base g n c d):d.length=n:=by
 have:=h.1;rw[gE Rg.cells 2 (fun _=>rfl)]at this;omega
theorem dD.cells(h:dD w base g n c d){i:Nat}{x:Rg}(hi:d[i]?=Z x):w.cell? ⟨g,i*2,N⟩=Z (I J x.lo)/\w.cell? ⟨g,i*2+1,N⟩=Z (I J x.hi):=by
 obtain⟨hl,rfl⟩:=List.getElem?_eq_some_iff.1 hi;have hn:=h.len;have key:∀j u,(Rg.cells d[i])[j]?=Z u->j<2->w.cell? ⟨g,i*2+j,N⟩=Z u:=by
  intro j u hu hj;rw[World.ownsRow.cellAt h (i*2+j) (by omega),gW Rg.cells 2 (fun _=>rfl) d i j hl hj];exact hu
 exact⟨key 0 _ rfl (by omega),key 1 _ rfl (by omega)⟩
theorem dD.frozen(h:dD w base g n c d)(i:Nat):w.frozen? ⟨g,i,N⟩=false:=World.ownsRow.frozenAt h i
theorem dD.keep(h:dD w base g n c d)(hb:By w w'):dD w' base g n c d:=bI h hb
theorem dD.drew(h:dD w base g n c d):dD w.drew base g n c d:=h
theorem dD.drewN(h:dD w base g n c d)(k:Nat):dD (w.drewN k) base g n c d:=h
end
theorem JM(d:List Rg)(i:Nat)(x:Rg)(hi:i<d.length):((aE Rg.cells d).set (i*2) (I J x.lo)).set (i*2+1) (I J x.hi)=aE Rg.cells (d.set i x):=by
 induction d generalizing i with
 |nil=>simp at hi
 |cons y r ih=>
  cases i with
  |zero=>simp[aE,Rg.cells]
  |succ i=>
   have h1:=ih i (by simpa using hi);simp only[aE,List.flatMap_cons,Rg.cells,List.cons_append,List.nil_append,List.set_cons_succ]at *;rw[show(i+1)*2=i*2+1+1 by omega];simp only[List.set_cons_succ,h1]
theorem dD.set{w:Wv}{base g n c:Nat}{d:List Rg}(h:dD w base g n c d){i:Nat}(hi:i<d.length)(x:Rg):
  dD ((w.setCell ⟨g,i*2,N⟩ (I J x.lo)).setCell ⟨g,i*2+1,N⟩ (I J x.hi)) base g n c (d.set i x)/\
  w.grownBy ((w.setCell ⟨g,i*2,N⟩ (I J x.lo)).setCell ⟨g,i*2+1,N⟩ (I J x.hi)) (Z g):=by
 have s1:=World.ownsRow.stored h (i*2) (I J x.lo);have s2:=s1.1.stored (i*2+1) (I J x.hi);refine⟨?_,?_⟩
 ·have h3:=s2.1
  rw[JM d i x hi]at h3;exact h3
 exact⟨rfl,rfl,rfl,by simp,fun k hk hne=>(s2.2.block k (by simpa using hk) hne).trans (s1.2.block k hk hne)⟩
theorem rO{a w c:Wv}{r:Option Nat}(h:a.grownBy w r)(g:w.grownBy c r):a.grownBy c r:=
 ⟨g.os.trans h.os,g.tape.trans h.tape,g.output.trans h.output,Nat.le_trans h.size g.size,fun k hk hne=>(g.block k (Nat.lt_of_lt_of_le hk h.size) hne).trans (h.block k hk hne)⟩
theorem KP(w:Wv)(r:Option Nat):w.grownBy w r:=⟨rfl,rfl,rfl,Nat.le_refl _,fun _ _ _=>rfl⟩
theorem rM{a w w':Wv}{r:Option Nat}(h:a.grownBy w r)(g:By w w'):a.grownBy w' r:=
 rO h ⟨g.os,g.tape,g.output,g.size,fun k hk _=>g.block k hk⟩
theorem wA{a w:Wv}{r:Option Nat}(h:a.grownBy w r):a.grownBy w.drew r:=rM h (eF w 1)
theorem KM{a w:Wv}{r:Option Nat}(h:a.grownBy w r)(n:Nat):a.grownBy (w.drewN n) r:=rM h (eF w n)
def qB(R:List Rg->Prop)(base g n c:Nat)(w:Wv)(x:Ending)(w':Wv):Prop:=x=.returned (.tuple #[])/\∃d',R d'/\dD w' base g n c d'/\w.grownBy w' (Z g)
theorem mP{key:Rg->Int}{d d':List Rg}(h:Srt.St key d d'){x:Rg}(hx:x∈d'):x∈d:=by
 have h1:x∈d'.filter (fun y=>key y==key x):=List.mem_filter.2 ⟨hx,by simp⟩;rw[h (key x)]at h1;exact(List.mem_filter.1 h1).1
theorem BY{key:Rg->Int}{d d':List Rg}(h:Srt.St key d d'){x:Rg}(hx:x∈d):x∈d':=by
 have h1:x∈d.filter (fun y=>key y==key x):=List.mem_filter.2 ⟨hx,by simp⟩;rw[<-h (key x)]at h1;exact(List.mem_filter.1 h1).1
theorem rH{d:List Rg}{i:Nat}(h:i<d.length):∃x,d[i]?=Z x:=⟨d[i],List.getElem?_eq_getElem h⟩
theorem MD(base g n c q:Nat)(d:List Rg)(w:Wv)(hR:dD w base g n c d)(hq:q<=n)(hbig:n<=1048576)(hok:∀x∈d,cV x):
  Calls prog 211 #[H (Z ⟨g,0,N⟩) n c,I J 0,I J q,.func (.func 198) #[] #[]] w
   (qB (fun d'=>Srt.Done dM d d' 0 q) base g n c w):=by
 have hn:=hR.len;subst hn;have HOK:=G hok;clear hok;go_enter func211,ntmps211;go_wp2;go_loopw [8] (fun i wr=>∃(k:Nat)(d1:List Rg),1<=k/\(k<=q\/k=1)/\i=I J k/\Srt.Same d d1 0 q/\Srt.St dM d d1/\Srt.SortedOn dM d1 0 k/\dD wr base g d.length c d1/\w.grownBy wr (Z g)) (fun i _=>q-(intOf i).toNat)
 case atStart=>exact⟨1,d,Nat.le_refl _,.inr rfl,rfl,Srt.Same.refl _ _ _,Srt.St.refl _,Srt.SortedOn.short (by omega),hR,KP _ _⟩
 obtain⟨k,d1,hk1,hk2,rfl,hsame,hst,hso,hR1,hg⟩:=hrel;have HA:=G hsame;have HT:=G hst;have HO:=G hso;clear hsame hst hso;by_cases hlt:k<q
 ·obtain⟨wo,rfl⟩:∃wo:Wv,wo=wr:=⟨_,rfl⟩
  go_wp2;go_loopw [9] (fun i wr=>∃(j:Nat)(d2:List Rg),j<=k/\i=I J j/\Srt.Same d d2 0 q/\Srt.St dM d d2/\Srt.Ins dM d2 0 k j/\dD wr base g d.length c d2/\w.grownBy wr (Z g)) (fun i _=>(intOf i).toNat)
  case atStart=>exact⟨k,d1,Nat.le_refl _,rfl,HA.out,HT.out,Srt.Ins.start HO.out,hR1,hg⟩
  obtain⟨j,d2,hj2,rfl,hsame,hst,hins,hR2,hg2⟩:=hrel;have HA2:=G hsame;have HT2:=G hst;have HI:=G hins;clear hsame hst hins;by_cases hpj:0<j
  ·have hjn:j<d.length:=by omega
   obtain⟨x,hx⟩:=rH (d:=d2) (i:=j-1) (by rw[HA2.out.1];omega);obtain⟨y,hy⟩:=rH (d:=d2) (i:=j) (by rw[HA2.out.1];omega);obtain⟨x1,x2⟩:=hR2.cells hx;obtain⟨y1,y2⟩:=hR2.cells hy;have HX:=G hx;have HY:=G hy;have C:=G (fun W=>OW y x (HOK.out y (mP HT2.out (List.mem_of_getElem? hy))) (HOK.out x (mP HT2.out (List.mem_of_getElem? hx))) W);clear hx hy;have i0:decide ((0:Int)<(j:Int))=true:=by simp;omega
   have i1:IntKind.i64.wrap ((j:Int)-1)=(j:Int)-1:=IntWalk.i64_in _ (by omega);have i2:(0:Int)<=(j:Int)-1:=by omega
   have i2':(1:Int)<=(j:Int):=by omega
   have i2'':1<=j:=by omega
   have i3:((j:Int)-1).toNat=j-1:=by omega
   have i4:(j:Int)-1<(d.length:Int):=by omega
   have i5:(j:Int)<(d.length:Int):=by omega
   unfold rv at C;go_wp2;refine wp_region_still_tail 14 (by kernel_rfl) (by kernel_rfl) ?_;simp only[List.take_succ_cons,List.take_zero,List.drop_succ_cons,List.drop_zero];change wpStill _ _ wr.drew _ _ _;repeat still_step
   refine wpStill_nil ?_;change wpList _ _ _ _ _ wr.drew;go_wp2_with fail;refine(C.out _).mono ?_;rintro e w3 ⟨cc,rfl,hcc,hb3⟩;have hR3:=(hR2.drew).keep hb3;have hg3:=rM (wA hg2) hb3;obtain⟨x1',x2'⟩:=hR3.cells HX.out;obtain⟨y1',y2'⟩:=hR3.cells HY.out;have fr:=hR3.frozen;clear hR2 hg2 hb3 x1 x2 y1 y2;by_cases hkey:dM y<dM x
   ·have hneg:cc<0:=hcc.2 hkey
    have HKEY:=G hkey;clear hcc hkey;have hne:¬(j-1=j):=by omega
    have HR3:=G hR3;clear hR3;go_wp2;go_region;go_wp2_with fail;go_roundw
    case rel=>
     have st1:=HR3.out.set (i:=j) (by rw[HA2.out.1];omega) x;have st2:=st1.1.set (i:=j-1) (by rw[List.length_set,HA2.out.1];omega) y;refine⟨j-1,Srt.swp d2 (j-1) j x y,by omega,by go_num,HA2.out.trans (Srt.swp_same HX.out HY.out (by omega) (by omega) (by omega) (by omega) (by omega)),HT2.out.trans ?_,?_,?_,?_⟩
     ·have:=Srt.swp_done (key:=dM) (d:=d2) (j:=j-1) HX.out (by rw[show j-1+1=j by omega];exact HY.out) HKEY.out
      rw[show j-1+1=j by omega]at this;exact this
     ·have:=Srt.Ins.step (key:=dM) (d:=d2) (a:=0) (i:=k) (j:=j-1) (x:=x) (y:=y) (by rw[show j-1+1=j by omega];exact HI.out) (by omega) (by omega) HX.out (by rw[show j-1+1=j by omega];exact HY.out) HKEY.out
      rw[show j-1+1=j by omega]at this;exact this
     ·rw[Srt.swp,List.set_comm _ _ (by omega)]
      exact st2.1.drew
     exact wA (rO hg3 (rO st1.2 st2.2))
    simp[intOf];omega
   have hneg:¬cc<0:=fun h=>hkey (hcc.1 h)
   clear hcc;go_wp2;go_roundw
   case rel=>
    refine⟨k+1,d2,by omega,.inl (by omega),by go_num,HA2.out,HT2.out,HI.out.stop (by omega) hj2 (.inr ?_),hR3,hg3⟩;rw[Srt.kf_some HX.out,Srt.kf_some HY.out];omega
   simp[intOf];omega
  have i0:decide ((0:Int)<(j:Int))=false:=by simp;omega
  go_wp2;go_quiet(fail);go_wp2;go_roundw
  case rel=>exact⟨k+1,d2,by omega,.inl (by omega),by go_num,HA2.out,HT2.out,HI.out.stop (by omega) hj2 (.inl (by omega)),hR2.drewN _,KM hg2 _⟩
  simp[intOf];omega
 go_wp2;go_end0;refine⟨rfl,d1,⟨HA.out,HT.out,?_⟩,hR1,hg⟩;by_cases hkq:q<=k
 ·exact HO.out.sub (Nat.le_refl _) hkq
 omega
theorem QZ(base g n c:Nat)(z:Int)(d:List Rg)(w:Wv)(hR:dD w base g n c d)(hbig:n<=12)(hok:∀x∈d,cV x):
  Calls prog 207 #[H (Z ⟨g,0,N⟩) n c,I J 0,I J n,I J z,.func (.func 198) #[] #[]] w
   (qB (fun d'=>Srt.Done dM d d' 0 n) base g n c w):=by
 have C:=G (MD base g n c n d w hR (Nat.le_refl _) (by omega) hok);clear hR hok;have q1:decide ((n:Int)<=12)=true:=by simp;omega
 have q2:decide (n<=12)=true:=by simp;omega
 go_enter func207,ntmps207;go_wp2_with fail;refine wp_loop_rounds 1 ?_;rw[rounds_succ];go_wp2_with fail;refine C.out.mono ?_;rintro e w1 ⟨rfl,d1,hD,hR1,hg1⟩;have HD:=G (And.intro hD (And.intro hR1 hg1));clear hD hR1 hg1;go_wp2_with fail;go_end0;exact⟨rfl,d1,HD.out.1,HD.out.2.1,HD.out.2.2⟩
end
end Go.Proofs.YtkhmjidaeliccaaGreatDoor
