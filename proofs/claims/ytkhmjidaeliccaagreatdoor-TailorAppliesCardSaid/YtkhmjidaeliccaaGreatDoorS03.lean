import Derived.Test.YtkhmjidaeliccaaGreatDoorS02
import Derived.DeepKeys4
import Derived.StillTailTactics
set_option maxRecDepth 100000
set_option maxHeartbeats 51200000
namespace Go.Proofs.YtkhmjidaeliccaaGreatDoor
open Option renaming none->N,some->Z
open Value renaming int->I,slice->H
open IntKind renaming i64->J
open Go.Proofs.Tryz
section
open Go.RowKit Go.Maps Go.WideMaps
theorem zM(s:ByteArray)(w:Wv)(hs:s.size<=9223372036854775807):
  Calls prog 194 #[.string s] w λe w'=>e=.returned (.bool (cF s))/\w=w':=by
 by_cases h1:s.size=0
 ·have z:s.toList=[]:=iH h1
  have hn:cF s=false:=by unfold cF;simp[h1]
  rw[hn];go_enter func194,ntmps194;go_wp2;go_ret;exact⟨rfl,rfl⟩
 have z:¬s.toList=[]:=iG h1;have C:s.toList.isEmpty=false:=by simpa using z
 by_cases h2:32<s.size
 ·have hn:cF s=false:=by
   unfold cF;have:¬s.size<=32:=O;simp[this]
  rw[hn];have D:decide ((32:Int)<(s.size:Int))=true:=oU_;go_enter func194,ntmps194;go_wp2;go_ret;exact⟨rfl,rfl⟩
 have D:decide ((32:Int)<(s.size:Int))=false:=oU_;have x:=G (λk(hk:k<s.size)h=>tY hk h);have B:=G (λh=>show cF s=true by rw[tX (s:=s) h,decide_eq_true (show 1<=s.size by omega),decide_eq_true (show s.size<=32 by omega)];rfl);generalize cF s=R at *;go_enter func194,ntmps194;go_wp2;go_loop [15] (λi=>∃k:Nat,k<=s.size/\i=I J k/\∀j,(hj:j<s.size)->j<k->nmc (s[j].toNat:Int)) (λi=>s.size-(intOf i).toNat)
 case atStart=>exact⟨0,Nat.zero_le _,rfl,λj _ h=>O⟩
 obtain⟨k,hk,rfl,q⟩:=hrel;have y:=G q;clear q;by_cases hlt:k<s.size
 ·have r:=G (λh=>x.o k hlt h)
  have t:=G (λ(h:nmc (s[k].toNat:Int))=>show ∀j,(hj:j<s.size)->j<k+1->nmc (s[j].toNat:Int)from λj hj hj2=>by
   by_cases e:j<k
   ·exact y.o j hj e
   ·obtain rfl:j=k:=O
    exact h)
  have p:=U (nmc (s[k].toNat:Int) ↔ ((65<=(s[k].toNat:Int)/\(s[k].toNat:Int)<=90)\/(97<=(s[k].toNat:Int)/\(s[k].toNat:Int)<=122)\/(48<=(s[k].toNat:Int)/\(s[k].toNat:Int)<=57)\/(s[k].toNat:Int)=95)) Iff.rfl;have A:=s[k].toNat_lt;obtain⟨b,c⟩|⟨b,c⟩|⟨b,c⟩|⟨b,c⟩|⟨b,c⟩|⟨b,c⟩|⟨b,c⟩|⟨b,c⟩|⟨b,c⟩:(0<=(s[k].toNat:Int)/\(s[k].toNat:Int)<=47)\/(48<=(s[k].toNat:Int)/\(s[k].toNat:Int)<=57)\/(58<=(s[k].toNat:Int)/\(s[k].toNat:Int)<=64)\/(65<=(s[k].toNat:Int)/\(s[k].toNat:Int)<=90)\/(91<=(s[k].toNat:Int)/\(s[k].toNat:Int)<=94)\/(95<=(s[k].toNat:Int)/\(s[k].toNat:Int)<=95)\/(96<=(s[k].toNat:Int)/\(s[k].toNat:Int)<=96)\/(97<=(s[k].toNat:Int)/\(s[k].toNat:Int)<=122)\/(123<=(s[k].toNat:Int)/\(s[k].toNat:Int)<=255):=O
  ·have f:decide (65<=(s[k].toNat:Int))=false:=decide_eq_false O
   have g:decide (97<=(s[k].toNat:Int))=false:=decide_eq_false O;have l:decide (48<=(s[k].toNat:Int))=false:=decide_eq_false O;have m:decide ((s[k].toNat:Int)<=90)=true:=decide_eq_true O;have n:decide ((s[k].toNat:Int)<=122)=true:=decide_eq_true O;have o:decide ((s[k].toNat:Int)<=57)=true:=decide_eq_true O;have d:((s[k].toNat:Int)!=95)=true:=bne_iff_ne.2 O;have a:=G (r.o (λh=>by have v:=p.o.1 h;omega));go_wp2;go_ret;exact⟨cY a.o.symm,rfl⟩
  ·have f:decide (65<=(s[k].toNat:Int))=false:=decide_eq_false O
   have g:decide (97<=(s[k].toNat:Int))=false:=decide_eq_false O;have l:decide (48<=(s[k].toNat:Int))=true:=decide_eq_true O;have m:decide ((s[k].toNat:Int)<=90)=true:=decide_eq_true O;have n:decide ((s[k].toNat:Int)<=122)=true:=decide_eq_true O;have o:decide ((s[k].toNat:Int)<=57)=true:=decide_eq_true O;have d:((s[k].toNat:Int)!=95)=true:=bne_iff_ne.2 O;have a:=G (t.o (p.o.2 O));go_wp2;go_round
   case rel=>exact⟨k+1,O,oN_,a.o⟩
   exact oI_
  ·have f:decide (65<=(s[k].toNat:Int))=false:=decide_eq_false O
   have g:decide (97<=(s[k].toNat:Int))=false:=decide_eq_false O;have l:decide (48<=(s[k].toNat:Int))=true:=decide_eq_true O;have m:decide ((s[k].toNat:Int)<=90)=true:=decide_eq_true O;have n:decide ((s[k].toNat:Int)<=122)=true:=decide_eq_true O;have o:decide ((s[k].toNat:Int)<=57)=false:=decide_eq_false O;have d:((s[k].toNat:Int)!=95)=true:=bne_iff_ne.2 O;have a:=G (r.o (λh=>by have v:=p.o.1 h;omega));go_wp2;go_ret;exact⟨cY a.o.symm,rfl⟩
  ·have f:decide (65<=(s[k].toNat:Int))=true:=decide_eq_true O
   have g:decide (97<=(s[k].toNat:Int))=false:=decide_eq_false O;have l:decide (48<=(s[k].toNat:Int))=true:=decide_eq_true O;have m:decide ((s[k].toNat:Int)<=90)=true:=decide_eq_true O;have n:decide ((s[k].toNat:Int)<=122)=true:=decide_eq_true O;have o:decide ((s[k].toNat:Int)<=57)=false:=decide_eq_false O;have d:((s[k].toNat:Int)!=95)=true:=bne_iff_ne.2 O;have a:=G (t.o (p.o.2 O));go_wp2;go_round
   case rel=>exact⟨k+1,O,oN_,a.o⟩
   exact oI_
  ·have f:decide (65<=(s[k].toNat:Int))=true:=decide_eq_true O
   have g:decide (97<=(s[k].toNat:Int))=false:=decide_eq_false O;have l:decide (48<=(s[k].toNat:Int))=true:=decide_eq_true O;have m:decide ((s[k].toNat:Int)<=90)=false:=decide_eq_false O;have n:decide ((s[k].toNat:Int)<=122)=true:=decide_eq_true O;have o:decide ((s[k].toNat:Int)<=57)=false:=decide_eq_false O;have d:((s[k].toNat:Int)!=95)=true:=bne_iff_ne.2 O;have a:=G (r.o (λh=>by have v:=p.o.1 h;omega));go_wp2;go_ret;exact⟨cY a.o.symm,rfl⟩
  ·have f:decide (65<=(s[k].toNat:Int))=true:=decide_eq_true O
   have g:decide (97<=(s[k].toNat:Int))=false:=decide_eq_false O;have l:decide (48<=(s[k].toNat:Int))=true:=decide_eq_true O;have m:decide ((s[k].toNat:Int)<=90)=false:=decide_eq_false O;have n:decide ((s[k].toNat:Int)<=122)=true:=decide_eq_true O;have o:decide ((s[k].toNat:Int)<=57)=false:=decide_eq_false O;have d:((s[k].toNat:Int)!=95)=false:=bne_eq_false_iff_eq.2 O;have a:=G (t.o (p.o.2 O));go_wp2;go_round
   case rel=>exact⟨k+1,O,oN_,a.o⟩
   exact oI_
  ·have f:decide (65<=(s[k].toNat:Int))=true:=decide_eq_true O
   have g:decide (97<=(s[k].toNat:Int))=false:=decide_eq_false O;have l:decide (48<=(s[k].toNat:Int))=true:=decide_eq_true O;have m:decide ((s[k].toNat:Int)<=90)=false:=decide_eq_false O;have n:decide ((s[k].toNat:Int)<=122)=true:=decide_eq_true O;have o:decide ((s[k].toNat:Int)<=57)=false:=decide_eq_false O;have d:((s[k].toNat:Int)!=95)=true:=bne_iff_ne.2 O;have a:=G (r.o (λh=>by have v:=p.o.1 h;omega));go_wp2;go_ret;exact⟨cY a.o.symm,rfl⟩
  ·have f:decide (65<=(s[k].toNat:Int))=true:=decide_eq_true O
   have g:decide (97<=(s[k].toNat:Int))=true:=decide_eq_true O;have l:decide (48<=(s[k].toNat:Int))=true:=decide_eq_true O;have m:decide ((s[k].toNat:Int)<=90)=false:=decide_eq_false O;have n:decide ((s[k].toNat:Int)<=122)=true:=decide_eq_true O;have o:decide ((s[k].toNat:Int)<=57)=false:=decide_eq_false O;have d:((s[k].toNat:Int)!=95)=true:=bne_iff_ne.2 O;have a:=G (t.o (p.o.2 O));go_wp2;go_round
   case rel=>exact⟨k+1,O,oN_,a.o⟩
   exact oI_
  have f:decide (65<=(s[k].toNat:Int))=true:=decide_eq_true O;have g:decide (97<=(s[k].toNat:Int))=true:=decide_eq_true O;have l:decide (48<=(s[k].toNat:Int))=true:=decide_eq_true O;have m:decide ((s[k].toNat:Int)<=90)=false:=decide_eq_false O;have n:decide ((s[k].toNat:Int)<=122)=false:=decide_eq_false O;have o:decide ((s[k].toNat:Int)<=57)=false:=decide_eq_false O;have d:((s[k].toNat:Int)!=95)=true:=bne_iff_ne.2 O;have a:=G (r.o (λh=>by have v:=p.o.1 h;omega));go_wp2;go_ret;exact⟨cY a.o.symm,rfl⟩
 obtain rfl:=B.o (λj hj=>y.o j hj O);go_wp2;go_ret;exact⟨rfl,rfl⟩
theorem tI(x:ByteArray)(w:Wv):Calls prog 206 #[.string x] w λe w'=>e=.returned (.bool false)/\w=w':=by
 go_enter func206,ntmps206;go_wp2;go_ret;exact⟨L,rfl⟩
theorem LQ(x y:ByteArray)(w:Wv):Calls prog 196 #[.string x,.string y] w λe w'=>e=.returned (I J (lD x y))/\w=w':=by
 unfold lD;have c:=G (λh1 h2=>show(x.toList==y.toList)=true by rw[JM (a:=x) (b:=y) h1 h2];simp);have d:=G (λ(h2:bl y x=true)=>show(x.toList==y.toList)=false from uS (λe=>by rw[e,wA]at h2;cases h2));unfold bl at *;cases h1:Op.bytesLess x.toList y.toList
 ·cases h2:Op.bytesLess y.toList x.toList
  ·have q:=c.o h1 h2
   simp only[Bool.false_eq_true,if_false];go_enter func196,ntmps196;go_wp2_with(go_at_call 206;refine(tI _ _).mono ?_;rintro e w' ⟨rfl,rfl⟩);go_ret;exact⟨rfl,rfl⟩
  have q:=d.o h2;simp only[Bool.false_eq_true,if_false,if_true];go_enter func196,ntmps196;go_wp2_with(go_at_call 206;refine(tI _ _).mono ?_;rintro e w' ⟨rfl,rfl⟩);go_ret;exact⟨rfl,rfl⟩
 simp only[if_true];go_enter func196,ntmps196;go_wp2_with(go_at_call 206;refine(tI _ _).mono ?_;rintro e w' ⟨rfl,rfl⟩);go_ret;exact⟨rfl,rfl⟩
def orI(x y:Int):Int:=if x=0 then y else x
theorem AO(b:Nat)(c:Nat)(x y:Int)(w:Wv)(hA:aA w (Z ⟨b,0,N⟩) [x,y]):
  Calls prog 195 #[H (Z ⟨b,0,N⟩) 2 c] w λe w'=>e=.returned (I J (orI x y))/\w=w':=by
 obtain⟨s,t,a,hc⟩:=hA.at (k:=0) L;injection a with a;injection a with a f;subst a;subst f;have q:=hc 0 L;have r:=hc 1 L;simp only[List.getElem_cons_zero,List.getElem_cons_succ]at q r;clear hc hA;have p:=G (λ(h:x≠0)=>show orI x y=x by unfold orI;rw[if_neg h]);have j:=G (λ(h:x=0)=>show orI x y=y by unfold orI;rw[if_pos h]);generalize orI x y=R at *;go_enter func195,ntmps195;go_wp2;go_loop [8] (λu=>∃k:Nat,k<=2/\u=I J k/\(1<=k->x=0)/\(2<=k->y=0)) (λu=>2-(intOf u).toNat)
 case atStart=>exact⟨0,O,rfl,λh=>O,λh=>O⟩
 obtain⟨k,hk,rfl,f,l⟩:=hrel;have i:=G f;have m:=G l;clear f l;obtain rfl|rfl|rfl:k=0\/k=1\/k=2:=O
 ·by_cases hx:x=0
  ·have g:(x !=0)=false:=by simpa using hx
   have d:=G hx;clear hx;go_wp2;go_round
   case rel=>exact⟨1,O,rfl,λ_=>d.o,λh=>O⟩
   simp[intOf]
  have g:(x !=0)=true:=by simpa using hx
  obtain rfl:=p.o hx;clear hx;go_wp2;go_ret;exact⟨rfl,rfl⟩
 ·have d:=G (i.o O)
  by_cases hy:y=0
  ·have g:(y !=0)=false:=by simpa using hy
   have o:=G hy;clear hy;go_wp2;go_round
   case rel=>exact⟨2,O,rfl,λ_=>d.o,λ_=>o.o⟩
   simp[intOf]
  have g:(y !=0)=true:=by simpa using hy
  obtain rfl:=j.o d.o;clear hy;go_wp2;go_ret;exact⟨rfl,rfl⟩
 have e:=j.o (i.o O);have n:=G (e.trans (m.o O));clear e;go_wp2;go_ret;exact⟨aH n.o.symm,rfl⟩
theorem LX(a b:Mp):orI (dM a.frm b.frm) (lD a.tag b.tag)=dU a b:=by
 unfold orI dM dU;by_cases h1:a.frm<b.frm
 ·simp[h1]
 by_cases h2:b.frm<a.frm<;>simp[h1,h2]
theorem RY(a b:Mp)(va vb:Value)(w:Wv):
  Calls prog 177 #[.agg #[I J a.frm,va,.string a.tag],.agg #[I J b.frm,vb,.string b.tag]] w (aU (dU a b) w):=by
 have n:By w ((w.alloc (.cells #[I J a.frm,va,.string a.tag] 154)).alloc (.cells #[I J b.frm,vb,.string b.tag] 154)):=(ba _ _).alloc L _;have s:((w.alloc (.cells #[I J a.frm,va,.string a.tag] 154)).alloc (.cells #[I J b.frm,vb,.string b.tag] 154)).heap.size=w.heap.size+2:=L;have h:(λW':Wv=>W'.cell? ⟨w.heap.size,0,N⟩=Z (I J a.frm)/\W'.cell? ⟨w.heap.size,2,N⟩=Z (.string a.tag)/\W'.cell? ⟨w.heap.size+1,0,N⟩=Z (I J b.frm)/\W'.cell? ⟨w.heap.size+1,2,N⟩=Z (.string b.tag)) ((w.alloc (.cells #[I J a.frm,va,.string a.tag] 154)).alloc (.cells #[I J b.frm,vb,.string b.tag] 154)):=by refine⟨?_,?_,?_,?_⟩<;>simp
 have o:∃c,((w.alloc (.cells #[I J a.frm,va,.string a.tag] 154)).alloc (.cells #[I J b.frm,vb,.string b.tag] 154))=c:=⟨_,rfl⟩;have q:=G (LX a b);generalize dU a b=R at *;obtain⟨fa,ta,d⟩:=a;obtain⟨fb,tb,f⟩:=b;dsimp only at *;go_enter func177,ntmps177;go_wp2_with fail;obtain⟨c,k⟩:=o;rw[k]at n s h|-;clear k;have l:w.heap.size<c.heap.size:=O;have m:w.heap.size+1<c.heap.size:=O;refine wp_region_held_drew (S:=λW'=>W'.cell? ⟨w.heap.size,0,N⟩=Z (I J fa)/\W'.cell? ⟨w.heap.size,2,N⟩=Z (.string d)/\W'.cell? ⟨w.heap.size+1,0,N⟩=Z (I J fb)/\W'.cell? ⟨w.heap.size+1,2,N⟩=Z (.string f)) oK_ h (λhHeld=>?_);refine tK 0 5 ?_;refine tK 1 6 ?_;refine tK 2 7 ?_;refine tK 3 8 ?_;refine tK 5 10 ?_;refine tK 6 11 ?_;refine tK 7 12 ?_;refine tK 8 13 ?_;refine lZ (R:=λW'=>c.drew=W') (i:=4) (Z 9) rfl rfl oK_ oR_ oS_ ((mA fa fb c.drew).mono (R':=λe w'=>e=.returned (I J (dM fa fb))/\_/\c.drew=w') (λe w'⟨he,hw⟩=>⟨he,by subst hw;exact hHeld,hw⟩)) (λw6 hS6 hR6=>?_);subst hR6;clear hS6;try simp only[Act.put,sA,sB,sC]
 refine lZ (R:=λW'=>c.drew=W') (i:=9) (Z 14) rfl rfl oK_ oR_ oS_ ((LQ d f c.drew).mono (R':=λe w'=>e=.returned (I J (lD d f))/\_/\c.drew=w') (λe w'⟨he,hw⟩=>⟨he,by subst hw;exact hHeld,hw⟩)) (λw6 hS6 hR6=>?_);subst hR6;clear hS6;try simp only[Act.put,sA,sB,sC]
 generalize dM fa fb=x at *;generalize lD d f=y at *;have g:By c (c.drew.alloc (.cells #[I J x,I J y] 3)):=((Below.refl _ _).drew).alloc (Nat.le_refl _) _;have j:(λW':Wv=>W'.cell? ⟨w.heap.size,0,N⟩=Z (I J fa)/\W'.cell? ⟨w.heap.size,2,N⟩=Z (.string d)/\W'.cell? ⟨w.heap.size+1,0,N⟩=Z (I J fb)/\W'.cell? ⟨w.heap.size+1,2,N⟩=Z (.string f)) (c.drew.alloc (.cells #[I J x,I J y] 3)):=⟨(g.cell (p:=⟨w.heap.size,0,N⟩) l).trans hHeld.1,(g.cell (p:=⟨w.heap.size,2,N⟩) l).trans hHeld.2.1,(g.cell (p:=⟨w.heap.size+1,0,N⟩) m).trans hHeld.2.2.1,(g.cell (p:=⟨w.heap.size+1,2,N⟩) m).trans hHeld.2.2.2⟩;have r:=fI c.drew [x,y] 3 rfl;refine fK (w':=c.drew.alloc (.cells #[I J x,I J y] 3)) (v:=H (Z ⟨c.drew.heap.size,0,N⟩) 2 2) (i:=10) (Z 15) rfl rfl oK_ oR_ oS_ j ?_;try simp only[Act.put,sA,sB,sC]
 refine lZ (R:=λW'=>c.drew.alloc (.cells #[I J x,I J y] 3)=W') (i:=11) (Z 16) rfl rfl oK_ oR_ oS_ ((AO _ 2 x y _ r).mono (R':=λe w'=>e=.returned (I J (orI x y))/\_/\c.drew.alloc (.cells #[I J x,I J y] 3)=w') (λe w'⟨he,hw⟩=>⟨he,by subst hw;exact j,hw⟩)) (λw6 hS6 hR6=>?_);subst hR6;try simp only[Act.put,sA,sB,sC]
 refine tK 12 4 ?_;refine wpAnyH_done oK_ ?_ _;go_wp2;go_ret;exact⟨aH q.o,n.trans (g.mono n.size)⟩
def mF(x:Int×ByteArray):Value:=.agg #[I J x.1,.string x.2]
theorem WY(tmps:Array Value)(w:Wv){b:Nat}{z0:Int}{s1:ByteArray}(ha:tmps.getD 2 undef=.pointer (Z ⟨b,0,N⟩))
  (c0:w.cell? ⟨b,0,N⟩=Z (I J z0)) (c1:w.cell? ⟨b,1,N⟩=Z (.string s1)) :
  (results f178 tmps).run prog w=.ok (.agg #[I J z0,.string s1]) w:=by
 have hr:f178.results=#[.cell 2 226]:=rfl;unfold results;rw[hr];simp only[ha,List.mapM_toArray,List.mapM_cons,List.mapM_nil,asAddr];go_simp
theorem R_(a:Mp)(va:Value)(w:Wv):
  Calls prog 178 #[.agg #[I J a.frm,va,.string a.tag]] w (λe w'=>e=.returned (mF (aY a))/\By w w'):=by
 go_enter func178,ntmps178;go_wp2_with fail;(try simp only[Exit.inBlock,Exit.then]);refine bodyPost_ret (WY _ _ (b:=w.heap.size+1) (z0:=a.frm) (s1:=a.tag) rfl oS_ oS_) rfl ?_;exact⟨rfl,(ba _ _).alloc L _⟩
theorem pQ:Keyed prog 226:=Keyed.of_law (deep_law_laid oK_ (m:=2) O (of_decide_eq_true oK_) oK_ oK_)
noncomputable def nA(x:Int×ByteArray):Lit:=(keyOf prog 226 (mF x)).getD (.bool false)
def mok(x:Int×ByteArray):Prop:=(Lit.int .i64 x.1).wf=true/\x.2.size<=maxLen
theorem oA{x:Int×ByteArray}(h:mok x):keyOf prog 226 (mF x)=Z (nA x):=by
 have g:(keyOf prog 226 (mF x)).isSome=true:=by
  obtain⟨f,t⟩:=x;obtain⟨d,e⟩:=h;dsimp only at d e;have hk:prog.keyType 226=true:=oK_;have hu:=underlying226;have hi:=underlying3;have hs:=underlying9;have a:prog.cellsOf 226=2:=oK_;have b:prog.cellsOf 3=1:=oK_;have c:prog.cellsOf 9=1:=oK_;obtain⟨m,hm⟩:∃m,prog.types.size=m+1:=⟨prog.types.size-1,oK_⟩;unfold keyOf mF;rw[hu];simp only[hk,hm,Value.formed,hu,a];unfold Program.keyLits;rw[hu];simp only[a];simp[Program.keyLits,hi,hs,b,c,d,e,Value.cells]
 unfold nA;cases hk:keyOf prog 226 (mF x)with
 |none=>rw[hk]at g;cases g
 |some y=>rfl
theorem SW{x y:Int×ByteArray}(hx:mok x)(hy:mok y)(h:nA x=nA y):x=y:=by
 have a:=oA hx;have b:=oA hy;rw[h]at a;have:=pQ.inj a b;obtain⟨c,d⟩:=x;obtain⟨e,f⟩:=y;unfold mF at this;simp at this;rw[this.1,this.2]
noncomputable instance (x:Int×ByteArray) (l:List (Int×ByteArray)):Decidable (x∈l):=Classical.propDecidable _
noncomputable def kV(l:List (Int×ByteArray))(x:Int×ByteArray):Option Value:=if x∈l then Z (.bool true)else N
theorem YR{l:List (Int×ByteArray)}{s:Int×ByteArray}(h:s∈l):(kV l s).getD (.bool false)=.bool true:=by unfold kV;rw[if_pos h];rfl
theorem YP{l:List (Int×ByteArray)}{s:Int×ByteArray}(h:s ∉ l):(kV l s).getD (.bool false)=.bool false:=by unfold kV;rw[if_neg h];rfl
theorem YQ(l:List (Int×ByteArray))(s x:Int×ByteArray):kV (l++[s]) x=if x=s then Z (.bool true)else kV l x:=by
 unfold kV;by_cases e:x=s
 ·simp[e]
 simp[e]
theorem GC(w:Wv):(zeroValue 4).run prog w=.ok (.bool false) w:=oK_
end
namespace Srt
section
variable {α:Type}(key:α->Int)
def kf(d:List α)(i:Nat):Int:=(d[i]?.map key).getD 0
def St(d d':List α):Prop:=∀k:Int,d'.filter (λx=>key x==k)=d.filter (λx=>key x==k)
def SortedOn(d:List α)(a b:Nat):Prop:=∀i j,a<=i->i<j->j<b->kf key d i<=kf key d j
def Same(d d':List α)(a b:Nat):Prop:=d'.length=d.length/\∀t,t<a\/b<=t->d'[t]?=d[t]?
variable {key}
theorem St.refl(d:List α):St key d d:=λ_=>rfl
theorem St.trans{a b c:List α}(h:St key a b)(g:St key b c):St key a c:=λk=>(g k).trans (h k)
theorem St.append{a a' b b':List α}(h:St key a a')(g:St key b b'):St key (a++b) (a'++b'):=λk=>by
 rw[List.filter_append,List.filter_append,h k,g k]
theorem St.flip{u v:List α}(h:∀x∈u,∀y∈v,key x≠key y):St key (u++v) (v++u):=λk=>by
 rw[List.filter_append,List.filter_append];by_cases hu:u.filter (λx=>key x==k)=[]
 ·rw[hu];simp
 have hv:v.filter (λx=>key x==k)=[]:=by
  rw[List.filter_eq_nil_iff];intro y hy hk;rw[List.filter_eq_nil_iff]at hu;apply hu;intro x hx a;exact h x hx y hy (by rw[eq_of_beq a,eq_of_beq hk])
 rw[hv];simp
theorem Same.refl(d:List α)(a b:Nat):Same d d a b:=⟨rfl,λ_ _=>rfl⟩
theorem Same.trans{x y z:List α}{a b:Nat}(h:Same x y a b)(g:Same y z a b):Same x z a b:=⟨g.1.trans h.1,λt ht=>(g.2 t ht).trans (h.2 t ht)⟩
theorem Same.mono{x y:List α}{a b a' b':Nat}(h:Same x y a b)(ha:a'<=a)(hb:b<=b'):Same x y a' b':=⟨h.1,λt ht=>h.2 t O⟩
theorem Same.kf{x y:List α}{a b t:Nat}(h:Same x y a b)(ht:t<a\/b<=t):kf key y t=kf key x t:=by unfold Srt.kf;rw[h.2 t ht]
def swp(d:List α)(i j:Nat)(x y:α):List α:=(d.set i y).set j x
def Rot(d d':List α)(a m b:Nat):Prop:=
 d'.length=d.length/\∀t,d'[t]?=if a<=t/\t<a+(b-m)then d[t+(m-a)]? else if a+(b-m)<=t/\t<b then d[t-(b-m)]? else d[t]?
theorem Rot.same{d d':List α}{a m b:Nat}(h:Rot d d' a m b)(h1:a<=m)(h2:m<=b):Same d d' a b:=
 ⟨h.1,λt ht=>by rw[h.2 t,if_neg O,if_neg O]⟩
theorem parts(d:List α)(a m b:Nat)(h1:a<=m)(h2:m<=b):d=d.take a++((d.drop a).take (m-a)++(d.drop m).take (b-m))++d.drop b:=by
 apply List.ext_getElem?;intro t;simp only[List.getElem?_append,List.length_append,List.length_take,List.length_drop,List.getElem?_take,List.getElem?_drop];by_cases hb:b<=d.length
 ·(repeat' split)<;>first|rfl|omega|(congr 1;omega)
 by_cases ht:t<d.length
 ·(repeat' split)<;>first|rfl|omega|(congr 1;omega)
 rw[List.getElem?_eq_none O];(repeat' split)<;>first|rfl|omega|(rw[List.getElem?_eq_none O])
theorem Rot.parts{d d':List α}{a m b:Nat}(h:Rot d d' a m b)(h1:a<=m)(h2:m<=b)(hb:b<=d.length):
  d'=d.take a++((d.drop m).take (b-m)++(d.drop a).take (m-a))++d.drop b:=by
 apply List.ext_getElem?;intro t;rw[h.2 t];simp only[List.getElem?_append,List.length_append,List.length_take,List.length_drop,List.getElem?_take,List.getElem?_drop];(repeat' split)<;>first|rfl|omega|(congr 1;omega)
theorem Rot.st{d d':List α}{a m b:Nat}(h:Rot d d' a m b)(h1:a<=m)(h2:m<=b)(hb:b<=d.length)
  (hk:∀i j,a<=i->i<m->m<=j->j<b->kf key d i≠kf key d j):St key d d':=by
 rw[h.parts h1 h2 hb];conv=>lhs;rw[Srt.parts d a m b h1 h2]
 refine St.append (St.append (St.refl _) (St.flip λx hx y hy=>?_)) (St.refl _);obtain⟨i,hi⟩:=List.mem_iff_getElem?.1 hx;obtain⟨j,hj⟩:=List.mem_iff_getElem?.1 hy;rw[List.getElem?_take]at hi hj;split at hi
 ·split at hj
  ·rw[List.getElem?_drop]at hi hj
   have:=hk (a+i) (m+j) O O O O;unfold Srt.kf at this;rw[hi,hj]at this;exact this
  cases hj
 cases hi
theorem swp_get(d:List α)(i j t:Nat)(x y:α)(hx:d[i]?=Z x)(hy:d[j]?=Z y)(hij:i≠j):
  (swp d i j x y)[t]?=if t=i then d[j]? else if t=j then d[i]? else d[t]?:=by
 have hi:i<d.length:=(List.getElem?_eq_some_iff.1 hx).1;have hj:j<d.length:=(List.getElem?_eq_some_iff.1 hy).1;unfold swp;simp only[List.getElem?_set,List.length_set];(repeat' split)<;>first|rfl|omega|(subst_vars;simp_all)
theorem swp_len(d:List α)(i j:Nat)(x y:α):(swp d i j x y).length=d.length:=by simp[swp]
theorem swp_rot(d:List α)(i:Nat)(x y:α)(hx:d[i]?=Z x)(hy:d[i+1]?=Z y):Rot d (swp d i (i+1) x y) i (i+1) (i+2):=by
 refine⟨swp_len _ _ _ _ _,λt=>?_⟩;rw[swp_get d i (i+1) t x y hx hy O];by_cases e1:t=i
 ·subst e1;rw[if_pos rfl,if_pos O];congr 1;omega
 rw[if_neg e1];by_cases e2:t=i+1
 ·subst e2;rw[if_pos rfl,if_neg O,if_pos O];congr 1;omega
 rw[if_neg e2,if_neg O,if_neg O]
theorem kf_some{d:List α}{i:Nat}{x:α}(h:d[i]?=Z x):kf key d i=key x:=by unfold kf;rw[h];rfl
theorem swp_kf(d:List α)(i j t:Nat)(x y:α)(hx:d[i]?=Z x)(hy:d[j]?=Z y)(hij:i≠j):
  kf key (swp d i j x y) t=if t=i then kf key d j else if t=j then kf key d i else kf key d t:=by
 unfold kf;rw[swp_get d i j t x y hx hy hij];(repeat' split)<;>rfl
def Ins(key:α->Int)(d:List α)(a i j:Nat):Prop:=
 (∀p q,a<=p->p<q->q<=i->p≠j->q≠j->kf key d p<=kf key d q)/\(∀q,j<q->q<=i->kf key d j<=kf key d q)
theorem Ins.start{d:List α}{a i:Nat}(h:SortedOn key d a i):Ins key d a i i:=
 ⟨λp q hp hpq hq _ hqj=>h p q hp hpq O,λq h1 h2=>O⟩
theorem Ins.step{d:List α}{a i j:Nat}{x y:α}(h:Ins key d a i (j+1))(hj:a<=j)(hji:j+1<=i)(hx:d[j]?=Z x)(hy:d[j+1]?=Z y)(hlt:key y<key x):
  Ins key (swp d j (j+1) x y) a i j:=by
 have kx:=kf_some (key:=key) hx;have ky:=kf_some (key:=key) hy;refine⟨λp q hp hpq hq hpj hqj=>?_,λq h1 h2=>?_⟩
 ·rw[swp_kf d j (j+1) p x y hx hy O,swp_kf d j (j+1) q x y hx hy O]
  rw[if_neg hpj,if_neg hqj];by_cases e1:p=j+1
  ·rw[if_pos e1]
   rw[if_neg O];exact h.1 j q hj O hq O O
  rw[if_neg e1];by_cases e2:q=j+1
  ·rw[if_pos e2]
   exact h.1 p j hp O O e1 O
  rw[if_neg e2];exact h.1 p q hp hpq hq e1 e2
 rw[swp_kf d j (j+1) j x y hx hy O,swp_kf d j (j+1) q x y hx hy O];rw[if_pos rfl,if_neg O];by_cases e2:q=j+1
 ·rw[if_pos e2];omega
 rw[if_neg e2];exact h.2 q O h2
theorem Ins.stop{d:List α}{a i j:Nat}(h:Ins key d a i j)(hj:a<=j)(hji:j<=i)(hend:j=a\/kf key d (j-1)<=kf key d j):SortedOn key d a (i+1):=by
 intro p q hp b hq;by_cases e1:p=j
 ·subst e1;exact h.2 q b O
 by_cases e2:q=j
 ·subst e2
  rcases hend with he|he
  ·omega
  by_cases e3:p=q-1
  ·subst e3;exact he
  have:=h.1 p (q-1) hp O O O O;omega
 exact h.1 p q hp b O e1 e2
def Done(key:α->Int)(d d':List α)(a b:Nat):Prop:=Same d d' a b/\St key d d'/\SortedOn key d' a b
theorem SortedOn.short{d:List α}{a b:Nat}(h:b<=a+1):SortedOn key d a b:=λi j h1 h2 h3=>O
theorem SortedOn.sub{d:List α}{a b a' b':Nat}(h:SortedOn key d a b)(ha:a<=a')(hb:b'<=b):SortedOn key d a' b':=λi j h1 h2 h3=>h i j O h2 O
theorem SortedOn.same{d d':List α}{a b x y:Nat}(h:SortedOn key d a b)(hs:Same d d' x y)(hd:b<=x\/y<=a):SortedOn key d' a b:=λi j h1 h2 h3=>by
 rw[hs.kf O,hs.kf O];exact h i j h1 h2 h3
theorem SortedOn.join{d:List α}{a m b:Nat}(h1:SortedOn key d a m)(h2:SortedOn key d m b)(h:∀i j,a<=i->i<m->m<=j->j<b->kf key d i<=kf key d j):SortedOn key d a b:=by
 intro i j hi c hj;by_cases e1:j<m
 ·exact h1 i j hi c e1
 by_cases e2:m<=i
 ·exact h2 i j e2 c hj
 exact h i j hi O O hj
theorem Rot.kf{d d':List α}{a m b:Nat}(h:Rot d d' a m b)(t:Nat):
  kf key d' t=if a<=t/\t<a+(b-m)then kf key d (t+(m-a))else if a+(b-m)<=t/\t<b then kf key d (t-(b-m))else kf key d t:=by
 unfold Srt.kf;rw[h.2 t];(repeat' split)<;>rfl
theorem Done.left{d d':List α}{a i b:Nat}(h:Rot d d' a (a+1) i)(hi:a+1<=i)(hib:i<=b)(hb:b<=d.length)(hs:SortedOn key d (a+1) b)
  (hlo:∀t,a+1<=t->t<i->kf key d t<kf key d a) (hhi:∀t,i<=t->t<b->kf key d a<=kf key d t):Done key d d' a b:=by
 refine⟨(h.same O O).mono (Nat.le_refl _) hib,h.st O hi O (λp q h1 h2 h3 h4=>?_),?_⟩
 ·obtain rfl:p=a:=O
  have:=hlo q h3 h4;omega
 intro p q hp c hq;rw[h.kf,h.kf];by_cases c1:p<a+(i-(a+1))
 ·rw[if_pos O]
  by_cases c2:q<a+(i-(a+1))
  ·rw[if_pos O];exact hs _ _ O O O
  rw[if_neg O];by_cases c3:q<i
  ·rw[if_pos O]
   have:=hlo (p+(a+1-a)) O O;rw[show q-(i-(a+1))=a by omega];omega
  rw[if_neg O];exact hs _ _ O O O
 rw[if_neg O];by_cases c3:p<i
 ·rw[if_pos O,if_neg O,if_neg O]
  rw[show p-(i-(a+1))=a by omega];exact hhi q O hq
 rw[if_neg O,if_neg O,if_neg O];exact hs _ _ O c hq
theorem Done.right{d d':List α}{a i m:Nat}(h:Rot d d' i m (m+1))(hi:i<=m)(hai:a<=i)(hb:m+1<=d.length)(hs:SortedOn key d a m)
  (hlo:∀t,a<=t->t<i->kf key d t<=kf key d m) (hhi:∀t,i<=t->t<m->kf key d m<kf key d t):Done key d d' a (m+1):=by
 refine⟨(h.same hi O).mono hai (Nat.le_refl _),h.st hi O hb (λp q h1 h2 h3 h4=>?_),?_⟩
 ·obtain rfl:q=m:=O
  have:=hhi p h1 h2;omega
 intro p q hp b hq;rw[h.kf,h.kf];by_cases c1:p<i
 ·rw[if_neg O,if_neg O]
  by_cases c2:q<i
  ·rw[if_neg O,if_neg O];exact hs _ _ hp b O
  by_cases c3:q=i
  ·rw[if_pos O,show q+(m-i)=m by omega];exact hlo p hp c1
  rw[if_neg O,if_pos O];exact hs _ _ hp O O
 by_cases c3:p=i
 ·rw[if_pos O,if_neg O,if_pos O,show p+(m-i)=m by omega]
  have:=hhi (q-(m+1-m)) O O;omega
 rw[if_neg O,if_pos O,if_neg O,if_pos O];exact hs _ _ O O O
structure Found(key:α->Int)(d:List α)(a m b st:Nat):Prop where
 lo:a<=st
 hi:st<=m
 en:m<=(a+b)/2+m-st
 en2:(a+b)/2+m-st<=b
 mid:st<=(a+b)/2
 yes:∀i j,a<=i->i<st->(a+b)/2+m-st<=j->j<b->kf key d i<=kf key d j
 no:∀i j,st<=i->i<m->m<=j->j<(a+b)/2+m-st->kf key d j<kf key d i
theorem Found.halves{d d1:List α}{a m b st:Nat}(f:Found key d a m b st)(hb:b<=d.length)(h1:SortedOn key d a m)(h2:SortedOn key d m b)(h:Rot d d1 st m ((a+b)/2+m-st)):
  Same d d1 a b/\St key d d1/\SortedOn key d1 a st/\SortedOn key d1 st ((a+b)/2)/\SortedOn key d1 ((a+b)/2) ((a+b)/2+m-st)/\SortedOn key d1 ((a+b)/2+m-st) b/\
   ∀i j,a<=i->i<(a+b)/2->(a+b)/2<=j->j<b->kf key d1 i<=kf key d1 j:=by
 obtain⟨r,l,n,s,w,t,o⟩:=f;generalize hM:(a+b)/2=M at *;have v:a<=M/\M<=b:=O;generalize hE:M+m-st=E at *;refine⟨(h.same l n).mono r s,h.st l n O (λp q c e g k=>by have:=o p q c e g k;omega),?_,?_,?_,?_,?_⟩
 ·intro p q c e g
  rw[h.kf,h.kf,if_neg O,if_neg O,if_neg O,if_neg O];exact h1 _ _ c e O
 ·intro p q c e g
  rw[h.kf,h.kf,if_pos O,if_pos O];exact h2 _ _ O O O
 ·intro p q c e g
  rw[h.kf,h.kf,if_neg O,if_pos O,if_neg O,if_pos O];exact h1 _ _ O O O
 ·intro p q c e g
  rw[h.kf,h.kf,if_neg O,if_neg O,if_neg O,if_neg O];exact h2 _ _ O e g
 intro p q c e g k;rw[h.kf,h.kf];by_cases c1:p<st
 ·rw[if_neg O,if_neg O]
  by_cases c2:q<E
  ·rw[if_neg O,if_pos O];exact h1 _ _ c O O
  rw[if_neg O,if_neg O];exact t _ _ c c1 O k
 rw[if_pos O];by_cases c2:q<E
 ·rw[if_neg O,if_pos O];exact Int.le_of_lt (o _ _ O O O O)
 rw[if_neg O,if_neg O];exact h2 _ _ O O k
theorem swp_done{d:List α}{j:Nat}{x y:α}(hx:d[j]?=Z x)(hy:d[j+1]?=Z y)(hlt:key y<key x):St key d (swp d j (j+1) x y):=
 (swp_rot d j x y hx hy).st O O (by have:=(List.getElem?_eq_some_iff.1 hy).1;omega) (λp q h1 h2 h3 h4=>by
  obtain rfl:p=j:=O
  obtain rfl:q=p+1:=O
  rw[kf_some hx,kf_some hy];omega)
theorem swp_same{d:List α}{i j a b:Nat}{x y:α}(hx:d[i]?=Z x)(hy:d[j]?=Z y)(hij:i≠j)(h1:a<=i)(h2:i<b)(h3:a<=j)(h4:j<b):Same d (swp d i j x y) a b:=
 ⟨swp_len _ _ _ _ _,λt ht=>by rw[swp_get d i j t x y hx hy hij,if_neg O,if_neg O]⟩
end
end Srt
section
open Go.RowKit Go.Maps Go.WideMaps
def dL(r:Rg):Prop:=0<=r.lo/\r.lo<=r.hi/\r.hi<=1114111
def eG(r:Rg):Int:=r.lo*2097152+r.hi
def rv(x:Rg):Value:=.agg #[I J x.lo,I J x.hi]
def GR(p:Prop)(w:Wv)(x:Ending)(w':Wv):Prop:=∃c:Int,x=.returned (I J c)/\(c<0 ↔ p)/\By w w'
theorem XN{a b:Rg}(ha:dL a)(hb:dL b):orI (dM a.lo b.lo) (dM a.hi b.hi)<0 ↔ eG a<eG b:=by
 unfold orI dM eG;unfold dL at ha hb;by_cases h1:a.lo<b.lo
 ·simp[h1];omega
 by_cases h2:b.lo<a.lo
 ·simp[h1,h2];omega
 by_cases h3:a.hi<b.hi
 ·simp[h1,h2,h3];omega
 by_cases h4:b.hi<a.hi
 ·simp[h1,h2,h3,h4];omega
 simp[h1,h2,h3,h4];omega
theorem SL(a b:Rg)(ha:dL a)(hb:dL b)(w:Wv):
  Calls prog 198 #[rv a,rv b] w (GR (eG a<eG b) w):=by
 have n:By w ((w.alloc (.cells #[I J a.lo,I J a.hi] 179)).alloc (.cells #[I J b.lo,I J b.hi] 179)):=(ba _ _).alloc L _;have r:((w.alloc (.cells #[I J a.lo,I J a.hi] 179)).alloc (.cells #[I J b.lo,I J b.hi] 179)).heap.size=w.heap.size+2:=L;have g:(λW':Wv=>W'.cell? ⟨w.heap.size,0,N⟩=Z (I J a.lo)/\W'.cell? ⟨w.heap.size,1,N⟩=Z (I J a.hi)/\W'.cell? ⟨w.heap.size+1,0,N⟩=Z (I J b.lo)/\W'.cell? ⟨w.heap.size+1,1,N⟩=Z (I J b.hi)) ((w.alloc (.cells #[I J a.lo,I J a.hi] 179)).alloc (.cells #[I J b.lo,I J b.hi] 179)):=by refine⟨?_,?_,?_,?_⟩<;>simp
 have m:∃c,((w.alloc (.cells #[I J a.lo,I J a.hi] 179)).alloc (.cells #[I J b.lo,I J b.hi] 179))=c:=⟨_,rfl⟩;have o:=G (XN ha hb);generalize (eG a<eG b)=R at *;unfold rv;obtain⟨al,ah⟩:=a;obtain⟨d,bh⟩:=b;dsimp only at *;clear ha hb;go_enter func198,ntmps198;go_wp2_with fail;obtain⟨c,j⟩:=m;rw[j]at n r g|-;clear j;have k:w.heap.size<c.heap.size:=O;have l:w.heap.size+1<c.heap.size:=O;refine wp_region_held_drew (S:=λW'=>W'.cell? ⟨w.heap.size,0,N⟩=Z (I J al)/\W'.cell? ⟨w.heap.size,1,N⟩=Z (I J ah)/\W'.cell? ⟨w.heap.size+1,0,N⟩=Z (I J d)/\W'.cell? ⟨w.heap.size+1,1,N⟩=Z (I J bh)) oK_ g (λhHeld=>?_);refine tK 0 5 ?_;refine tK 1 6 ?_;refine tK 2 7 ?_;refine tK 3 8 ?_;refine tK 5 10 ?_;refine tK 6 11 ?_;refine tK 7 12 ?_;refine tK 8 13 ?_;refine lZ (R:=λW'=>c.drew=W') (i:=4) (Z 9) rfl rfl oK_ oR_ oS_ ((mA al d c.drew).mono (R':=λe w'=>e=.returned (I J (dM al d))/\_/\c.drew=w') (λe w'⟨he,hw⟩=>⟨he,by subst hw;exact hHeld,hw⟩)) (λw6 hS6 hR6=>?_);subst hR6;clear hS6;try simp only[Act.put,sA,sB,sC]
 refine lZ (R:=λW'=>c.drew=W') (i:=9) (Z 14) rfl rfl oK_ oR_ oS_ ((mA ah bh c.drew).mono (R':=λe w'=>e=.returned (I J (dM ah bh))/\_/\c.drew=w') (λe w'⟨he,hw⟩=>⟨he,by subst hw;exact hHeld,hw⟩)) (λw6 hS6 hR6=>?_);subst hR6;clear hS6;try simp only[Act.put,sA,sB,sC]
 generalize dM al d=x at *;generalize dM ah bh=y at *;have f:By c (c.drew.alloc (.cells #[I J x,I J y] 3)):=((Below.refl _ _).drew).alloc (Nat.le_refl _) _;have h:(λW':Wv=>W'.cell? ⟨w.heap.size,0,N⟩=Z (I J al)/\W'.cell? ⟨w.heap.size,1,N⟩=Z (I J ah)/\W'.cell? ⟨w.heap.size+1,0,N⟩=Z (I J d)/\W'.cell? ⟨w.heap.size+1,1,N⟩=Z (I J bh)) (c.drew.alloc (.cells #[I J x,I J y] 3)):=⟨(f.cell (p:=⟨w.heap.size,0,N⟩) k).trans hHeld.1,(f.cell (p:=⟨w.heap.size,1,N⟩) k).trans hHeld.2.1,(f.cell (p:=⟨w.heap.size+1,0,N⟩) l).trans hHeld.2.2.1,(f.cell (p:=⟨w.heap.size+1,1,N⟩) l).trans hHeld.2.2.2⟩;have q:=fI c.drew [x,y] 3 rfl;refine fK (w':=c.drew.alloc (.cells #[I J x,I J y] 3)) (v:=H (Z ⟨c.drew.heap.size,0,N⟩) 2 2) (i:=10) (Z 15) rfl rfl oK_ oR_ oS_ h ?_;try simp only[Act.put,sA,sB,sC]
 refine lZ (R:=λW'=>c.drew.alloc (.cells #[I J x,I J y] 3)=W') (i:=11) (Z 16) rfl rfl oK_ oR_ oS_ ((AO _ 2 x y _ q).mono (R':=λe w'=>e=.returned (I J (orI x y))/\_/\c.drew.alloc (.cells #[I J x,I J y] 3)=w') (λe w'⟨he,hw⟩=>⟨he,by subst hw;exact h,hw⟩)) (λw6 hS6 hR6=>?_);subst hR6;try simp only[Act.put,sA,sB,sC]
 refine tK 12 4 ?_;refine wpAnyH_done oK_ ?_ _;go_wp2;go_ret;exact⟨_,rfl,o.o,tb n f⟩
def dY(w:Wv)(base g n c:Nat)(d:List Rg):Prop:=w.ownsRow base 179 2 (H (Z ⟨g,0,N⟩) n c) n (aB Rg.cells d)
section
variable {w w':Wv}{base g n c:Nat}{d:List Rg}
theorem dY.len(h:dY w base g n c d):d.length=n:=by
 have:=h.1;rw[fY Rg.cells 2 (λ_=>rfl)]at this;omega
theorem dY.cells(h:dY w base g n c d){i:Nat}{x:Rg}(hi:d[i]?=Z x):w.cell? ⟨g,i*2,N⟩=Z (I J x.lo)/\w.cell? ⟨g,i*2+1,N⟩=Z (I J x.hi):=by
 obtain⟨hl,rfl⟩:=List.getElem?_eq_some_iff.1 hi;have hn:=h.len;have a:∀j u,(Rg.cells d[i])[j]?=Z u->j<2->w.cell? ⟨g,i*2+j,N⟩=Z u:=by
  intro j u hu hj;rw[World.ownsRow.cellAt h (i*2+j) O,gR Rg.cells 2 (λ_=>rfl) d i j hl hj];exact hu
 exact⟨a 0 _ rfl O,a 1 _ rfl O⟩
theorem dY.frozen(h:dY w base g n c d)(i:Nat):w.frozen? ⟨g,i,N⟩=false:=World.ownsRow.frozenAt h i
theorem dY.keep(h:dY w base g n c d)(hb:By w w'):dY w' base g n c d:=aG h hb
theorem dY.drew(h:dY w base g n c d):dY w.drew base g n c d:=h
theorem dY.drewN(h:dY w base g n c d)(k:Nat):dY (w.drewN k) base g n c d:=h
end
theorem OJ(d:List Rg)(i:Nat)(x:Rg)(hi:i<d.length):((aB Rg.cells d).set (i*2) (I J x.lo)).set (i*2+1) (I J x.hi)=aB Rg.cells (d.set i x):=by
 induction d generalizing i with
 |nil=>simp at hi
 |cons y r ih=>
  cases i with
  |zero=>simp[aB,Rg.cells]
  |succ i=>
   have a:=ih i (by simpa using hi);simp only[aB,List.flatMap_cons,Rg.cells,List.cons_append,List.nil_append,List.set_cons_succ]at *;rw[show(i+1)*2=i*2+1+1 by omega];simp only[List.set_cons_succ,a]
theorem dY.set{w:Wv}{base g n c:Nat}{d:List Rg}(h:dY w base g n c d){i:Nat}(hi:i<d.length)(x:Rg):
  dY ((w.setCell ⟨g,i*2,N⟩ (I J x.lo)).setCell ⟨g,i*2+1,N⟩ (I J x.hi)) base g n c (d.set i x)/\
  w.grownBy ((w.setCell ⟨g,i*2,N⟩ (I J x.lo)).setCell ⟨g,i*2+1,N⟩ (I J x.hi)) (Z g):=by
 have b:=World.ownsRow.stored h (i*2) (I J x.lo);have e:=b.1.stored (i*2+1) (I J x.hi);refine⟨?_,?_⟩
 ·have a:=e.1
  rw[OJ d i x hi]at a;exact a
 exact⟨rfl,rfl,rfl,L,λk hk hne=>(e.2.block k (by simpa using hk) hne).trans (b.2.block k hk hne)⟩
theorem sY{a w c:Wv}{r:Option Nat}(h:a.grownBy w r)(g:w.grownBy c r):a.grownBy c r:=
 ⟨g.os.trans h.os,g.tape.trans h.tape,g.output.trans h.output,Nat.le_trans h.size g.size,λk hk hne=>(g.block k (Nat.lt_of_lt_of_le hk h.size) hne).trans (h.block k hk hne)⟩
theorem PD(w:Wv)(r:Option Nat):w.grownBy w r:=⟨rfl,rfl,rfl,Nat.le_refl _,λ_ _ _=>rfl⟩
theorem sW{a w w':Wv}{r:Option Nat}(h:a.grownBy w r)(g:By w w'):a.grownBy w' r:=
 sY h ⟨g.os,g.tape,g.output,g.size,λk hk _=>g.block k hk⟩
theorem yO{a w:Wv}{r:Option Nat}(h:a.grownBy w r):a.grownBy w.drew r:=sW h (fW w 1)
theorem PB{a w:Wv}{r:Option Nat}(h:a.grownBy w r)(n:Nat):a.grownBy (w.drewN n) r:=sW h (fW w n)
def rC(R:List Rg->Prop)(base g n c:Nat)(w:Wv)(x:Ending)(w':Wv):Prop:=x=.returned (.tuple #[])/\∃d',R d'/\dY w' base g n c d'/\w.grownBy w' (Z g)
theorem nL{key:Rg->Int}{d d':List Rg}(h:Srt.St key d d'){x:Rg}(hx:x∈d'):x∈d:=by
 have a:x∈d'.filter (λy=>key y==key x):=List.mem_filter.2 ⟨hx,L⟩;rw[h (key x)]at a;exact(List.mem_filter.1 a).1
theorem IM{key:Rg->Int}{d d':List Rg}(h:Srt.St key d d'){x:Rg}(hx:x∈d):x∈d':=by
 have a:x∈d.filter (λy=>key y==key x):=List.mem_filter.2 ⟨hx,L⟩;rw[<-h (key x)]at a;exact(List.mem_filter.1 a).1
theorem sR{d:List Rg}{i:Nat}(h:i<d.length):∃x,d[i]?=Z x:=⟨d[i],List.getElem?_eq_getElem h⟩
theorem PX(base g n c q:Nat)(d:List Rg)(w:Wv)(hR:dY w base g n c d)(hq:q<=n)(hbig:n<=1048576)(hok:∀x∈d,dL x):
  Calls prog 211 #[H (Z ⟨g,0,N⟩) n c,I J 0,I J q,.func (.func 198) #[] #[]] w
   (rC (λd'=>Srt.Done eG d d' 0 q) base g n c w):=by
 have hn:=hR.len;subst hn;have D:=G hok;clear hok;go_enter func211,ntmps211;go_wp2;go_loopw [8] (λi wr=>∃(k:Nat)(z:List Rg),1<=k/\(k<=q\/k=1)/\i=I J k/\Srt.Same d z 0 q/\Srt.St eG d z/\Srt.SortedOn eG z 0 k/\dY wr base g d.length c z/\w.grownBy wr (Z g)) (λi _=>q-(intOf i).toNat)
 case atStart=>exact⟨1,d,Nat.le_refl _,.inr rfl,rfl,Srt.Same.refl _ _ _,Srt.St.refl _,Srt.SortedOn.short O,hR,PD _ _⟩
 obtain⟨k,z,ae,af,rfl,b,r,Q,K,hg⟩:=hrel;have X:=G b;have HT:=G r;have Y:=G Q;clear b r Q;by_cases hlt:k<q
 ·obtain⟨wo,rfl⟩:∃wo:Wv,wo=wr:=⟨_,rfl⟩
  go_wp2;go_loopw [9] (λi wr=>∃(j:Nat)(m:List Rg),j<=k/\i=I J j/\Srt.Same d m 0 q/\Srt.St eG d m/\Srt.Ins eG m 0 k j/\dY wr base g d.length c m/\w.grownBy wr (Z g)) (λi _=>(intOf i).toNat)
  case atStart=>exact⟨k,z,Nat.le_refl _,rfl,X.o,HT.o,Srt.Ins.start Y.o,K,hg⟩
  obtain⟨j,m,M,rfl,b,r,v,p,B⟩:=hrel;have f:=G b;have o:=G r;have T:=G v;clear b r v;by_cases hpj:0<j
  ·have ad:j<d.length:=O
   obtain⟨x,hx⟩:=sR (d:=m) (i:=j-1) (by rw[f.o.1];omega);obtain⟨y,hy⟩:=sR (d:=m) (i:=j) (by rw[f.o.1];omega);obtain⟨x1,x2⟩:=p.cells hx;obtain⟨y1,y2⟩:=p.cells hy;have E:=G hx;have F:=G hy;have C:=G (λW=>SL y x (D.o y (nL o.o (List.mem_of_getElem? hy))) (D.o x (nL o.o (List.mem_of_getElem? hx))) W);clear hx hy;have i0:decide ((0:Int)<(j:Int))=true:=oU_;have i1:IntKind.i64.wrap ((j:Int)-1)=(j:Int)-1:=IntWalk.i64_in _ O;have i2:(0:Int)<=(j:Int)-1:=O;have ai:(1:Int)<=(j:Int):=O;have ab:1<=j:=O;have i3:((j:Int)-1).toNat=j-1:=O;have i4:(j:Int)-1<(d.length:Int):=O;have i5:(j:Int)<(d.length:Int):=O;unfold rv at C;go_wp2;refine wp_region_still_tail 14 oK_ oK_ ?_;simp only[List.take_succ_cons,List.take_zero,List.drop_succ_cons,List.drop_zero];change wpStill _ _ wr.drew _ _ _;repeat still_step
   refine wpStill_nil ?_;change wpList _ _ _ _ _ wr.drew;go_wp2_with fail;refine(C.o _).mono ?_;rintro e w3 ⟨cc,rfl,s,A⟩;have l:=(p.drew).keep A;have L:=sW (yO B) A;obtain⟨ak,am⟩:=l.cells E.o;obtain⟨ao,aq⟩:=l.cells F.o;have fr:=l.frozen;clear p B A x1 x2 y1 y2;by_cases hkey:eG y<eG x
   ·have P:cc<0:=s.2 hkey
    have t:=G hkey;clear s hkey;have ag:¬(j-1=j):=O;have V:=G l;clear l;go_wp2;go_region;go_wp2;go_roundw
    case rel=>
     have R:=V.o.set (i:=j) (by rw[f.o.1];omega) x;have S:=R.1.set (i:=j-1) (by rw[List.length_set,f.o.1];omega) y;refine⟨j-1,Srt.swp m (j-1) j x y,O,oN_,f.o.trans (Srt.swp_same E.o F.o O O O O O),o.o.trans ?_,?_,?_,?_⟩
     ·have:=Srt.swp_done (key:=eG) (d:=m) (j:=j-1) E.o (by rw[show j-1+1=j by omega];exact F.o) t.o
      rw[show j-1+1=j by omega]at this;exact this
     ·have:=Srt.Ins.step (key:=eG) (d:=m) (a:=0) (i:=k) (j:=j-1) (x:=x) (y:=y) (by rw[show j-1+1=j by omega];exact T.o) O O E.o (by rw[show j-1+1=j by omega];exact F.o) t.o
      rw[show j-1+1=j by omega]at this;exact this
     ·rw[Srt.swp,List.set_comm _ _ O]
      exact S.1.drew
     exact yO (sY L (sY R.2 S.2))
    exact oI_
   have P:¬cc<0:=λh=>hkey (s.1 h)
   clear s;go_wp2;go_roundw
   case rel=>
    refine⟨k+1,m,O,.inl O,oN_,f.o,o.o,T.o.stop O M (.inr ?_),l,L⟩;rw[Srt.kf_some E.o,Srt.kf_some F.o];omega
   exact oI_
  have i0:decide ((0:Int)<(j:Int))=false:=oU_;go_wp2;go_quiet(fail);go_wp2;go_roundw
  case rel=>exact⟨k+1,m,O,.inl O,oN_,f.o,o.o,T.o.stop O M (.inl O),p.drewN _,PB B _⟩
  exact oI_
 go_wp2;go_end0;refine⟨rfl,z,⟨X.o,HT.o,?_⟩,K,hg⟩;by_cases hkq:q<=k
 ·exact Y.o.sub (Nat.le_refl _) hkq
 omega
theorem UY(base g n c:Nat)(z:Int)(d:List Rg)(w:Wv)(hR:dY w base g n c d)(hbig:n<=12)(hok:∀x∈d,dL x):
  Calls prog 207 #[H (Z ⟨g,0,N⟩) n c,I J 0,I J n,I J z,.func (.func 198) #[] #[]] w
   (rC (λd'=>Srt.Done eG d d' 0 n) base g n c w):=by
 have C:=G (PX base g n c n d w hR (Nat.le_refl _) O hok);clear hR hok;have j:decide ((n:Int)<=12)=true:=oU_;have k:decide (n<=12)=true:=oU_;go_enter func207,ntmps207;go_wp2_with fail;refine wp_loop_rounds 1 ?_;rw[rounds_succ];go_wp2_with fail;refine C.o.mono ?_;rintro e l ⟨rfl,i,h,a,b⟩;have f:=G (And.intro h (And.intro a b));clear h a b;go_wp2;go_end0;exact⟨rfl,i,f.o.1,f.o.2.1,f.o.2.2⟩
end
section
open Go.RowKit
def cW(rs:List Rg)(c:Int):Bool:=rs.any (λr=>inR r.lo r.hi c)
theorem tC{rs:List Rg}{c:Int}(h1:0<=c)(h2:c<=1114111):bO rs c=cW rs c:=by unfold bO cW;rw[f_ h1 h2,Bool.true_and]
theorem dA{rs:List Rg}{c:Int}:cW rs c=true ↔ ∃r∈rs,r.lo<=c/\c<=r.hi:=by
 unfold cW;rw[List.any_eq_true];constructor
 ·rintro⟨r,hr,h⟩;exact⟨r,hr,iU.1 h⟩
 rintro⟨r,hr,h⟩;exact⟨r,hr,iU.2 h⟩
def okR(rs:List Rg):Prop:=(∀r∈rs,dL r)/\rs.Pairwise (λa b=>a.hi+1<b.lo)
theorem okR.nil:okR []:=⟨λ_ h=>(by cases h),List.Pairwise.nil⟩
theorem AA:∀{xs ys:List Rg},okR xs->okR ys->(∀c,0<=c->c<=1114111->(cW xs c=true ↔ cW ys c=true))->xs=ys
 | [],[],_,_,_=>rfl
 | [],y::s,_,hy,h=>by
  have hc:=hy.1 y L;unfold dL at hc;have:=(h y.lo hc.1 O).2 (dA.2 ⟨y,L,O,hc.2.1⟩);obtain⟨r,hr,_⟩:=dA.1 this;cases hr
 |x::r,[],hx,_,h=>by
  have hc:=hx.1 x L;unfold dL at hc;have:=(h x.lo hc.1 O).1 (dA.2 ⟨x,L,O,hc.2.1⟩);obtain⟨r,hr,_⟩:=dA.1 this;cases hr
 |x::r,y::s,hx,hy,h=>by
  have cx:=hx.1 x L;have cy:=hy.1 y L;obtain⟨px,qx⟩:=List.pairwise_cons.1 hx.2;obtain⟨py,qy⟩:=List.pairwise_cons.1 hy.2;unfold dL at cx cy;have lo:x.lo=y.lo:=by
   rcases Int.lt_trichotomy x.lo y.lo with g|g|g
   ·have:=(h x.lo cx.1 O).1 (dA.2 ⟨x,L,O,cx.2.1⟩)
    obtain⟨t,ht,a,b⟩:=dA.1 this;rcases List.mem_cons.1 ht with rfl|ht
    ·omega
    have:=py t ht;omega
   ·exact g
   have:=(h y.lo cy.1 O).2 (dA.2 ⟨y,L,O,cy.2.1⟩);obtain⟨t,ht,a,b⟩:=dA.1 this;rcases List.mem_cons.1 ht with rfl|ht
   ·omega
   have:=px t ht;omega
  have hi:x.hi=y.hi:=by
   rcases Int.lt_trichotomy x.hi y.hi with g|g|g
   ·have:=(h (x.hi+1) O O).2 (dA.2 ⟨y,L,O,O⟩)
    obtain⟨t,ht,a,b⟩:=dA.1 this;rcases List.mem_cons.1 ht with rfl|ht
    ·omega
    have:=px t ht;omega
   ·exact g
   have:=(h (y.hi+1) O O).1 (dA.2 ⟨x,L,O,O⟩);obtain⟨t,ht,a,b⟩:=dA.1 this;rcases List.mem_cons.1 ht with rfl|ht
   ·omega
   have:=py t ht;omega
  have e:x=y:=by cases x;cases y;simp_all
  subst e;rw[AA (xs:=r) (ys:=s) ⟨λt ht=>hx.1 t (by simp[ht]),qx⟩ ⟨λt ht=>hy.1 t (by simp[ht]),qy⟩ (λc c0 c1=>?_)];constructor
  ·intro g
   obtain⟨t,ht,a,b⟩:=dA.1 g;have:=px t ht;obtain⟨u,hu,d,f⟩:=dA.1 ((h c c0 c1).1 (dA.2 ⟨t,by simp[ht],a,b⟩));rcases List.mem_cons.1 hu with rfl|hu
   ·omega
   exact dA.2 ⟨u,hu,d,f⟩
  intro g;obtain⟨t,ht,a,b⟩:=dA.1 g;have:=py t ht;obtain⟨u,hu,d,f⟩:=dA.1 ((h c c0 c1).2 (dA.2 ⟨t,by simp[ht],a,b⟩));rcases List.mem_cons.1 hu with rfl|hu
  ·omega
  exact dA.2 ⟨u,hu,d,f⟩
def gD(r:Rg):Rg:=⟨max r.lo 0,min r.hi 1114111⟩
def dB(rs:List Rg):List Rg:=(rs.map gD).filter (λr=>decide (r.lo<=r.hi))
theorem LK{rs:List Rg}{i:Nat}(hi:i<rs.length):dB (rs.take (i+1))=dB (rs.take i)++(if(gD rs[i]).lo<=(gD rs[i]).hi then [gD rs[i]]else []):=by
 unfold dB;rw[List.take_succ_eq_append_getElem hi,List.map_append,List.filter_append];congr 1;by_cases h:(gD rs[i]).lo<=(gD rs[i]).hi<;>simp[h]
theorem wS(rs:List Rg):(dB rs).length<=rs.length:=by
 unfold dB;have:=List.length_filter_le (λr:Rg=>decide (r.lo<=r.hi)) (rs.map gD);rw[List.length_map]at this;exact this
theorem LJ(rs:List Rg):∀r∈dB rs,dL r:=by
 intro r hr;unfold dB at hr;rw[List.mem_filter,List.mem_map]at hr;obtain⟨⟨q,_,rfl⟩,h⟩:=hr;simp at h;unfold dL;unfold gD at *;dsimp only at *;omega
theorem LI{rs:List Rg}{c:Int}(h1:0<=c)(h2:c<=1114111):cW (dB rs) c=true ↔ cW rs c=true:=by
 rw[dA,dA];constructor
 ·rintro⟨r,hr,a,b⟩
  unfold dB at hr;rw[List.mem_filter,List.mem_map]at hr;obtain⟨⟨q,hq,rfl⟩,_⟩:=hr;unfold gD at a b;dsimp only at a b;exact⟨q,hq,O,O⟩
 rintro⟨q,hq,a,b⟩;refine⟨gD q,?_,?_,?_⟩
 ·unfold dB
  rw[List.mem_filter,List.mem_map];refine⟨⟨q,hq,rfl⟩,?_⟩;unfold gD;simp;omega
 ·unfold gD;dsimp only;omega
 unfold gD;dsimp only;omega
def eX:List Rg->Int->List Rg
 | [],_=>[]
 | [x],h=>[⟨x.lo,max x.hi h⟩]
 |x::y::r,h=>x::eX (y::r) h
theorem yM:∀(l:List Rg)(h:Int),(eX l h).length=l.length
 | [],_=>rfl
 | [_],_=>rfl
 |x::y::r,h=>by simp only[eX,List.length_cons,yM (y::r) h]
theorem pK:∀{l:List Rg}{n:Nat}(hn:l.length=n+1)(h:Int),eX l h=l.set n ⟨(l[n]'(by omega)).lo,max (l[n]'(by omega)).hi h⟩
 | [x],0,_,h=>rfl
 |x::y::r,n+1,hn,h=>by
  have:=pK (l:=y::r) (n:=n) (by simpa using hn) h;simp only[eX,List.set_cons_succ,this,List.getElem_cons_succ]
def mrg(out:List Rg)(r:Rg):List Rg:=match out.getLast? with|some l=>if r.lo<=l.hi+1 then eX out r.hi else out++[r]|none=>[r]
structure Mg(ps out:List Rg)(b:Int):Prop where
 ok:okR out
 any:∀c,cW out c=true ↔ cW ps c=true
 lo:∀r∈out,r.lo<=b
theorem Mg.nil(b:Int):Mg [] [] b:=⟨okR.nil,λ_=>Iff.rfl,λ_ h=>(by cases h)⟩
theorem mW:∀{l:List Rg}{h:Int}{r:Rg},r∈eX l h->∃q∈l,q.lo=r.lo/\(r.hi=q.hi\/(l.getLast?=Z q/\r.hi=max q.hi h))
 | [x],h,r,hr=>by
  simp only[eX,List.mem_singleton]at hr;subst hr;exact⟨x,L,rfl,.inr ⟨rfl,rfl⟩⟩
 |x::y::l,h,r,hr=>by
  simp only[eX,List.mem_cons]at hr;rcases hr with rfl|hr
  ·exact⟨r,L,rfl,.inl rfl⟩
  obtain⟨q,hq,c,d⟩:=mW hr;exact⟨q,by simp[hq],c,d.imp id (λ⟨a,b⟩=>⟨by rw[List.getLast?_cons_cons];exact a,b⟩)⟩
theorem sU:∀{l:List Rg}{x q:Rg}{c:Int},l.getLast?=Z x->x.lo<=q.lo->q.lo<=x.hi+1->x.lo<=x.hi->(cW (eX l q.hi) c=true ↔ (cW l c=true\/(q.lo<=c/\c<=q.hi)))
 | [y],x,q,c,hl,h1,h2,h3=>by
  simp at hl;subst hl;rw[dA,dA];simp only[eX,List.mem_singleton];constructor
  ·rintro⟨_,rfl,a,b⟩
   dsimp only at a b;by_cases g:c<=y.hi
   ·exact .inl ⟨y,rfl,a,g⟩
   exact .inr O
  rintro(⟨_,rfl,a,b⟩|⟨a,b⟩)
  ·exact⟨_,rfl,a,oD_⟩
  exact⟨_,rfl,oD_,oD_⟩
 |z::y::r,x,q,c,hl,h1,h2,h3=>by
  rw[List.getLast?_cons_cons]at hl;have ih:=sU (l:=y::r) (x:=x) (q:=q) (c:=c) hl h1 h2 h3;simp only[eX];have e:∀(s:List Rg),cW (z::s) c=true ↔ (inR z.lo z.hi c=true\/cW s c=true):=λs=>by unfold cW;rw[List.any_cons,Bool.or_eq_true]
  rw[e,e,ih,or_assoc]
theorem sV:∀{l:List Rg}{h:Int},l.Pairwise (λa b=>a.hi+1<b.lo)->(eX l h).Pairwise (λa b=>a.hi+1<b.lo)
 | [],_,_=>List.Pairwise.nil
 | [x],_,_=>List.pairwise_singleton _ _
 |x::y::r,h,hp=>by
  obtain⟨c,d⟩:=List.pairwise_cons.1 hp;simp only[eX];refine List.pairwise_cons.2 ⟨λt ht=>?_,sV d⟩;obtain⟨q,hq,e,_⟩:=mW ht;have:=c q hq;omega
theorem nP{xs ys:List Rg}{c:Int}:cW (xs++ys) c=true ↔ (cW xs c=true\/cW ys c=true):=by unfold cW;rw[List.any_append,Bool.or_eq_true]
theorem vQ{q:Rg}{c:Int}:cW [q] c=true ↔ (q.lo<=c/\c<=q.hi):=by unfold cW;simp[iU]
theorem zD:∀{l:List Rg}{x:Rg},(∀r∈l,dL r)->l.Pairwise (λa b=>a.hi+1<b.lo)->l.getLast?=Z x->∀r∈l,r.hi<=x.hi
 | [],_,_,_,h,_,_=>by cases h
 | [y],x,_,_,h,r,hr=>by simp at h hr;subst h;subst hr;exact Int.le_refl _
 |z::y::l,x,hc,hp,h,r,hr=>by
  rw[List.getLast?_cons_cons]at h;obtain⟨d,e⟩:=List.pairwise_cons.1 hp;have ih:=zD (l:=y::l) (λt ht=>hc t (by simp[ht])) e h;rcases List.mem_cons.1 hr with rfl|hr
  ·have f:=d y L
   have c:=hc y L;have g:=ih y L;unfold dL at c;omega
  exact ih r hr
theorem Mg.step{ps out:List Rg}{b:Int}{q:Rg}(h:Mg ps out b)(hb:b<=q.lo)(hq:dL q):Mg (ps++[q]) (mrg out q) q.lo:=by
 obtain⟨⟨e,j⟩,ha,hl⟩:=h;unfold dL at hq;unfold mrg;cases hx:out.getLast? with
 |none=>
  have:out=[]:=List.getLast?_eq_none_iff.1 hx;subst this;refine⟨⟨λr hr=>?_,List.pairwise_singleton _ _⟩,λc=>?_,λr hr=>?_⟩
  ·simp at hr;subst hr;exact hq
  ·rw[nP,<-ha c]
   have:¬cW [] c=true:=by unfold cW;simp
   simp[this]
  simp at hr;subst hr;exact Int.le_refl _
 |some x=>
  have d:x∈out:=List.mem_of_getLast? hx;have i:=e x d;have l:=hl x d;unfold dL at i;simp only;split
  ·next g=>
   refine⟨⟨λr hr=>?_,sV j⟩,λc=>?_,λr hr=>?_⟩
   ·obtain⟨t,ht,k,f⟩:=mW hr
    have:=e t ht;unfold dL at this|-;rcases f with f|⟨_,f⟩<;>omega
   ·rw[sU hx O g O,nP,ha c,vQ]
   obtain⟨t,ht,k,_⟩:=mW hr;have:=hl t ht;omega
  next g=>
  have hm:=zD e j hx;refine⟨⟨λr hr=>?_,?_⟩,λc=>?_,λr hr=>?_⟩
  ·rcases List.mem_append.1 hr with hr|hr
   ·exact e r hr
   simp at hr;subst hr;exact hq
  ·rw[List.pairwise_append]
   refine⟨j,List.pairwise_singleton _ _,λa ha' t ht=>?_⟩;simp at ht;subst ht;have:=hm a ha';omega
  ·rw[nP,nP,ha c]
  rcases List.mem_append.1 hr with hr|hr
  ·have:=hl r hr;omega
  simp at hr;subst hr;exact Int.le_refl _
def bT:Li->Int->Li
 | [],n=>[n]
 |x::r,n=>if n<=x then(if n<x then n::x::r else x::r)else x::bT r n
theorem kR:∀{l:Li}{n x:Int},x∈bT l n ↔ (x=n\/x∈l)
 | [],n,x=>by simp[bT]
 |y::r,n,x=>by
  simp only[bT];split
  ·split
   ·simp
   have:n=y:=O;subst this;simp
  rw[List.mem_cons,kR,List.mem_cons];constructor
  ·rintro(h|h|h)
   ·exact .inr (.inl h)
   ·exact .inl h
   exact .inr (.inr h)
  rintro(h|h|h)
  ·exact .inr (.inl h)
  ·exact .inl h
  exact .inr (.inr h)
theorem BE:∀{l:Li}{n:Int},l.Pairwise (·< ·)->(bT l n).Pairwise (·< ·)
 | [],n,_=>List.pairwise_singleton _ _
 |y::r,n,h=>by
  obtain⟨a,b⟩:=List.pairwise_cons.1 h;simp only[bT];split
  ·split
   ·refine List.pairwise_cons.2 ⟨λt ht=>?_,h⟩
    rcases List.mem_cons.1 ht with rfl|ht
    ·assumption
    have:=a t ht;omega
   exact h
  refine List.pairwise_cons.2 ⟨λt ht=>?_,BE b⟩;rcases kR.1 ht with rfl|ht
  ·omega
  exact a t ht
def dV(l:Li)(r:Rg):Li:=
 let l1:=if inR 0 1114111 r.lo=true then bT l r.lo else l
 if 0<=r.hi/\r.hi<1114111 then bT l1 (r.hi+1)else l1
def bQ(l:Li)(rs:List Rg):Li:=bT (rs.foldl dV l) 0
theorem MU{rs:List Rg}{l:Li}{i:Nat}(hi:i<rs.length):(rs.take (i+1)).foldl dV l=dV ((rs.take i).foldl dV l) rs[i]:=by
 rw[List.take_succ_eq_append_getElem hi,List.foldl_append];rfl
structure Ct(rs:List Rg)(l:Li):Prop where
 asc:l.Pairwise (·< ·)
 bd:∀x∈l,0<=x/\x<=1114111
 lo:∀r∈rs,0<=r.lo->r.lo<=1114111->r.lo∈l
 hi:∀r∈rs,0<=r.hi->r.hi<1114111->r.hi+1∈l
theorem Ct.nil:Ct [] []:=⟨List.Pairwise.nil,λ_ h=>(by cases h),λ_ h=>(by cases h),λ_ h=>(by cases h)⟩
theorem Ct.place{rs:List Rg}{l:Li}(h:Ct rs l){n:Int}(h1:0<=n)(h2:n<=1114111):Ct rs (bT l n):=
 ⟨BE h.asc,λx hx=>by rcases kR.1 hx with rfl|hx;exact⟨h1,h2⟩;exact h.bd x hx,λr hr a b=>kR.2 (.inr (h.lo r hr a b)),λr hr a b=>kR.2 (.inr (h.hi r hr a b))⟩
theorem Ct.step{rs:List Rg}{l:Li}(h:Ct rs l)(r:Rg):Ct (rs++[r]) (dV l r):=by
 unfold dV;have o:∃c,(if inR 0 1114111 r.lo=true then bT l r.lo else l)=c/\Ct rs c/\(0<=r.lo->r.lo<=1114111->r.lo∈c):=by
  by_cases g:inR 0 1114111 r.lo=true
  ·have gg:=iU.1 g
   exact⟨_,rfl,by rw[if_pos g];exact h.place gg.1 gg.2,λ_ _=>by rw[if_pos g];exact kR.2 (.inl rfl)⟩
  refine⟨_,rfl,by rw[if_neg g];exact h,λa b=>absurd (f_ a b) g⟩
 obtain⟨c,e,i,j⟩:=o;dsimp only;rw[e];have p:∃d,(if 0<=r.hi/\r.hi<1114111 then bT c (r.hi+1)else c)=d/\Ct rs d/\(0<=r.lo->r.lo<=1114111->r.lo∈d)/\(0<=r.hi->r.hi<1114111->r.hi+1∈d):=by
  by_cases g:0<=r.hi/\r.hi<1114111
  ·exact⟨_,rfl,by rw[if_pos g];exact i.place O O,λa b=>by rw[if_pos g];exact kR.2 (.inr (j a b)),λ_ _=>by rw[if_pos g];exact kR.2 (.inl rfl)⟩
  exact⟨_,rfl,by rw[if_neg g];exact i,λa b=>by rw[if_neg g];exact j a b,λa b=>absurd ⟨a,b⟩ g⟩
 obtain⟨d,n,f,k,m⟩:=p;rw[n];refine⟨f.asc,f.bd,λt ht a b=>?_,λt ht a b=>?_⟩
 ·rcases List.mem_append.1 ht with ht|ht
  ·exact f.lo t ht a b
  simp at ht;subst ht;exact k a b
 rcases List.mem_append.1 ht with ht|ht
 ·exact f.hi t ht a b
 simp at ht;subst ht;exact m a b
theorem Ct.fold:∀(rs:List Rg){qs:List Rg}{l:Li},Ct qs l->Ct (qs++rs) (rs.foldl dV l)
 | [],qs,l,h=>by simpa using h
 |r::rs,qs,l,h=>by
  have:=Ct.fold rs (h.step r);rw[List.append_assoc]at this;exact this
theorem Ct.cuts{rs qs:List Rg}{l:Li}(h:Ct qs l):Ct (qs++rs) (bQ l rs)/\0∈bQ l rs:=
 ⟨(Ct.fold rs h).place O O,kR.2 (.inl rfl)⟩
def nxt(cs:Li)(k:Nat):Int:=(cs[k]?).getD 1114112
def bld(p:Int->Bool)(cs:Li):Nat->List Rg×Bool
 |0=>([],false)
 |k+1=>
  let s:=bld p cs k
  let c:=nxt cs k
  let h:=nxt cs (k+1)-1
  if p c=true then(if s.2=true then eX s.1 h else s.1++[⟨c,h⟩],true)else(s.1,false)
def eI(rs:List Rg):List Rg:=(bld (bO rs) (bQ (bQ [] rs) []) (bQ (bQ [] rs) []).length).1
structure Bd(p:Int->Bool)(out:List Rg)(o:Bool)(n:Int):Prop where
 ok:okR out
 any:∀c,0<=c->c<n->(cW out c=true ↔ p c=true)
 hi:∀r∈out,r.hi<n
 yes:o=true->∃x,out.getLast?=Z x/\x.hi=n-1
 no:o=false->∀r∈out,r.hi+1<n
theorem Bd.step{p:Int->Bool}{out:List Rg}{o:Bool}{n m:Int}(h:Bd p out o n)(h0:0<=n)(hm:n<m)(hmx:m<=1114112)(hc:∀c,n<=c->c<m->p c=p n):
  Bd p (if p n=true then(if o=true then eX out (m-1)else out++[⟨n,m-1⟩],true)else(out,false)).1 (if p n=true then(if o=true then eX out (m-1)else out++[⟨n,m-1⟩],true)else(out,false)).2 m:=by
 obtain⟨⟨f,w⟩,ha,hh,hy,hn⟩:=h;by_cases hp:p n=true
 ·rw[if_pos hp]
  dsimp only;cases o with
  |true=>
   rw[if_pos rfl];obtain⟨x,hx,z⟩:=hy rfl;have s:=List.mem_of_getLast? hx;have v:=f x s;unfold dL at v;refine⟨⟨λr hr=>?_,sV w⟩,λc c0 c1=>?_,λr hr=>?_,λ_=>?_,λe=>by cases e⟩
   ·obtain⟨t,ht,y,d⟩:=mW hr
    have:=f t ht;unfold dL at this|-;rcases d with d|⟨_,d⟩<;>omega
   ·rw[sU (q:=⟨n,m-1⟩) hx oD_ oD_ O]
    dsimp only;by_cases g:c<n
    ·rw[ha c c0 g]
     constructor
     ·rintro(h|h)
      ·exact h
      omega
     exact .inl
    rw[hc c O c1];exact⟨λ_=>hp,λ_=>.inr O⟩
   ·obtain⟨t,ht,y,d⟩:=mW hr
    have:=hh t ht;rcases d with d|⟨_,d⟩<;>omega
   have j:out≠[]:=by rintro rfl;cases hx
   obtain⟨k,hk⟩:∃k,out.length=k+1:=⟨out.length-1,by have:=List.length_pos_iff.2 j;omega⟩;rw[pK hk];have l:out[k]' O=x:=by
    rw[List.getLast?_eq_getElem?,hk]at hx;simp at hx;exact(List.getElem?_eq_some_iff.1 hx).2
   rw[l];refine⟨⟨x.lo,max x.hi (m-1)⟩,?_,oD_⟩;rw[List.getLast?_eq_getElem?,List.length_set,hk];simp[hk]
  |false=>
   rw[if_neg L];have i:=hn rfl;refine⟨⟨λr hr=>?_,?_⟩,λc c0 c1=>?_,λr hr=>?_,λ_=>⟨⟨n,m-1⟩,L,rfl⟩,λe=>by cases e⟩
   ·rcases List.mem_append.1 hr with hr|hr
    ·exact f r hr
    simp at hr;subst hr;unfold dL;dsimp only;omega
   ·rw[List.pairwise_append]
    refine⟨w,List.pairwise_singleton _ _,λa ha' t ht=>?_⟩;simp at ht;subst ht;exact i a ha'
   ·rw[nP,vQ]
    dsimp only;by_cases g:c<n
    ·rw[ha c c0 g]
     constructor
     ·rintro(h|h)
      ·exact h
      omega
     exact .inl
    rw[hc c O c1];exact⟨λ_=>hp,λ_=>.inr O⟩
   rcases List.mem_append.1 hr with hr|hr
   ·have:=hh r hr;omega
   simp at hr;subst hr;dsimp only;omega
 rw[if_neg hp];dsimp only;refine⟨⟨f,w⟩,λc c0 c1=>?_,(λr hr=>by have:=hh r hr;omega),(λe=>by cases e),(λ_ r hr=>by have:=hh r hr;omega)⟩;by_cases g:c<n
 ·exact ha c c0 g
 rw[hc c O c1];constructor
 ·intro h
  obtain⟨r,hr,a,b⟩:=dA.1 h;have:=hh r hr;omega
 intro h;exact absurd h hp
theorem vZ{cs:Li}(h:cs.Pairwise (·< ·)){k:Nat}(hk:k<cs.length){x:Int}(hx:x∈cs)(h1:cs[k]<x):nxt cs (k+1)<=x:=by
 obtain⟨j,hj,rfl⟩:=List.getElem_of_mem hx;have b:k<j:=by
  rcases Nat.lt_trichotomy j k with g|g|g
  ·have:=List.pairwise_iff_getElem.1 h j k hj hk g;omega
  ·subst g;omega
  exact g
 unfold nxt;rcases Nat.lt_or_ge (k+1) cs.length with g|g
 ·rw[List.getElem?_eq_getElem g]
  simp only[Option.getD_some];rcases Nat.lt_or_ge (k+1) j with a|a
  ·have:=List.pairwise_iff_getElem.1 h (k+1) j g hj a;omega
  have:j=k+1:=O;subst this;exact Int.le_refl _
 omega
theorem PG{rs:List Rg}{cs:Li}(h:Ct rs cs){k:Nat}(hk:k<cs.length){c:Int}(h1:cs[k]<=c)(h2:c<nxt cs (k+1))(h3:c<=1114111):bO rs c=bO rs cs[k]:=by
 have hb:=h.bd _ (List.getElem_mem hk);rw[tC O h3,tC hb.1 hb.2,Bool.eq_iff_iff,dA,dA];constructor
 ·rintro⟨r,hr,a,b⟩
  refine⟨r,hr,?_,O⟩;apply Int.not_lt.1;intro g;have:=vZ h.asc hk (h.lo r hr O O) g;omega
 rintro⟨r,hr,a,b⟩;refine⟨r,hr,O,?_⟩;apply Int.not_lt.1;intro g;have:=vZ h.asc hk (h.hi r hr O O) O;omega
theorem zZ{rs:List Rg}{cs:Li}(h:Ct rs cs)(k:Nat):0<=nxt cs k/\nxt cs k<=1114112:=by
 unfold nxt;rcases Nat.lt_or_ge k cs.length with g|g
 ·rw[List.getElem?_eq_getElem g]
  have:=h.bd _ (List.getElem_mem g);simp;omega
 rw[List.getElem?_eq_none g];simp
theorem rS{rs:List Rg}{cs:Li}(h:Ct rs cs)(h0:0∈cs):∀k,k<=cs.length->Bd (bO rs) (bld (bO rs) cs k).1 (bld (bO rs) cs k).2 (nxt cs k)
 |0,_=>by
  have e:nxt cs 0=0:=by
   obtain⟨j,hj,he⟩:=List.getElem_of_mem h0;have d:0<cs.length:=O;have hb:=h.bd _ (List.getElem_mem d);unfold nxt;rw[List.getElem?_eq_getElem d];simp only[Option.getD_some];rcases Nat.eq_zero_or_pos j with g|g
   ·subst g;exact he
   have:=List.pairwise_iff_getElem.1 h.asc 0 j d hj g;omega
  rw[e];exact⟨okR.nil,λc a b=>O,λ_ hr=>(by cases hr),λe=>(by cases e),λ_ _ hr=>(by cases hr)⟩
 |k+1,hk=>by
  have ih:=rS h h0 k O;have hn:=zZ h k;have i:=zZ h (k+1);have e:nxt cs k=cs[k]:=by unfold nxt;rw[List.getElem?_eq_getElem O];rfl
  have hb:=h.bd _ (List.getElem_mem (show k<cs.length by omega));have f:nxt cs k<nxt cs (k+1):=by
   rcases Nat.lt_or_ge (k+1) cs.length with g|g
   ·have:=List.pairwise_iff_getElem.1 h.asc k (k+1) O g O
    rw[e];unfold nxt;rw[List.getElem?_eq_getElem g];exact this
   rw[e];unfold nxt;rw[List.getElem?_eq_none g];simp;omega
  have:=ih.step hn.1 f i.2 (λc c0 c1=>by rw[e]at c0|-;exact PG h O c0 c1 O);exact this
theorem wG(rs:List Rg):okR (eI rs)/\∀c,0<=c->c<=1114111->(cW (eI rs) c=true ↔ cW rs c=true):=by
 have b:=(Ct.nil).cuts (rs:=rs);have a:=b.1.cuts (rs:=[]);rw[List.append_nil,List.nil_append]at a;have hb:=rS a.1 a.2 (bQ (bQ [] rs) []).length (Nat.le_refl _);have e:nxt (bQ (bQ [] rs) []) (bQ (bQ [] rs) []).length=1114112:=by unfold nxt;rw[List.getElem?_eq_none (Nat.le_refl _)];rfl
 rw[e]at hb;refine⟨hb.ok,λc c0 c1=>?_⟩;unfold eI;rw[hb.any c c0 O,tC c0 c1]
theorem JX{rs out:List Rg}(h:okR out)(ha:∀c,0<=c->c<=1114111->(cW out c=true ↔ cW rs c=true)):out=eI rs:=
 AA h (wG rs).1 (λc c0 c1=>(ha c c0 c1).trans ((wG rs).2 c c0 c1).symm)
def iE(rs:List Rg):Bool:=decide (eI rs=rs)
end
end Go.Proofs.YtkhmjidaeliccaaGreatDoor
