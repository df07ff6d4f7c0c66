import Derived.Test.YtkhmjidaeliccaaGreatDoorD00
import Derived.Test.YtkhmjidaeliccaaGreatDoorD02
import Derived.Test.YtkhmjidaeliccaaGreatDoorD04
import Derived.Test.YtkhmjidaeliccaaGreatDoorD06
import Derived.Test.YtkhmjidaeliccaaGreatDoorD08
import Derived.Test.YtkhmjidaeliccaaGreatDoorD09
import Derived.Test.YtkhmjidaeliccaaGreatDoorD11
import Derived.Test.YtkhmjidaeliccaaGreatDoorD12
import Derived.Test.YtkhmjidaeliccaaGreatDoorD13
import Derived.Test.YtkhmjidaeliccaaGreatDoorD14
import Derived.Deep.Cut
import Derived.Deep.DeepCutAuto
set_option maxRecDepth 100000
set_option maxHeartbeats 51200000
namespace Go.Proofs.YtkhmjidaeliccaaGreatDoor
open Option renaming none->N,some->Z
open Value renaming int->I,slice->H
open IntKind renaming i64->J
open Go.Proofs.Tryz
section
open Go.RowKit Go.Maps Go.WideMaps
theorem sV{fn:Func}(hr:fn.results=#[.cell 2 62])(tmps:Array Value)(w:Wv){b:Nat}{v0 v1 v2 v3:Value}(ha:tmps.getD 2 undef=.pointer (Z ⟨b,0,N⟩))
  (c0:w.cell? ⟨b,0,N⟩=Z v0) (c1:w.cell? ⟨b,1,N⟩=Z v1) (c2:w.cell? ⟨b,2,N⟩=Z v2) (c3:w.cell? ⟨b,3,N⟩=Z v3) :
  (results fn tmps).run prog w=.ok (.agg #[v0,v1,v2,v3]) w:=by
 unfold results;rw[hr];simp only[ha,List.mapM_toArray,List.mapM_cons,List.mapM_nil,asAddr];go_simp
theorem e_{fn:Func}(hr:fn.results=#[.cell 4 190])(tmps:Array Value)(w:Wv){b:Nat}{v0 v1 v2 v3:Value}(ha:tmps.getD 4 undef=.pointer (Z ⟨b,0,N⟩))
  (c0:w.cell? ⟨b,0,N⟩=Z v0) (c1:w.cell? ⟨b,1,N⟩=Z v1) (c2:w.cell? ⟨b,2,N⟩=Z v2) (c3:w.cell? ⟨b,3,N⟩=Z v3) :
  (results fn tmps).run prog w=.ok (.agg #[v0,v1,v2,v3]) w:=by
 unfold results;rw[hr];simp only[ha,List.mapM_toArray,List.mapM_cons,List.mapM_nil,asAddr];go_simp
theorem vG(o:Opt)(w:Wv):Calls prog 71 #[.agg #[I J o.st,I J o.va,.bool o.bk,.bool o.idn]] w (fun e w'=>e=.returned (.agg #[I J (bY o).st,I J (bY o).va,.bool (bY o).bk,.bool (bY o).idn])/\By w w'):=by
 have CK:=G (fun W=>UO o W);have OE:=G (QK o);have O1:=U (jJ o=true->bY o=o) (fun h=>if_pos h);have O0:=G (show¬jJ o=true->bY o=⟨3,1,false,false⟩from fun h=>if_neg h);generalize mC o=er at *;generalize jJ o=ob at *;generalize bY o=od at *;obtain⟨st,va,bk,idn⟩:=o;dsimp only at *;have B0:By w ((w.alloc (.cells #[I J st,I J va,.bool bk,.bool idn] 62)).alloc (.cells #[I J 0,I J 0,.bool false,.bool false] 62)):=(ba _ _).alloc (by simp) _;have X0:Box ((w.alloc (.cells #[I J st,I J va,.bool bk,.bool idn] 62)).alloc (.cells #[I J 0,I J 0,.bool false,.bool false] 62)) w.heap.size 62 [I J st,I J va,.bool bk,.bool idn]:=(Box.new w 62 [I J st,I J va,.bool bk,.bool idn] rfl).below (B:=w.heap.size+1) ((Below.refl _ _).alloc (by simp) _) (by omega);have X1:Box ((w.alloc (.cells #[I J st,I J va,.bool bk,.bool idn] 62)).alloc (.cells #[I J 0,I J 0,.bool false,.bool false] 62)) (w.heap.size+1) 62 [I J 0,I J 0,.bool false,.bool false]:=Box.new _ _ _ (by simp);have W0E:∃W0,((w.alloc (.cells #[I J st,I J va,.bool bk,.bool idn] 62)).alloc (.cells #[I J 0,I J 0,.bool false,.bool false] 62))=W0:=⟨_,rfl⟩;go_enter func71,ntmps71;go_wp2_with fail;obtain⟨W0,hW0⟩:=W0E;rw[hW0]at B0 X0 X1|-;clear hW0;have s0:=X0.lt;have s1:=X1.lt;have c0:=X0.c 0 rfl;have c1:=X0.c 1 rfl;have c2:=X0.c 2 rfl;have c3:=X0.c 3 rfl;go_wp2_with fail;with_reducible refine(CK.out _).mono ?_
 rintro e W1 ⟨rfl,hb1⟩;have Y0:=X0.below hb1 s0;have Y1:=X1.below hb1 s1;have B1:=B0.trans (hb1.mono B0.size);clear c0 c1 c2 c3 X0 X1 B0 hb1 CK;have c0:=Y0.c 0 rfl;have c1:=Y0.c 1 rfl;have c2:=Y0.c 2 rfl;have c3:=Y0.c 3 rfl;have d0:=Y1.c 0 rfl;have d1:=Y1.c 1 rfl;have d2:=Y1.c 2 rfl;have d3:=Y1.c 3 rfl;have f0:=Y1.free 0;have f1:=Y1.free 1;have f2:=Y1.free 2;have f3:=Y1.free 3;have HB:=G (fun(u0 u1 u2 u3:Value)=>show By w ((((W1.setCell ⟨w.heap.size+1,0,N⟩ u0).setCell ⟨w.heap.size+1,1,N⟩ u1).setCell ⟨w.heap.size+1,2,N⟩ u2).setCell ⟨w.heap.size+1,3,N⟩ u3)from(((B1.setCell (by simp) _).setCell (by simp) _).setCell (by simp) _).setCell (by simp) _);by_cases h0:er=0
 ·have HO:=G (O1.out (OE.out.1 h0))
  subst h0;clear O1 O0 OE;go_wp2_with fail;(try simp only[Exit.inBlock,Exit.then]);refine bodyPost_ret (sV rfl _ _ (b:=w.heap.size+1) (v0:=I J st) (v1:=I J va) (v2:=.bool bk) (v3:=.bool idn) rfl (by go_simp) (by go_simp) (by go_simp) (by go_simp)) rfl ?_;exact⟨by rw[HO.out],HB.out _ _ _ _⟩
 have HO:=G (O0.out (fun g=>h0 (OE.out.2 g)));have h1:(er !=0)=true:=by simpa using h0
 clear O1 O0 OE h0;go_wp2_with fail;(try simp only[Exit.inBlock,Exit.then]);refine bodyPost_ret (sV rfl _ _ (b:=w.heap.size+1) (v0:=I J 3) (v1:=I J 1) (v2:=.bool false) (v3:=.bool false) rfl (by go_simp) (by go_simp) (by go_simp) (by go_simp)) rfl ?_;exact⟨by rw[HO.out],HB.out _ _ _ _⟩
def AF(s:Nat):Value:=.func (.func 173) #[] #[.pointer (Z ⟨s,0,N⟩),.pointer (Z ⟨s+1,0,N⟩)]
structure fF(w:Wv)(s:Nat)(va:Int)(a:Bool):Prop where
 b0:Box w s 3 [I J va]
 b1:Box w (s+1) 4 [.bool a]
theorem fF.below{w w':Wv}{s:Nat}{va:Int}{a:Bool}(h:fF w s va a)(hb:By w w'):fF w' s va a:=⟨h.b0.below hb h.b0.lt,h.b1.below hb h.b1.lt⟩
def tY(va:Int)(w:Wv)(e:Ending)(w':Wv):Prop:=e=.returned (AF w.heap.size)/\fF w' w.heap.size va false/\By w w'
theorem WN(va:Int)(w:Wv):Calls prog 132 #[I J va] w (tY va w):=by
 have B0:By w ((w.alloc (.cells #[I J va] 3)).alloc (.cells #[.bool false] 4)):=(ba _ _).alloc (by simp) _;have X0:Box ((w.alloc (.cells #[I J va] 3)).alloc (.cells #[.bool false] 4)) w.heap.size 3 [I J va]:=(Box.new w 3 [I J va] rfl).below (B:=w.heap.size+1) ((Below.refl _ _).alloc (by simp) _) (by omega);have X1:Box ((w.alloc (.cells #[I J va] 3)).alloc (.cells #[.bool false] 4)) (w.heap.size+1) 4 [.bool false]:=Box.new _ _ _ (by simp);go_enter func132,ntmps132;go_wp2_with fail;go_ret
 first
  |exact⟨rfl,⟨X0,X1⟩,B0⟩
  |exact⟨rfl,⟨X0,X1.set 0 _⟩,B0.setCell (by simp) _⟩
theorem eH{a w:Wv}{r:Option Nat}(h:a.grownBy w r)(o:Obj):a.grownBy (w.alloc o) r:=cA h (ba _ _)
theorem cX{a w:Wv}{r:Option Nat}(h:a.grownBy w r)(p:Addr)(hp:a.heap.size<=p.block)(v:Value):a.grownBy (w.setCell p v) r:=
 ⟨h.os,h.tape,h.output,by simp[World.setCell];exact h.size,fun k hk hne=>(Below.heap_setCell w p v k (by omega)).trans (h.block k hk hne)⟩
theorem aG{a w:Wv}{p:Addr}(h:a.grownBy w (Z p.block))(v:Value):a.grownBy (w.setCell p v) (Z p.block):=aV h (bT _ _ _)
theorem dF{w:Wv}{b:Nat}{t:TypeId}{cs:Lv}(h:Box w b t cs)(o:Obj):Box (w.alloc o) b t cs:=h.below (ba _ _) h.lt
theorem aW{w:Wv}{b:Nat}{t:TypeId}{cs:Lv}(h:Box w b t cs)(p:Addr)(hp:b≠p.block)(v:Value):Box (w.setCell p v) b t cs:=(Below.heap_setCell w p v b (fun e=>hp e)).trans h
theorem fA{P:Program}(w:Wv)(d:Nat)(t e:TypeId)(k:IntKind)(i:TypeInfo)(ht:P.underlying t=Z (.array 4 e))(he:P.underlying e=Z (.int k))(hi:P.info? e=Z i)(hs:i.size=1)(a b c f a' b' c' f':Int):
  (Op.equalIn (d+2) t (.agg #[.int k a,.int k b,.int k c,.int k f]) (.agg #[.int k a',.int k b',.int k c',.int k f'])).run P w=.ok (a==a'&&b==b'&&c==c'&&f==f') w:=by
 have e0:∀W,(Op.equalIn (d+1) e (.int k a) (.int k a')).run P W=.ok (a==a') W:=fun W=>run_equalIn_int W d e k k a a' he
 have e1:∀W,(Op.equalIn (d+1) e (.int k b) (.int k b')).run P W=.ok (b==b') W:=fun W=>run_equalIn_int W d e k k b b' he
 have e2:∀W,(Op.equalIn (d+1) e (.int k c) (.int k c')).run P W=.ok (c==c') W:=fun W=>run_equalIn_int W d e k k c c' he
 have e3:∀W,(Op.equalIn (d+1) e (.int k f) (.int k f')).run P W=.ok (f==f') W:=fun W=>run_equalIn_int W d e k k f f' he
 have p0:=fun(xs:Array Value) (v:Value)=>lE (P:=P) w e k he xs 0 v
 have p1:=fun(xs:Array Value) (v:Value)=>lE (P:=P) w e k he xs 1 v
 have p2:=fun(xs:Array Value) (v:Value)=>lE (P:=P) w e k he xs 2 v
 have p3:=fun(xs:Array Value) (v:Value)=>lE (P:=P) w e k he xs 3 v
 rw[Op.equalIn];simp only[Sem.run_bind,run_underlying ht,Result.andThen_ok,sizeOf,typeInfo,Sem.run_pure];simp[Std.Legacy.Range.forIn_eq_forIn_range',List.range',e0,e1,e2,e3,p0,p1,p2,p3,hi,hs];by_cases h1:a=a'<;>by_cases h2:b=b'<;>by_cases h3:c=c'<;>by_cases h4:f=f'<;>simp[h1,h2,h3,h4]
structure tZ(va:Int)(a:Bool)(x:Elt)(bf:Nat)(w:Wv)(e:Ending)(w':Wv):Prop where
 ret:e=.returned (.agg #[I J (wtE va (aF a x) x 0),I J (wtE va (aF a x) x 1),I J (wtE va (aF a x) x 2),I J (wtE va (aF a x) x 3)])
 box:Box w' bf 4 [.bool (if va=1 then a else aF a x)]
 gr:w.grownBy w' (Z bf)
theorem XK(p s t:Int)(v:Bool)(va:Int)(a:Bool)(bv bf:Nat)(w:Wv)(hv:Box w bv 3 [I J va])(hf:Box w bf 4 [.bool a])(hz:p=0/\s=0/\t=0)(h1:va=1):
  Calls prog 173 #[.agg #[I J p,I J s,I J t,.bool v],.pointer (Z ⟨bv,0,N⟩),.pointer (Z ⟨bf,0,N⟩)] w (fun e w'=>e=.returned (.agg #[I J 0,I J 0,I J 0,I J 0])/\Box w' bf 4 [.bool a]/\w.grownBy w' (Z bf)):=by
 have cv:=hv.c 0 rfl;have cf:=hf.c 0 rfl;have ff:=hf.free 0;have lv:=hv.lt;have lf:=hf.lt;have lv1:bv<w.heap.size+1:=by omega
 have lv2:bv<w.heap.size+1+1:=by omega
 have lf1:bf<w.heap.size+1:=by omega
 have lf2:bf<w.heap.size+1+1:=by omega
 have m1:¬bf=w.heap.size:=by omega
 have m2:¬bf=w.heap.size+1:=by omega
 have m3:¬bf=w.heap.size+1+1:=by omega
 have l1:¬w.heap.size=bf:=by omega
 have l2:¬w.heap.size+1=bf:=by omega
 have l3:¬w.heap.size+1+1=bf:=by omega
 obtain⟨i0,hi,hz0,hz1,hz2⟩:=info_parts bK;have q4:=fun W x y z f x' y' z' f'=>fA (P:=prog) W 9998 190 3 .i64 i0 underlying190 underlying3 hi hz1 x y z f x' y' z' f'
 have x1:¬bv=bf:=by
  intro e;subst e;rw[cv]at cf;cases cf
 have x2:¬bf=bv:=fun e=>x1 e.symm
 have HF:=G hf;clear hi hz0 hz1 hz2 hv hf;subst h1;obtain⟨rfl,rfl,rfl⟩:=hz;go_enter func173,ntmps173;go_wp2_with fail;(try simp only[Exit.inBlock,Exit.then]);refine bodyPost_ret (e_ rfl _ _ (b:=w.heap.size+1) rfl (by go_simp;try rfl) (by go_simp;try rfl) (by go_simp;try rfl) (by go_simp;try rfl)) rfl ?_;refine⟨rfl,?_,?_⟩
 ·repeat(first|exact HF.out|exact Box.set HF.out 0 _|refine dF ?_ _|refine aW ?_ _ (by assumption) _|refine Box.set (cs:=[_]) ?_ 0 _)
 repeat(first|exact aN _ _|refine eH ?_ _|refine aG (p:=⟨bf,0,N⟩) ?_ _|refine cX ?_ _ (by simp<;>omega) _)
theorem XL(p s t:Int)(v:Bool)(va:Int)(a:Bool)(bv bf:Nat)(w:Wv)(hv:Box w bv 3 [I J va])(hf:Box w bf 4 [.bool a])(hz:¬(p=0/\s=0/\t=0))(h1:va=1):
  Calls prog 173 #[.agg #[I J p,I J s,I J t,.bool v],.pointer (Z ⟨bv,0,N⟩),.pointer (Z ⟨bf,0,N⟩)] w (fun e w'=>e=.returned (.agg #[I J p,I J s,I J t,I J 65535])/\Box w' bf 4 [.bool a]/\w.grownBy w' (Z bf)):=by
 have cv:=hv.c 0 rfl;have cf:=hf.c 0 rfl;have ff:=hf.free 0;have lv:=hv.lt;have lf:=hf.lt;have lv1:bv<w.heap.size+1:=by omega
 have lv2:bv<w.heap.size+1+1:=by omega
 have lf1:bf<w.heap.size+1:=by omega
 have lf2:bf<w.heap.size+1+1:=by omega
 have m1:¬bf=w.heap.size:=by omega
 have m2:¬bf=w.heap.size+1:=by omega
 have m3:¬bf=w.heap.size+1+1:=by omega
 have l1:¬w.heap.size=bf:=by omega
 have l2:¬w.heap.size+1=bf:=by omega
 have l3:¬w.heap.size+1+1=bf:=by omega
 obtain⟨i0,hi,hz0,hz1,hz2⟩:=info_parts bK;have q4:=fun W x y z f x' y' z' f'=>fA (P:=prog) W 9998 190 3 .i64 i0 underlying190 underlying3 hi hz1 x y z f x' y' z' f'
 have x1:¬bv=bf:=by
  intro e;subst e;rw[cv]at cf;cases cf
 have x2:¬bf=bv:=fun e=>x1 e.symm
 have HF:=G hf;clear hi hz0 hz1 hz2 hv hf;subst h1;have qz:(p==0&&s==0&&t==0&&true)=false:=by cases h:(p==0&&s==0&&t==0&&true)with|false=>rfl|true=>(simp at h;exact absurd ⟨h.1.1,h.1.2,h.2⟩ hz)
 have qz2:(p==0&&s==0&&t==0)=false:=by cases h:(p==0&&s==0&&t==0)with|false=>rfl|true=>(simp at h;exact absurd ⟨h.1.1,h.1.2,h.2⟩ hz)
 clear hz;go_enter func173,ntmps173;go_wp2_with fail;(try simp only[Exit.inBlock,Exit.then]);refine bodyPost_ret (e_ rfl _ _ (b:=w.heap.size+1) rfl (by go_simp;try rfl) (by go_simp;try rfl) (by go_simp;try rfl) (by go_simp;try rfl)) rfl ?_;refine⟨rfl,?_,?_⟩
 ·repeat(first|exact HF.out|exact Box.set HF.out 0 _|refine dF ?_ _|refine aW ?_ _ (by assumption) _|refine Box.set (cs:=[_]) ?_ 0 _)
 repeat(first|exact aN _ _|refine eH ?_ _|refine aG (p:=⟨bf,0,N⟩) ?_ _|refine cX ?_ _ (by simp<;>omega) _)
theorem WX(p s t:Int)(v:Bool)(va:Int)(a:Bool)(bv bf:Nat)(w:Wv)(hv:Box w bv 3 [I J va])(hf:Box w bf 4 [.bool a])(hz:p=0/\s=0/\t=0)(h1:va=2)(h2:v=true):
  Calls prog 173 #[.agg #[I J p,I J s,I J t,.bool v],.pointer (Z ⟨bv,0,N⟩),.pointer (Z ⟨bf,0,N⟩)] w (fun e w'=>e=.returned (.agg #[I J 0,I J 0,I J 0,I J 0])/\Box w' bf 4 [.bool true]/\w.grownBy w' (Z bf)):=by
 have cv:=hv.c 0 rfl;have cf:=hf.c 0 rfl;have ff:=hf.free 0;have lv:=hv.lt;have lf:=hf.lt;have lv1:bv<w.heap.size+1:=by omega
 have lv2:bv<w.heap.size+1+1:=by omega
 have lf1:bf<w.heap.size+1:=by omega
 have lf2:bf<w.heap.size+1+1:=by omega
 have m1:¬bf=w.heap.size:=by omega
 have m2:¬bf=w.heap.size+1:=by omega
 have m3:¬bf=w.heap.size+1+1:=by omega
 have l1:¬w.heap.size=bf:=by omega
 have l2:¬w.heap.size+1=bf:=by omega
 have l3:¬w.heap.size+1+1=bf:=by omega
 obtain⟨i0,hi,hz0,hz1,hz2⟩:=info_parts bK;have q4:=fun W x y z f x' y' z' f'=>fA (P:=prog) W 9998 190 3 .i64 i0 underlying190 underlying3 hi hz1 x y z f x' y' z' f'
 have x1:¬bv=bf:=by
  intro e;subst e;rw[cv]at cf;cases cf
 have x2:¬bf=bv:=fun e=>x1 e.symm
 have HF:=G hf;clear hi hz0 hz1 hz2 hv hf;subst h1;subst h2;obtain⟨rfl,rfl,rfl⟩:=hz;go_enter func173,ntmps173;go_wp2_with fail;(try simp only[Exit.inBlock,Exit.then]);refine bodyPost_ret (e_ rfl _ _ (b:=w.heap.size+1) rfl (by go_simp;try rfl) (by go_simp;try rfl) (by go_simp;try rfl) (by go_simp;try rfl)) rfl ?_;refine⟨rfl,?_,?_⟩
 ·repeat(first|exact HF.out|exact Box.set HF.out 0 _|refine dF ?_ _|refine aW ?_ _ (by assumption) _|refine Box.set (cs:=[_]) ?_ 0 _)
 repeat(first|exact aN _ _|refine eH ?_ _|refine aG (p:=⟨bf,0,N⟩) ?_ _|refine cX ?_ _ (by simp<;>omega) _)
theorem WY(p s t:Int)(v:Bool)(va:Int)(a:Bool)(bv bf:Nat)(w:Wv)(hv:Box w bv 3 [I J va])(hf:Box w bf 4 [.bool a])(hz:¬(p=0/\s=0/\t=0))(h1:va=2)(h2:v=true):
  Calls prog 173 #[.agg #[I J p,I J s,I J t,.bool v],.pointer (Z ⟨bv,0,N⟩),.pointer (Z ⟨bf,0,N⟩)] w (fun e w'=>e=.returned (.agg #[I J 0,I J 0,I J 0,I J 0])/\Box w' bf 4 [.bool true]/\w.grownBy w' (Z bf)):=by
 have cv:=hv.c 0 rfl;have cf:=hf.c 0 rfl;have ff:=hf.free 0;have lv:=hv.lt;have lf:=hf.lt;have lv1:bv<w.heap.size+1:=by omega
 have lv2:bv<w.heap.size+1+1:=by omega
 have lf1:bf<w.heap.size+1:=by omega
 have lf2:bf<w.heap.size+1+1:=by omega
 have m1:¬bf=w.heap.size:=by omega
 have m2:¬bf=w.heap.size+1:=by omega
 have m3:¬bf=w.heap.size+1+1:=by omega
 have l1:¬w.heap.size=bf:=by omega
 have l2:¬w.heap.size+1=bf:=by omega
 have l3:¬w.heap.size+1+1=bf:=by omega
 obtain⟨i0,hi,hz0,hz1,hz2⟩:=info_parts bK;have q4:=fun W x y z f x' y' z' f'=>fA (P:=prog) W 9998 190 3 .i64 i0 underlying190 underlying3 hi hz1 x y z f x' y' z' f'
 have x1:¬bv=bf:=by
  intro e;subst e;rw[cv]at cf;cases cf
 have x2:¬bf=bv:=fun e=>x1 e.symm
 have HF:=G hf;clear hi hz0 hz1 hz2 hv hf;subst h1;subst h2;have qz:(p==0&&s==0&&t==0&&true)=false:=by cases h:(p==0&&s==0&&t==0&&true)with|false=>rfl|true=>(simp at h;exact absurd ⟨h.1.1,h.1.2,h.2⟩ hz)
 have qz2:(p==0&&s==0&&t==0)=false:=by cases h:(p==0&&s==0&&t==0)with|false=>rfl|true=>(simp at h;exact absurd ⟨h.1.1,h.1.2,h.2⟩ hz)
 clear hz;go_enter func173,ntmps173;go_wp2_with fail;(try simp only[Exit.inBlock,Exit.then]);refine bodyPost_ret (e_ rfl _ _ (b:=w.heap.size+1) rfl (by go_simp;try rfl) (by go_simp;try rfl) (by go_simp;try rfl) (by go_simp;try rfl)) rfl ?_;refine⟨rfl,?_,?_⟩
 ·repeat(first|exact HF.out|exact Box.set HF.out 0 _|refine dF ?_ _|refine aW ?_ _ (by assumption) _|refine Box.set (cs:=[_]) ?_ 0 _)
 repeat(first|exact aN _ _|refine eH ?_ _|refine aG (p:=⟨bf,0,N⟩) ?_ _|refine cX ?_ _ (by simp<;>omega) _)
theorem WU(p s t:Int)(v:Bool)(va:Int)(a:Bool)(bv bf:Nat)(w:Wv)(hv:Box w bv 3 [I J va])(hf:Box w bf 4 [.bool a])(hz:¬(p=0/\s=0/\t=0))(h1:va=2)(h2:v=false)(h3:¬p=0):
  Calls prog 173 #[.agg #[I J p,I J s,I J t,.bool v],.pointer (Z ⟨bv,0,N⟩),.pointer (Z ⟨bf,0,N⟩)] w (fun e w'=>e=.returned (.agg #[I J p,I J s,I J t,I J 0])/\Box w' bf 4 [.bool false]/\w.grownBy w' (Z bf)):=by
 have cv:=hv.c 0 rfl;have cf:=hf.c 0 rfl;have ff:=hf.free 0;have lv:=hv.lt;have lf:=hf.lt;have lv1:bv<w.heap.size+1:=by omega
 have lv2:bv<w.heap.size+1+1:=by omega
 have lf1:bf<w.heap.size+1:=by omega
 have lf2:bf<w.heap.size+1+1:=by omega
 have m1:¬bf=w.heap.size:=by omega
 have m2:¬bf=w.heap.size+1:=by omega
 have m3:¬bf=w.heap.size+1+1:=by omega
 have l1:¬w.heap.size=bf:=by omega
 have l2:¬w.heap.size+1=bf:=by omega
 have l3:¬w.heap.size+1+1=bf:=by omega
 obtain⟨i0,hi,hz0,hz1,hz2⟩:=info_parts bK;have q4:=fun W x y z f x' y' z' f'=>fA (P:=prog) W 9998 190 3 .i64 i0 underlying190 underlying3 hi hz1 x y z f x' y' z' f'
 have x1:¬bv=bf:=by
  intro e;subst e;rw[cv]at cf;cases cf
 have x2:¬bf=bv:=fun e=>x1 e.symm
 have HF:=G hf;clear hi hz0 hz1 hz2 hv hf;subst h1;subst h2;have qp:(p !=0)=true:=by simpa using h3
 clear h3;have qz:(p==0&&s==0&&t==0&&true)=false:=by cases h:(p==0&&s==0&&t==0&&true)with|false=>rfl|true=>(simp at h;exact absurd ⟨h.1.1,h.1.2,h.2⟩ hz)
 have qz2:(p==0&&s==0&&t==0)=false:=by cases h:(p==0&&s==0&&t==0)with|false=>rfl|true=>(simp at h;exact absurd ⟨h.1.1,h.1.2,h.2⟩ hz)
 clear hz;go_enter func173,ntmps173;go_wp2_with fail;(try simp only[Exit.inBlock,Exit.then]);refine bodyPost_ret (e_ rfl _ _ (b:=w.heap.size+1) rfl (by go_simp;try rfl) (by go_simp;try rfl) (by go_simp;try rfl) (by go_simp;try rfl)) rfl ?_;refine⟨rfl,?_,?_⟩
 ·repeat(first|exact HF.out|exact Box.set HF.out 0 _|refine dF ?_ _|refine aW ?_ _ (by assumption) _|refine Box.set (cs:=[_]) ?_ 0 _)
 repeat(first|exact aN _ _|refine eH ?_ _|refine aG (p:=⟨bf,0,N⟩) ?_ _|refine cX ?_ _ (by simp<;>omega) _)
theorem WV(p s t:Int)(v:Bool)(va:Int)(a:Bool)(bv bf:Nat)(w:Wv)(hv:Box w bv 3 [I J va])(hf:Box w bf 4 [.bool a])(hz:p=0/\s=0/\t=0)(h1:va=2)(h2:v=false)(h4:a=true):
  Calls prog 173 #[.agg #[I J p,I J s,I J t,.bool v],.pointer (Z ⟨bv,0,N⟩),.pointer (Z ⟨bf,0,N⟩)] w (fun e w'=>e=.returned (.agg #[I J 0,I J 0,I J 0,I J 0])/\Box w' bf 4 [.bool true]/\w.grownBy w' (Z bf)):=by
 have cv:=hv.c 0 rfl;have cf:=hf.c 0 rfl;have ff:=hf.free 0;have lv:=hv.lt;have lf:=hf.lt;have lv1:bv<w.heap.size+1:=by omega
 have lv2:bv<w.heap.size+1+1:=by omega
 have lf1:bf<w.heap.size+1:=by omega
 have lf2:bf<w.heap.size+1+1:=by omega
 have m1:¬bf=w.heap.size:=by omega
 have m2:¬bf=w.heap.size+1:=by omega
 have m3:¬bf=w.heap.size+1+1:=by omega
 have l1:¬w.heap.size=bf:=by omega
 have l2:¬w.heap.size+1=bf:=by omega
 have l3:¬w.heap.size+1+1=bf:=by omega
 obtain⟨i0,hi,hz0,hz1,hz2⟩:=info_parts bK;have q4:=fun W x y z f x' y' z' f'=>fA (P:=prog) W 9998 190 3 .i64 i0 underlying190 underlying3 hi hz1 x y z f x' y' z' f'
 have x1:¬bv=bf:=by
  intro e;subst e;rw[cv]at cf;cases cf
 have x2:¬bf=bv:=fun e=>x1 e.symm
 have HF:=G hf;clear hi hz0 hz1 hz2 hv hf;subst h1;subst h2;subst h4;obtain⟨rfl,rfl,rfl⟩:=hz;go_enter func173,ntmps173;go_wp2_with fail;(try simp only[Exit.inBlock,Exit.then]);refine bodyPost_ret (e_ rfl _ _ (b:=w.heap.size+1) rfl (by go_simp;try rfl) (by go_simp;try rfl) (by go_simp;try rfl) (by go_simp;try rfl)) rfl ?_;refine⟨rfl,?_,?_⟩
 ·repeat(first|exact HF.out|exact Box.set HF.out 0 _|refine dF ?_ _|refine aW ?_ _ (by assumption) _|refine Box.set (cs:=[_]) ?_ 0 _)
 repeat(first|exact aN _ _|refine eH ?_ _|refine aG (p:=⟨bf,0,N⟩) ?_ _|refine cX ?_ _ (by simp<;>omega) _)
theorem WW(p s t:Int)(v:Bool)(va:Int)(a:Bool)(bv bf:Nat)(w:Wv)(hv:Box w bv 3 [I J va])(hf:Box w bf 4 [.bool a])(hz:¬(s=0/\t=0))(h1:va=2)(h2:v=false)(h3:p=0)(h4:a=true):
  Calls prog 173 #[.agg #[I J p,I J s,I J t,.bool v],.pointer (Z ⟨bv,0,N⟩),.pointer (Z ⟨bf,0,N⟩)] w (fun e w'=>e=.returned (.agg #[I J 0,I J 0,I J 0,I J 0])/\Box w' bf 4 [.bool true]/\w.grownBy w' (Z bf)):=by
 have cv:=hv.c 0 rfl;have cf:=hf.c 0 rfl;have ff:=hf.free 0;have lv:=hv.lt;have lf:=hf.lt;have lv1:bv<w.heap.size+1:=by omega
 have lv2:bv<w.heap.size+1+1:=by omega
 have lf1:bf<w.heap.size+1:=by omega
 have lf2:bf<w.heap.size+1+1:=by omega
 have m1:¬bf=w.heap.size:=by omega
 have m2:¬bf=w.heap.size+1:=by omega
 have m3:¬bf=w.heap.size+1+1:=by omega
 have l1:¬w.heap.size=bf:=by omega
 have l2:¬w.heap.size+1=bf:=by omega
 have l3:¬w.heap.size+1+1=bf:=by omega
 obtain⟨i0,hi,hz0,hz1,hz2⟩:=info_parts bK;have q4:=fun W x y z f x' y' z' f'=>fA (P:=prog) W 9998 190 3 .i64 i0 underlying190 underlying3 hi hz1 x y z f x' y' z' f'
 have x1:¬bv=bf:=by
  intro e;subst e;rw[cv]at cf;cases cf
 have x2:¬bf=bv:=fun e=>x1 e.symm
 have HF:=G hf;clear hi hz0 hz1 hz2 hv hf;subst h1;subst h2;subst h3;subst h4;have qz:(s==0&&t==0&&true)=false:=by cases h:(s==0&&t==0&&true)with|false=>rfl|true=>(simp at h;exact absurd ⟨h.1,h.2⟩ hz)
 have qz2:(s==0&&t==0)=false:=by cases h:(s==0&&t==0)with|false=>rfl|true=>(simp at h;exact absurd ⟨h.1,h.2⟩ hz)
 clear hz;go_enter func173,ntmps173;go_wp2_with fail;(try simp only[Exit.inBlock,Exit.then]);refine bodyPost_ret (e_ rfl _ _ (b:=w.heap.size+1) rfl (by go_simp;try rfl) (by go_simp;try rfl) (by go_simp;try rfl) (by go_simp;try rfl)) rfl ?_;refine⟨rfl,?_,?_⟩
 ·repeat(first|exact HF.out|exact Box.set HF.out 0 _|refine dF ?_ _|refine aW ?_ _ (by assumption) _|refine Box.set (cs:=[_]) ?_ 0 _)
 repeat(first|exact aN _ _|refine eH ?_ _|refine aG (p:=⟨bf,0,N⟩) ?_ _|refine cX ?_ _ (by simp<;>omega) _)
theorem WS(p s t:Int)(v:Bool)(va:Int)(a:Bool)(bv bf:Nat)(w:Wv)(hv:Box w bv 3 [I J va])(hf:Box w bf 4 [.bool a])(hz:p=0/\s=0/\t=0)(h1:va=2)(h2:v=false)(h4:a=false):
  Calls prog 173 #[.agg #[I J p,I J s,I J t,.bool v],.pointer (Z ⟨bv,0,N⟩),.pointer (Z ⟨bf,0,N⟩)] w (fun e w'=>e=.returned (.agg #[I J 0,I J 0,I J 0,I J 0])/\Box w' bf 4 [.bool false]/\w.grownBy w' (Z bf)):=by
 have cv:=hv.c 0 rfl;have cf:=hf.c 0 rfl;have ff:=hf.free 0;have lv:=hv.lt;have lf:=hf.lt;have lv1:bv<w.heap.size+1:=by omega
 have lv2:bv<w.heap.size+1+1:=by omega
 have lf1:bf<w.heap.size+1:=by omega
 have lf2:bf<w.heap.size+1+1:=by omega
 have m1:¬bf=w.heap.size:=by omega
 have m2:¬bf=w.heap.size+1:=by omega
 have m3:¬bf=w.heap.size+1+1:=by omega
 have l1:¬w.heap.size=bf:=by omega
 have l2:¬w.heap.size+1=bf:=by omega
 have l3:¬w.heap.size+1+1=bf:=by omega
 obtain⟨i0,hi,hz0,hz1,hz2⟩:=info_parts bK;have q4:=fun W x y z f x' y' z' f'=>fA (P:=prog) W 9998 190 3 .i64 i0 underlying190 underlying3 hi hz1 x y z f x' y' z' f'
 have x1:¬bv=bf:=by
  intro e;subst e;rw[cv]at cf;cases cf
 have x2:¬bf=bv:=fun e=>x1 e.symm
 have HF:=G hf;clear hi hz0 hz1 hz2 hv hf;subst h1;subst h2;subst h4;obtain⟨rfl,rfl,rfl⟩:=hz;go_enter func173,ntmps173;go_wp2_with fail;(try simp only[Exit.inBlock,Exit.then]);refine bodyPost_ret (e_ rfl _ _ (b:=w.heap.size+1) rfl (by go_simp;try rfl) (by go_simp;try rfl) (by go_simp;try rfl) (by go_simp;try rfl)) rfl ?_;refine⟨rfl,?_,?_⟩
 ·repeat(first|exact HF.out|exact Box.set HF.out 0 _|refine dF ?_ _|refine aW ?_ _ (by assumption) _|refine Box.set (cs:=[_]) ?_ 0 _)
 repeat(first|exact aN _ _|refine eH ?_ _|refine aG (p:=⟨bf,0,N⟩) ?_ _|refine cX ?_ _ (by simp<;>omega) _)
theorem WT(p s t:Int)(v:Bool)(va:Int)(a:Bool)(bv bf:Nat)(w:Wv)(hv:Box w bv 3 [I J va])(hf:Box w bf 4 [.bool a])(hz:¬(s=0/\t=0))(h1:va=2)(h2:v=false)(h3:p=0)(h4:a=false):
  Calls prog 173 #[.agg #[I J p,I J s,I J t,.bool v],.pointer (Z ⟨bv,0,N⟩),.pointer (Z ⟨bf,0,N⟩)] w (fun e w'=>e=.returned (.agg #[I J 0,I J s,I J t,I J 0])/\Box w' bf 4 [.bool false]/\w.grownBy w' (Z bf)):=by
 have cv:=hv.c 0 rfl;have cf:=hf.c 0 rfl;have ff:=hf.free 0;have lv:=hv.lt;have lf:=hf.lt;have lv1:bv<w.heap.size+1:=by omega
 have lv2:bv<w.heap.size+1+1:=by omega
 have lf1:bf<w.heap.size+1:=by omega
 have lf2:bf<w.heap.size+1+1:=by omega
 have m1:¬bf=w.heap.size:=by omega
 have m2:¬bf=w.heap.size+1:=by omega
 have m3:¬bf=w.heap.size+1+1:=by omega
 have l1:¬w.heap.size=bf:=by omega
 have l2:¬w.heap.size+1=bf:=by omega
 have l3:¬w.heap.size+1+1=bf:=by omega
 obtain⟨i0,hi,hz0,hz1,hz2⟩:=info_parts bK;have q4:=fun W x y z f x' y' z' f'=>fA (P:=prog) W 9998 190 3 .i64 i0 underlying190 underlying3 hi hz1 x y z f x' y' z' f'
 have x1:¬bv=bf:=by
  intro e;subst e;rw[cv]at cf;cases cf
 have x2:¬bf=bv:=fun e=>x1 e.symm
 have HF:=G hf;clear hi hz0 hz1 hz2 hv hf;subst h1;subst h2;subst h3;subst h4;have qz:(s==0&&t==0&&true)=false:=by cases h:(s==0&&t==0&&true)with|false=>rfl|true=>(simp at h;exact absurd ⟨h.1,h.2⟩ hz)
 have qz2:(s==0&&t==0)=false:=by cases h:(s==0&&t==0)with|false=>rfl|true=>(simp at h;exact absurd ⟨h.1,h.2⟩ hz)
 clear hz;go_enter func173,ntmps173;go_wp2_with fail;(try simp only[Exit.inBlock,Exit.then]);refine bodyPost_ret (e_ rfl _ _ (b:=w.heap.size+1) rfl (by go_simp;try rfl) (by go_simp;try rfl) (by go_simp;try rfl) (by go_simp;try rfl)) rfl ?_;refine⟨rfl,?_,?_⟩
 ·repeat(first|exact HF.out|exact Box.set HF.out 0 _|refine dF ?_ _|refine aW ?_ _ (by assumption) _|refine Box.set (cs:=[_]) ?_ 0 _)
 repeat(first|exact aN _ _|refine eH ?_ _|refine aG (p:=⟨bf,0,N⟩) ?_ _|refine cX ?_ _ (by simp<;>omega) _)
theorem XI(p s t:Int)(v:Bool)(va:Int)(a:Bool)(bv bf:Nat)(w:Wv)(hv:Box w bv 3 [I J va])(hf:Box w bf 4 [.bool a])(hz:p=0/\s=0/\t=0)(h1:va=3)(h2:v=true):
  Calls prog 173 #[.agg #[I J p,I J s,I J t,.bool v],.pointer (Z ⟨bv,0,N⟩),.pointer (Z ⟨bf,0,N⟩)] w (fun e w'=>e=.returned (.agg #[I J 0,I J 0,I J 0,I J 0])/\Box w' bf 4 [.bool true]/\w.grownBy w' (Z bf)):=by
 have cv:=hv.c 0 rfl;have cf:=hf.c 0 rfl;have ff:=hf.free 0;have lv:=hv.lt;have lf:=hf.lt;have lv1:bv<w.heap.size+1:=by omega
 have lv2:bv<w.heap.size+1+1:=by omega
 have lf1:bf<w.heap.size+1:=by omega
 have lf2:bf<w.heap.size+1+1:=by omega
 have m1:¬bf=w.heap.size:=by omega
 have m2:¬bf=w.heap.size+1:=by omega
 have m3:¬bf=w.heap.size+1+1:=by omega
 have l1:¬w.heap.size=bf:=by omega
 have l2:¬w.heap.size+1=bf:=by omega
 have l3:¬w.heap.size+1+1=bf:=by omega
 obtain⟨i0,hi,hz0,hz1,hz2⟩:=info_parts bK;have q4:=fun W x y z f x' y' z' f'=>fA (P:=prog) W 9998 190 3 .i64 i0 underlying190 underlying3 hi hz1 x y z f x' y' z' f'
 have x1:¬bv=bf:=by
  intro e;subst e;rw[cv]at cf;cases cf
 have x2:¬bf=bv:=fun e=>x1 e.symm
 have HF:=G hf;clear hi hz0 hz1 hz2 hv hf;subst h1;subst h2;obtain⟨rfl,rfl,rfl⟩:=hz;go_enter func173,ntmps173;go_wp2_with fail;(try simp only[Exit.inBlock,Exit.then]);refine bodyPost_ret (e_ rfl _ _ (b:=w.heap.size+1) rfl (by go_simp;try rfl) (by go_simp;try rfl) (by go_simp;try rfl) (by go_simp;try rfl)) rfl ?_;refine⟨rfl,?_,?_⟩
 ·repeat(first|exact HF.out|exact Box.set HF.out 0 _|refine dF ?_ _|refine aW ?_ _ (by assumption) _|refine Box.set (cs:=[_]) ?_ 0 _)
 repeat(first|exact aN _ _|refine eH ?_ _|refine aG (p:=⟨bf,0,N⟩) ?_ _|refine cX ?_ _ (by simp<;>omega) _)
theorem XJ(p s t:Int)(v:Bool)(va:Int)(a:Bool)(bv bf:Nat)(w:Wv)(hv:Box w bv 3 [I J va])(hf:Box w bf 4 [.bool a])(hz:¬(p=0/\s=0/\t=0))(h1:va=3)(h2:v=true):
  Calls prog 173 #[.agg #[I J p,I J s,I J t,.bool v],.pointer (Z ⟨bv,0,N⟩),.pointer (Z ⟨bf,0,N⟩)] w (fun e w'=>e=.returned (.agg #[I J 0,I J 0,I J 0,I J p])/\Box w' bf 4 [.bool true]/\w.grownBy w' (Z bf)):=by
 have cv:=hv.c 0 rfl;have cf:=hf.c 0 rfl;have ff:=hf.free 0;have lv:=hv.lt;have lf:=hf.lt;have lv1:bv<w.heap.size+1:=by omega
 have lv2:bv<w.heap.size+1+1:=by omega
 have lf1:bf<w.heap.size+1:=by omega
 have lf2:bf<w.heap.size+1+1:=by omega
 have m1:¬bf=w.heap.size:=by omega
 have m2:¬bf=w.heap.size+1:=by omega
 have m3:¬bf=w.heap.size+1+1:=by omega
 have l1:¬w.heap.size=bf:=by omega
 have l2:¬w.heap.size+1=bf:=by omega
 have l3:¬w.heap.size+1+1=bf:=by omega
 obtain⟨i0,hi,hz0,hz1,hz2⟩:=info_parts bK;have q4:=fun W x y z f x' y' z' f'=>fA (P:=prog) W 9998 190 3 .i64 i0 underlying190 underlying3 hi hz1 x y z f x' y' z' f'
 have x1:¬bv=bf:=by
  intro e;subst e;rw[cv]at cf;cases cf
 have x2:¬bf=bv:=fun e=>x1 e.symm
 have HF:=G hf;clear hi hz0 hz1 hz2 hv hf;subst h1;subst h2;have qz:(p==0&&s==0&&t==0&&true)=false:=by cases h:(p==0&&s==0&&t==0&&true)with|false=>rfl|true=>(simp at h;exact absurd ⟨h.1.1,h.1.2,h.2⟩ hz)
 have qz2:(p==0&&s==0&&t==0)=false:=by cases h:(p==0&&s==0&&t==0)with|false=>rfl|true=>(simp at h;exact absurd ⟨h.1.1,h.1.2,h.2⟩ hz)
 clear hz;go_enter func173,ntmps173;go_wp2_with fail;(try simp only[Exit.inBlock,Exit.then]);refine bodyPost_ret (e_ rfl _ _ (b:=w.heap.size+1) rfl (by go_simp;try rfl) (by go_simp;try rfl) (by go_simp;try rfl) (by go_simp;try rfl)) rfl ?_;refine⟨rfl,?_,?_⟩
 ·repeat(first|exact HF.out|exact Box.set HF.out 0 _|refine dF ?_ _|refine aW ?_ _ (by assumption) _|refine Box.set (cs:=[_]) ?_ 0 _)
 repeat(first|exact aN _ _|refine eH ?_ _|refine aG (p:=⟨bf,0,N⟩) ?_ _|refine cX ?_ _ (by simp<;>omega) _)
theorem XE(p s t:Int)(v:Bool)(va:Int)(a:Bool)(bv bf:Nat)(w:Wv)(hv:Box w bv 3 [I J va])(hf:Box w bf 4 [.bool a])(hz:¬(p=0/\s=0/\t=0))(h1:va=3)(h2:v=false)(h3:¬p=0):
  Calls prog 173 #[.agg #[I J p,I J s,I J t,.bool v],.pointer (Z ⟨bv,0,N⟩),.pointer (Z ⟨bf,0,N⟩)] w (fun e w'=>e=.returned (.agg #[I J p,I J s,I J t,I J 65535])/\Box w' bf 4 [.bool false]/\w.grownBy w' (Z bf)):=by
 have cv:=hv.c 0 rfl;have cf:=hf.c 0 rfl;have ff:=hf.free 0;have lv:=hv.lt;have lf:=hf.lt;have lv1:bv<w.heap.size+1:=by omega
 have lv2:bv<w.heap.size+1+1:=by omega
 have lf1:bf<w.heap.size+1:=by omega
 have lf2:bf<w.heap.size+1+1:=by omega
 have m1:¬bf=w.heap.size:=by omega
 have m2:¬bf=w.heap.size+1:=by omega
 have m3:¬bf=w.heap.size+1+1:=by omega
 have l1:¬w.heap.size=bf:=by omega
 have l2:¬w.heap.size+1=bf:=by omega
 have l3:¬w.heap.size+1+1=bf:=by omega
 obtain⟨i0,hi,hz0,hz1,hz2⟩:=info_parts bK;have q4:=fun W x y z f x' y' z' f'=>fA (P:=prog) W 9998 190 3 .i64 i0 underlying190 underlying3 hi hz1 x y z f x' y' z' f'
 have x1:¬bv=bf:=by
  intro e;subst e;rw[cv]at cf;cases cf
 have x2:¬bf=bv:=fun e=>x1 e.symm
 have HF:=G hf;clear hi hz0 hz1 hz2 hv hf;subst h1;subst h2;have qp:(p !=0)=true:=by simpa using h3
 clear h3;have qz:(p==0&&s==0&&t==0&&true)=false:=by cases h:(p==0&&s==0&&t==0&&true)with|false=>rfl|true=>(simp at h;exact absurd ⟨h.1.1,h.1.2,h.2⟩ hz)
 have qz2:(p==0&&s==0&&t==0)=false:=by cases h:(p==0&&s==0&&t==0)with|false=>rfl|true=>(simp at h;exact absurd ⟨h.1.1,h.1.2,h.2⟩ hz)
 clear hz;go_enter func173,ntmps173;go_wp2_with fail;(try simp only[Exit.inBlock,Exit.then]);refine bodyPost_ret (e_ rfl _ _ (b:=w.heap.size+1) rfl (by go_simp;try rfl) (by go_simp;try rfl) (by go_simp;try rfl) (by go_simp;try rfl)) rfl ?_;refine⟨rfl,?_,?_⟩
 ·repeat(first|exact HF.out|exact Box.set HF.out 0 _|refine dF ?_ _|refine aW ?_ _ (by assumption) _|refine Box.set (cs:=[_]) ?_ 0 _)
 repeat(first|exact aN _ _|refine eH ?_ _|refine aG (p:=⟨bf,0,N⟩) ?_ _|refine cX ?_ _ (by simp<;>omega) _)
theorem XG(p s t:Int)(v:Bool)(va:Int)(a:Bool)(bv bf:Nat)(w:Wv)(hv:Box w bv 3 [I J va])(hf:Box w bf 4 [.bool a])(hz:p=0/\s=0/\t=0)(h1:va=3)(h2:v=false)(h4:a=true):
  Calls prog 173 #[.agg #[I J p,I J s,I J t,.bool v],.pointer (Z ⟨bv,0,N⟩),.pointer (Z ⟨bf,0,N⟩)] w (fun e w'=>e=.returned (.agg #[I J 0,I J 0,I J 0,I J 0])/\Box w' bf 4 [.bool true]/\w.grownBy w' (Z bf)):=by
 have cv:=hv.c 0 rfl;have cf:=hf.c 0 rfl;have ff:=hf.free 0;have lv:=hv.lt;have lf:=hf.lt;have lv1:bv<w.heap.size+1:=by omega
 have lv2:bv<w.heap.size+1+1:=by omega
 have lf1:bf<w.heap.size+1:=by omega
 have lf2:bf<w.heap.size+1+1:=by omega
 have m1:¬bf=w.heap.size:=by omega
 have m2:¬bf=w.heap.size+1:=by omega
 have m3:¬bf=w.heap.size+1+1:=by omega
 have l1:¬w.heap.size=bf:=by omega
 have l2:¬w.heap.size+1=bf:=by omega
 have l3:¬w.heap.size+1+1=bf:=by omega
 obtain⟨i0,hi,hz0,hz1,hz2⟩:=info_parts bK;have q4:=fun W x y z f x' y' z' f'=>fA (P:=prog) W 9998 190 3 .i64 i0 underlying190 underlying3 hi hz1 x y z f x' y' z' f'
 have x1:¬bv=bf:=by
  intro e;subst e;rw[cv]at cf;cases cf
 have x2:¬bf=bv:=fun e=>x1 e.symm
 have HF:=G hf;clear hi hz0 hz1 hz2 hv hf;subst h1;subst h2;subst h4;obtain⟨rfl,rfl,rfl⟩:=hz;go_enter func173,ntmps173;go_wp2_with fail;(try simp only[Exit.inBlock,Exit.then]);refine bodyPost_ret (e_ rfl _ _ (b:=w.heap.size+1) rfl (by go_simp;try rfl) (by go_simp;try rfl) (by go_simp;try rfl) (by go_simp;try rfl)) rfl ?_;refine⟨rfl,?_,?_⟩
 ·repeat(first|exact HF.out|exact Box.set HF.out 0 _|refine dF ?_ _|refine aW ?_ _ (by assumption) _|refine Box.set (cs:=[_]) ?_ 0 _)
 repeat(first|exact aN _ _|refine eH ?_ _|refine aG (p:=⟨bf,0,N⟩) ?_ _|refine cX ?_ _ (by simp<;>omega) _)
theorem XH(p s t:Int)(v:Bool)(va:Int)(a:Bool)(bv bf:Nat)(w:Wv)(hv:Box w bv 3 [I J va])(hf:Box w bf 4 [.bool a])(hz:¬(s=0/\t=0))(h1:va=3)(h2:v=false)(h3:p=0)(h4:a=true):
  Calls prog 173 #[.agg #[I J p,I J s,I J t,.bool v],.pointer (Z ⟨bv,0,N⟩),.pointer (Z ⟨bf,0,N⟩)] w (fun e w'=>e=.returned (.agg #[I J 0,I J 0,I J 0,I J 0])/\Box w' bf 4 [.bool true]/\w.grownBy w' (Z bf)):=by
 have cv:=hv.c 0 rfl;have cf:=hf.c 0 rfl;have ff:=hf.free 0;have lv:=hv.lt;have lf:=hf.lt;have lv1:bv<w.heap.size+1:=by omega
 have lv2:bv<w.heap.size+1+1:=by omega
 have lf1:bf<w.heap.size+1:=by omega
 have lf2:bf<w.heap.size+1+1:=by omega
 have m1:¬bf=w.heap.size:=by omega
 have m2:¬bf=w.heap.size+1:=by omega
 have m3:¬bf=w.heap.size+1+1:=by omega
 have l1:¬w.heap.size=bf:=by omega
 have l2:¬w.heap.size+1=bf:=by omega
 have l3:¬w.heap.size+1+1=bf:=by omega
 obtain⟨i0,hi,hz0,hz1,hz2⟩:=info_parts bK;have q4:=fun W x y z f x' y' z' f'=>fA (P:=prog) W 9998 190 3 .i64 i0 underlying190 underlying3 hi hz1 x y z f x' y' z' f'
 have x1:¬bv=bf:=by
  intro e;subst e;rw[cv]at cf;cases cf
 have x2:¬bf=bv:=fun e=>x1 e.symm
 have HF:=G hf;clear hi hz0 hz1 hz2 hv hf;subst h1;subst h2;subst h3;subst h4;have qz:(s==0&&t==0&&true)=false:=by cases h:(s==0&&t==0&&true)with|false=>rfl|true=>(simp at h;exact absurd ⟨h.1,h.2⟩ hz)
 have qz2:(s==0&&t==0)=false:=by cases h:(s==0&&t==0)with|false=>rfl|true=>(simp at h;exact absurd ⟨h.1,h.2⟩ hz)
 clear hz;go_enter func173,ntmps173;go_wp2_with fail;(try simp only[Exit.inBlock,Exit.then]);refine bodyPost_ret (e_ rfl _ _ (b:=w.heap.size+1) rfl (by go_simp;try rfl) (by go_simp;try rfl) (by go_simp;try rfl) (by go_simp;try rfl)) rfl ?_;refine⟨rfl,?_,?_⟩
 ·repeat(first|exact HF.out|exact Box.set HF.out 0 _|refine dF ?_ _|refine aW ?_ _ (by assumption) _|refine Box.set (cs:=[_]) ?_ 0 _)
 repeat(first|exact aN _ _|refine eH ?_ _|refine aG (p:=⟨bf,0,N⟩) ?_ _|refine cX ?_ _ (by simp<;>omega) _)
theorem WZ(p s t:Int)(v:Bool)(va:Int)(a:Bool)(bv bf:Nat)(w:Wv)(hv:Box w bv 3 [I J va])(hf:Box w bf 4 [.bool a])(hz:p=0/\s=0/\t=0)(h1:va=3)(h2:v=false)(h4:a=false):
  Calls prog 173 #[.agg #[I J p,I J s,I J t,.bool v],.pointer (Z ⟨bv,0,N⟩),.pointer (Z ⟨bf,0,N⟩)] w (fun e w'=>e=.returned (.agg #[I J 0,I J 0,I J 0,I J 0])/\Box w' bf 4 [.bool false]/\w.grownBy w' (Z bf)):=by
 have cv:=hv.c 0 rfl;have cf:=hf.c 0 rfl;have ff:=hf.free 0;have lv:=hv.lt;have lf:=hf.lt;have lv1:bv<w.heap.size+1:=by omega
 have lv2:bv<w.heap.size+1+1:=by omega
 have lf1:bf<w.heap.size+1:=by omega
 have lf2:bf<w.heap.size+1+1:=by omega
 have m1:¬bf=w.heap.size:=by omega
 have m2:¬bf=w.heap.size+1:=by omega
 have m3:¬bf=w.heap.size+1+1:=by omega
 have l1:¬w.heap.size=bf:=by omega
 have l2:¬w.heap.size+1=bf:=by omega
 have l3:¬w.heap.size+1+1=bf:=by omega
 obtain⟨i0,hi,hz0,hz1,hz2⟩:=info_parts bK;have q4:=fun W x y z f x' y' z' f'=>fA (P:=prog) W 9998 190 3 .i64 i0 underlying190 underlying3 hi hz1 x y z f x' y' z' f'
 have x1:¬bv=bf:=by
  intro e;subst e;rw[cv]at cf;cases cf
 have x2:¬bf=bv:=fun e=>x1 e.symm
 have HF:=G hf;clear hi hz0 hz1 hz2 hv hf;subst h1;subst h2;subst h4;obtain⟨rfl,rfl,rfl⟩:=hz;go_enter func173,ntmps173;go_wp2_with fail;(try simp only[Exit.inBlock,Exit.then]);refine bodyPost_ret (e_ rfl _ _ (b:=w.heap.size+1) rfl (by go_simp;try rfl) (by go_simp;try rfl) (by go_simp;try rfl) (by go_simp;try rfl)) rfl ?_;refine⟨rfl,?_,?_⟩
 ·repeat(first|exact HF.out|exact Box.set HF.out 0 _|refine dF ?_ _|refine aW ?_ _ (by assumption) _|refine Box.set (cs:=[_]) ?_ 0 _)
 repeat(first|exact aN _ _|refine eH ?_ _|refine aG (p:=⟨bf,0,N⟩) ?_ _|refine cX ?_ _ (by simp<;>omega) _)
theorem W_(p s t:Int)(v:Bool)(va:Int)(a:Bool)(bv bf:Nat)(w:Wv)(hv:Box w bv 3 [I J va])(hf:Box w bf 4 [.bool a])(hz:¬(s=0/\t=0))(h1:va=3)(h2:v=false)(h3:p=0)(h4:a=false):
  Calls prog 173 #[.agg #[I J p,I J s,I J t,.bool v],.pointer (Z ⟨bv,0,N⟩),.pointer (Z ⟨bf,0,N⟩)] w (fun e w'=>e=.returned (.agg #[I J 0,I J s,I J t,I J 65535])/\Box w' bf 4 [.bool false]/\w.grownBy w' (Z bf)):=by
 have cv:=hv.c 0 rfl;have cf:=hf.c 0 rfl;have ff:=hf.free 0;have lv:=hv.lt;have lf:=hf.lt;have lv1:bv<w.heap.size+1:=by omega
 have lv2:bv<w.heap.size+1+1:=by omega
 have lf1:bf<w.heap.size+1:=by omega
 have lf2:bf<w.heap.size+1+1:=by omega
 have m1:¬bf=w.heap.size:=by omega
 have m2:¬bf=w.heap.size+1:=by omega
 have m3:¬bf=w.heap.size+1+1:=by omega
 have l1:¬w.heap.size=bf:=by omega
 have l2:¬w.heap.size+1=bf:=by omega
 have l3:¬w.heap.size+1+1=bf:=by omega
 obtain⟨i0,hi,hz0,hz1,hz2⟩:=info_parts bK;have q4:=fun W x y z f x' y' z' f'=>fA (P:=prog) W 9998 190 3 .i64 i0 underlying190 underlying3 hi hz1 x y z f x' y' z' f'
 have x1:¬bv=bf:=by
  intro e;subst e;rw[cv]at cf;cases cf
 have x2:¬bf=bv:=fun e=>x1 e.symm
 have HF:=G hf;clear hi hz0 hz1 hz2 hv hf;subst h1;subst h2;subst h3;subst h4;have qz:(s==0&&t==0&&true)=false:=by cases h:(s==0&&t==0&&true)with|false=>rfl|true=>(simp at h;exact absurd ⟨h.1,h.2⟩ hz)
 have qz2:(s==0&&t==0)=false:=by cases h:(s==0&&t==0)with|false=>rfl|true=>(simp at h;exact absurd ⟨h.1,h.2⟩ hz)
 clear hz;go_enter func173,ntmps173;go_wp2_with fail;(try simp only[Exit.inBlock,Exit.then]);refine bodyPost_ret (e_ rfl _ _ (b:=w.heap.size+1) rfl (by go_simp;try rfl) (by go_simp;try rfl) (by go_simp;try rfl) (by go_simp;try rfl)) rfl ?_;refine⟨rfl,?_,?_⟩
 ·repeat(first|exact HF.out|exact Box.set HF.out 0 _|refine dF ?_ _|refine aW ?_ _ (by assumption) _|refine Box.set (cs:=[_]) ?_ 0 _)
 repeat(first|exact aN _ _|refine eH ?_ _|refine aG (p:=⟨bf,0,N⟩) ?_ _|refine cX ?_ _ (by simp<;>omega) _)
set_option linter.unusedSimpArgs false
theorem AJ{a:Bool}{x:Elt}{k:Nat}:wtE 1 a x k=if k<3 then aJ x k else if aM x=true then 0 else 65535:=if_pos rfl
theorem WM(x:Elt)(va:Int)(a:Bool)(bv bf:Nat)(w:Wv)(hv:Box w bv 3 [I J va])(hf:Box w bf 4 [.bool a])(hva:va=1\/va=2\/va=3):
  Calls prog 173 #[.agg #[I J x.p,I J x.s,I J x.t,.bool x.v],.pointer (Z ⟨bv,0,N⟩),.pointer (Z ⟨bf,0,N⟩)] w (tZ va a x bf w):=by
 obtain⟨p,s,t,v⟩:=x;dsimp only
 have mk:∀{e:Ending}{w':Wv}{u0 u1 u2 u3:Int}{b:Bool},(e=.returned (.agg #[I J u0,I J u1,I J u2,I J u3])/\Box w' bf 4 [.bool b]/\w.grownBy w' (Z bf))->
   wtE va (aF a ⟨p,s,t,v⟩) ⟨p,s,t,v⟩ 0=u0->wtE va (aF a ⟨p,s,t,v⟩) ⟨p,s,t,v⟩ 1=u1->wtE va (aF a ⟨p,s,t,v⟩) ⟨p,s,t,v⟩ 2=u2->wtE va (aF a ⟨p,s,t,v⟩) ⟨p,s,t,v⟩ 3=u3->(if va=1 then a else aF a ⟨p,s,t,v⟩)=b->tZ va a ⟨p,s,t,v⟩ bf w e w':=by
  rintro e w' _ _ _ _ _ ⟨h1,h2,h3⟩ rfl rfl rfl rfl rfl;exact⟨h1,h2,h3⟩
 have cva:∀(k:Int),va=k->(va=1 ↔ k=1)/\(va=3 ↔ k=3):=fun k h=>by rw[h];exact⟨Iff.rfl,Iff.rfl⟩
 by_cases hz:p=0/\s=0/\t=0
 ·have hn:aM ⟨p,s,t,v⟩=true:=by simp[aM,hz]
  have hp:=hz.1;rcases hva with h|h|h
  ·exact(XK p s t v va a bv bf w hv hf hz h).mono (fun e w' hh=>mk hh (by subst h;simp[wtE,aJ,hz]) (by subst h;simp[wtE,aJ,hz]) (by subst h;simp[wtE,aJ,hz]) (by subst h;simp[wtE,hn]) (if_pos h))
  ·cases h2:v with
   |true=>
    subst h2;exact(WX p s t true va a bv bf w hv hf hz h rfl).mono (fun e w' hh=>mk hh (by subst h;simp[wtE,aJ,aF,aM,hz]) (by subst h;simp[wtE,aJ,aF,aM,hz]) (by subst h;simp[wtE,aJ,aF,aM,hz]) (by subst h;simp[wtE,aJ,aF,aM,hz]) (by rw[if_neg (by omega)];simp[aF,aM,hz]))
   |false=>
    subst h2;cases h4:a with
    |true=>
     subst h4;exact(WV p s t false va true bv bf w hv hf hz h rfl rfl).mono (fun e w' hh=>mk hh (by subst h;simp[wtE,aJ,aF,aM,hz]) (by subst h;simp[wtE,aJ,aF,aM,hz]) (by subst h;simp[wtE,aJ,aF,aM,hz]) (by subst h;simp[wtE,aJ,aF,aM,hz]) (by rw[if_neg (by omega)];simp[aF,aM,hz]))
    |false=>
     subst h4;exact(WS p s t false va false bv bf w hv hf hz h rfl rfl).mono (fun e w' hh=>mk hh (by subst h;simp[wtE,aJ,aF,aM,hz]) (by subst h;simp[wtE,aJ,aF,aM,hz]) (by subst h;simp[wtE,aJ,aF,aM,hz]) (by subst h;simp[wtE,aJ,aF,aM,hz]) (by rw[if_neg (by omega)];simp[aF,aM,hz]))
  cases h2:v with
  |true=>
   subst h2;exact(XI p s t true va a bv bf w hv hf hz h rfl).mono (fun e w' hh=>mk hh (by subst h;simp[wtE,aJ,aF,aM,hz]) (by subst h;simp[wtE,aJ,aF,aM,hz]) (by subst h;simp[wtE,aJ,aF,aM,hz]) (by subst h;simp[wtE,aJ,aF,aM,hz]) (by rw[if_neg (by omega)];simp[aF,aM,hz]))
  |false=>
   subst h2;cases h4:a with
   |true=>
    subst h4;exact(XG p s t false va true bv bf w hv hf hz h rfl rfl).mono (fun e w' hh=>mk hh (by subst h;simp[wtE,aJ,aF,aM,hz]) (by subst h;simp[wtE,aJ,aF,aM,hz]) (by subst h;simp[wtE,aJ,aF,aM,hz]) (by subst h;simp[wtE,aJ,aF,aM,hz]) (by rw[if_neg (by omega)];simp[aF,aM,hz]))
   |false=>
    subst h4;exact(WZ p s t false va false bv bf w hv hf hz h rfl rfl).mono (fun e w' hh=>mk hh (by subst h;simp[wtE,aJ,aF,aM,hz]) (by subst h;simp[wtE,aJ,aF,aM,hz]) (by subst h;simp[wtE,aJ,aF,aM,hz]) (by subst h;simp[wtE,aJ,aF,aM,hz]) (by rw[if_neg (by omega)];simp[aF,aM,hz]))
 have hn:aM ⟨p,s,t,v⟩=false:=by
  cases h:aM ⟨p,s,t,v⟩with
  |false=>rfl
  |true=>simp[aM]at h;exact absurd ⟨h.1.1,h.1.2,h.2⟩ hz
 rcases hva with h|h|h
 ·exact(XL p s t v va a bv bf w hv hf hz h).mono (fun e w' hh=>mk hh (by subst h;simp[wtE,aJ]) (by subst h;simp[wtE,aJ]) (by subst h;simp[wtE,aJ]) (by subst h;simp[wtE,hn]) (if_pos h))
 ·cases h2:v with
  |true=>
   subst h2;exact(WY p s t true va a bv bf w hv hf hz h rfl).mono (fun e w' hh=>mk hh (by subst h;simp[wtE,aJ,aF,hn]) (by subst h;simp[wtE,aJ,aF,hn]) (by subst h;simp[wtE,aJ,aF,hn]) (by subst h;simp[wtE,aJ,aF,hn]) (by rw[if_neg (by omega)];simp[aF,hn]))
  |false=>
   subst h2;by_cases h3:p=0
   ·have hz':¬(s=0/\t=0):=fun g=>hz ⟨h3,g⟩
    cases h4:a with
    |true=>
     subst h4;exact(WW p s t false va true bv bf w hv hf hz' h rfl h3 rfl).mono (fun e w' hh=>mk hh (by subst h;simp[wtE,aJ,aF,aM,h3,hz']) (by subst h;simp[wtE,aJ,aF,aM,h3,hz']) (by subst h;simp[wtE,aJ,aF,aM,h3,hz']) (by subst h;simp[wtE,aJ,aF,aM,h3,hz']) (by rw[if_neg (by omega)];simp[aF,aM,h3,hz']))
    |false=>
     subst h4;exact(WT p s t false va false bv bf w hv hf hz' h rfl h3 rfl).mono (fun e w' hh=>mk hh (by subst h;simp[wtE,aJ,aF,aM,h3,hz']) (by subst h;simp[wtE,aJ,aF,aM,h3,hz']) (by subst h;simp[wtE,aJ,aF,aM,h3,hz']) (by subst h;simp[wtE,aJ,aF,aM,h3,hz']) (by rw[if_neg (by omega)];simp[aF,aM,h3,hz']))
   exact(WU p s t false va a bv bf w hv hf hz h rfl h3).mono (fun e w' hh=>mk hh (by subst h;simp[wtE,aJ,aF,hn,h3]) (by subst h;simp[wtE,aJ,aF,hn,h3]) (by subst h;simp[wtE,aJ,aF,hn,h3]) (by subst h;simp[wtE,aJ,aF,hn,h3]) (by rw[if_neg (by omega)];simp[aF,hn,h3]))
 cases h2:v with
 |true=>
  subst h2;exact(XJ p s t true va a bv bf w hv hf hz h rfl).mono (fun e w' hh=>mk hh (by subst h;simp[wtE,aJ,aF,hn]) (by subst h;simp[wtE,aJ,aF,hn]) (by subst h;simp[wtE,aJ,aF,hn]) (by subst h;simp[wtE,aJ,aF,hn]) (by rw[if_neg (by omega)];simp[aF,hn]))
 |false=>
  subst h2;by_cases h3:p=0
  ·have hz':¬(s=0/\t=0):=fun g=>hz ⟨h3,g⟩
   cases h4:a with
   |true=>
    subst h4;exact(XH p s t false va true bv bf w hv hf hz' h rfl h3 rfl).mono (fun e w' hh=>mk hh (by subst h;simp[wtE,aJ,aF,aM,h3,hz']) (by subst h;simp[wtE,aJ,aF,aM,h3,hz']) (by subst h;simp[wtE,aJ,aF,aM,h3,hz']) (by subst h;simp[wtE,aJ,aF,aM,h3,hz']) (by rw[if_neg (by omega)];simp[aF,aM,h3,hz']))
   |false=>
    subst h4;exact(W_ p s t false va false bv bf w hv hf hz' h rfl h3 rfl).mono (fun e w' hh=>mk hh (by subst h;simp[wtE,aJ,aF,aM,h3,hz']) (by subst h;simp[wtE,aJ,aF,aM,h3,hz']) (by subst h;simp[wtE,aJ,aF,aM,h3,hz']) (by subst h;simp[wtE,aJ,aF,aM,h3,hz']) (by rw[if_neg (by omega)];simp[aF,aM,h3,hz']))
  exact(XE p s t false va a bv bf w hv hf hz h rfl h3).mono (fun e w' hh=>mk hh (by subst h;simp[wtE,aJ,aF,hn,h3]) (by subst h;simp[wtE,aJ,aF,hn,h3]) (by subst h;simp[wtE,aJ,aF,hn,h3]) (by subst h;simp[wtE,aJ,aF,hn,h3]) (by rw[if_neg (by omega)];simp[aF,hn,h3]))
end
section
open Go.RowKit
def blk(A:Oa):Option Nat:=A.map (fun a=>a.block)
theorem cH(A:Oa)(n c:Nat):Value.ownBlock (H A n c)=blk A:=by cases A<;>rfl
def upd{α:Type}(f:Nat->α)(j:Nat)(v:α):Nat->α:=fun k=>if k=j then v else f k
theorem mI{α:Type}(f:Nat->α)(j:Nat)(v:α):upd f j v j=v:=if_pos rfl
theorem lH{α:Type}{f:Nat->α}{j k:Nat}{v:α}(h:k≠j):upd f j v k=f k:=if_neg h
structure R4(w:Wv)(base:Nat)(A:Nat->Oa)(C:Nat->Nat)(R:Nat->Li):Prop where
 own:∀k,k<4->w.ownsRow base 3 1 (H (A k) (R k).length (C k)) (R k).length ((R k).map (Value.int .i64))
 ne:∀j k,j<4->k<4->j≠k->blk (A j)=N\/blk (A j)≠blk (A k)
section
variable {w w':Wv}{base:Nat}{A:Nat->Oa}{C:Nat->Nat}{R:Nat->Li}
theorem R4.nil(w:Wv)(base:Nat):R4 w base (fun _=>N) (fun _=>0) (fun _=>[]):=⟨fun _ _=>World.ownsRow_nil _ _ _ _,fun _ _ _ _ _=>.inl rfl⟩
theorem R4.lt(h:R4 w base A C R){k q:Nat}(hk:k<4)(hq:blk (A k)=Z q):base<=q/\q<w.heap.size:=(h.own k hk).lt q (by rw[cH];exact hq)
theorem R4.keep(h:R4 w base A C R){q:Nat}(hg:w.grownBy w' (Z q))(hq:q<base):R4 w' base A C R:=by
 refine⟨fun k hk=>(h.own k hk).kept hg ?_,h.ne⟩;rw[cH];cases hb:blk (A k)with
 |none=>exact .inl rfl
 |some g=>
  right;intro e;injection e with e;have:=(h.lt hk hb).1;omega
theorem R4.below(h:R4 w base A C R)(hb:By w w'):R4 w' base A C R:=⟨fun k hk=>bI (h.own k hk) hb,h.ne⟩
theorem R4.put(h:R4 w base A C R){j:Nat}(hj:j<4){B:Oa}{k:Nat}{zs:Li}(ho:w'.ownsRow base 3 1 (H B zs.length k) zs.length (zs.map (Value.int .i64)))(hg:w.grownBy w' (blk (A j)))(hB:B=A j\/B=Z ⟨w.heap.size,0,N⟩):
  R4 w' base (upd A j B) (upd C j k) (upd R j zs):=by
 refine⟨fun i hi=>?_,fun i l hi hl hne=>?_⟩
 ·by_cases e:i=j
  ·subst e
   rw[mI,mI,mI];exact ho
  rw[lH e,lH e,lH e];refine(h.own i hi).kept hg ?_;rw[cH];exact h.ne i j hi hj e
 have nb:∀i,i<4->i≠j->blk (A i)=N\/blk (A i)≠blk B:=fun i hi e=>by
  rcases hB with rfl|rfl
  ·exact h.ne i j hi hj e
  cases hb:blk (A i)with
  |none=>exact .inl rfl
  |some g=>
   right;intro e2;have e3:g=w.heap.size:=by injection e2
   have:=(h.lt hi hb).2;omega
 by_cases e:i=j
 ·subst e
  rw[mI,lH (fun g=>hne g.symm)];cases hb:blk B with
  |none=>exact .inl rfl
  |some g=>
   right;rcases nb l hl (fun g=>hne g.symm)with g1|g1
   ·rw[g1];simp
   rw[hb]at g1;exact fun e=>g1 e.symm
 rw[lH e];by_cases e2:l=j
 ·subst e2
  rw[mI];exact nb i hi e
 rw[lH e2];exact h.ne i l hi hl hne
end
def lcs(A:Nat->Oa)(C:Nat->Nat)(R:Nat->Li):Lv:=[H (A 0) (R 0).length (C 0),H (A 1) (R 1).length (C 1),H (A 2) (R 2).length (C 2),H (A 3) (R 3).length (C 3)]
theorem wU(A:Nat->Oa)(C:Nat->Nat)(R:Nat->Li){j:Nat}(hj:j<4)(B:Oa)(k:Nat)(zs:Li):(lcs A C R).set j (H B zs.length k)=lcs (upd A j B) (upd C j k) (upd R j zs):=by
 match j,hj with
 |0,_=>rfl
 |1,_=>rfl
 |2,_=>rfl
 |3,_=>rfl
theorem NR(A:Nat->Oa)(C:Nat->Nat)(R:Nat->Li):(lcs A C R).length=4:=rfl
def bA(r r':Nat->Li)(j:Nat):Nat->Li:=fun k=>if k<j then r' k else r k
theorem OV(r r':Nat->Li):bA r r' 0=r:=by funext k;unfold bA;rw[if_neg (by omega)]
theorem pB{r r':Nat->Li}{j:Nat}:upd (bA r r' j) j (r' j)=bA r r' (j+1):=by
 funext k;unfold upd bA;by_cases e:k=j
 ·subst e;rw[if_pos rfl,if_pos (by omega)]
 rw[if_neg e];by_cases g:k<j
 ·rw[if_pos g,if_pos (by omega)]
 rw[if_neg g,if_neg (by omega)]
theorem pC{r r':Nat->Li}{j:Nat}(h:r' j=r j):bA r r' (j+1)=bA r r' j:=by
 funext k;unfold bA;by_cases e:k=j
 ·subst e;rw[if_pos (by omega),if_neg (by omega),h]
 by_cases g:k<j
 ·rw[if_pos g,if_pos (by omega)]
 rw[if_neg g,if_neg (by omega)]
theorem OU{r r':Nat->Li}{A:Nat->Oa}{C:Nat->Nat}{w:Wv}{base:Nat}(h:R4 w base A C (bA r r' 4)):R4 w base A C r'/\lcs A C (bA r r' 4)=lcs A C r':=
 ⟨⟨fun k hk=>by have:=h.own k hk;unfold bA at this;simp only[if_pos hk]at this;exact this,h.ne⟩,rfl⟩
theorem kK{w:Wv}{base:Nat}{A:Nat->Oa}{C:Nat->Nat}{R:Nat->Li}(h:R4 w base A C R){k:Nat}(hk:k<=4){E:Oa}(hE:Sl w E ((lcs A C R).take k)):iZ w E ((List.range k).map R):=by
 refine⟨(lcs A C R).take k,hE,by rw[List.length_take,NR];simp;omega,fun i hi hv=>?_⟩;have hi4:i<4:=by simp at hi;omega
 refine⟨A i,C i,?_,?_,?_⟩
 ·rw[List.getElem_take,List.getElem_map,List.getElem_range]
  match i,hi4 with
  |0,_=>rfl
  |1,_=>rfl
  |2,_=>rfl
  |3,_=>rfl
 ·rw[List.getElem_map,List.getElem_range]
  obtain⟨_,_,hv,hc⟩:=fX (h.own i hi4);injection hv with _ _ hv;subst hv;exact hc
 rw[List.getElem_map,List.getElem_range];exact Sl.of_own (h.own i hi4)
end
section
open Go.RowKit Go.Maps Go.WideMaps
theorem aZ.d{c:Col}(h:aZ c):aZ (a_ c):=by
 by_cases he:aH c=0
 ·rw[qY he];exact h
 rw[qX he];exact⟨fun i hi=>by simp[jX]at hi,by simp[jX],by simp[jX]⟩
def R2(p l:Li):Nat->Li:=fun k=>if k=0 then p else if k=1 then l else []
theorem R4.len{w:Wv}{base:Nat}{A:Nat->Oa}{C:Nat->Nat}{R:Nat->Li}(h:R4 w base A C R){k:Nat}(hk:k<4):(R k).length<=C k:=by
 obtain⟨_,_,hv,hc⟩:=fX (h.own k hk);injection hv with _ _ hv;subst hv;exact hc
theorem R4.low{w w':Wv}{base:Nat}{A:Nat->Oa}{C:Nat->Nat}{R:Nat->Li}(h:R4 w base A C R)(hbs:base<=w.heap.size){k:Nat}(hk:k<4){n c:Nat}(hg:w.grownBy w' (Value.ownBlock (H (A k) n c))):Below base w w':=by
 rw[cH]at hg;exact⟨hg.os,hg.tape,hg.output,hg.size,fun q hq=>hg.block q (by omega) (fun e=>by have:=(h.lt hk e.symm).1;omega)⟩
def fI(x:Nrm)(c:Col)(t:Li):Bool:=Mtc.known (cls (usN x).cls) (aC (a_ c).ents) (dtx x false t)
structure WL(cl:Int->Int)(ent:Li->Option (List Elt))(imp:Int->List Elt)(els:List Elt)(kn:Bool)(tot:Nat)(w1:Wv)(t:Li)(A:Oa)(cap:Nat)(E:Oa)(k:Nat)(es:List Elt)(q:Bool)(W:Wv):Prop where
 eq:es++Mtc.elems cl ent imp t=els
 kq:(q&&Mtc.known cl ent t)=kn
 own:W.ownsRow w1.heap.size 77 4 (H E es.length k) es.length (aE Elt.cells es)
 low:By w1 W
 bd:es.length+16*t.length<=16*tot
 cp:t.length<=cap
 row:aB W A t
 ap:t≠[]->∀q,blk A=Z q->blk E≠Z q
section
variable {cl:Int->Int}{ent:Li->Option (List Elt)}{imp:Int->List Elt}{els:List Elt}{kn:Bool}{tot:Nat}{w1:Wv}{t:Li}{A:Oa}{cap:Nat}{E:Oa}{k:Nat}{es:List Elt}{q:Bool}{W:Wv}
theorem WL.next(h:WL cl ent imp els kn tot w1 t A cap E k es q W)(ht:t≠[]){L:Oa}{l:Nat}{W' W2:Wv}(hb:By W W')(hp:(Mtc.ofPart ent imp (Mtc.matched cl ent t).1 (Mtc.matched cl ent t).2.2).length<=16)(hL:aB W' L (Mtc.matched cl ent t).2.1)(hl:(Mtc.matched cl ent t).2.1.length<=l)(hf:∀q,blk L=Z q->blk A=Z q\/W.heap.size<=q)
  {E':Oa} {k':Nat} (ho:W2.ownsRow w1.heap.size 77 4 (H E' (es.length+(Mtc.ofPart ent imp (Mtc.matched cl ent t).1 (Mtc.matched cl ent t).2.2).length) k') (es.length+(Mtc.ofPart ent imp (Mtc.matched cl ent t).1 (Mtc.matched cl ent t).2.2).length) (aE Elt.cells es++aE Elt.cells (Mtc.ofPart ent imp (Mtc.matched cl ent t).1 (Mtc.matched cl ent t).2.2))) (hb2:Below w1.heap.size W' W2) (hg:W'.grownBy W2 (Value.ownBlock (H E es.length k))) (hE:E'=E\/E'=Z ⟨W'.heap.size,0,N⟩) :
  WL cl ent imp els kn tot w1 (Mtc.matched cl ent t).2.1 L l E' k' (es++Mtc.ofPart ent imp (Mtc.matched cl ent t).1 (Mtc.matched cl ent t).2.2) (q&&(Mtc.matched cl ent t).2.2) W2:=by
 obtain⟨hl1,hl2⟩:=Mtc.matched_len (cl:=cl) (ent:=ent) ht;have hbd:=h.bd;have heq:=h.eq;rw[Mtc.elems_step ht,<-List.append_assoc]at heq;have hkq:=h.kq;rw[Mtc.known_step ht,<-Bool.and_assoc]at hkq;have hap:=h.ap ht;have hlt:∀g,blk E=Z g->w1.heap.size<=g/\g<W.heap.size:=fun g hg=>h.own.lt g (by rw[cH];exact hg)
 have hs:=hb.size;rw[cH]at hg
 have hne:∀g,blk L=Z g->blk E≠Z g:=fun g hg e=>by
  rcases hf g hg with h1|h1
  ·exact hap g h1 e
  have:=(hlt g e).2;omega
 refine⟨heq,hkq,by rw[List.length_append,k_];exact ho,(h.low.trans (hb.mono h.low.size)).trans hb2,by rw[List.length_append];omega,hl,?_,fun hn2 g hgl e=>?_⟩
 ·intro hnn
  obtain⟨b,o,hA,hc⟩:=hL hnn;refine⟨b,o,hA,fun j u hu=>?_⟩;have h1:=hc j u hu;have hbl:=World.block_lt_of_cell? W' _ h1;rw[World.cell?_of_block (hg.block b hbl (fun e=>hne b (by rw[hA];rfl) e.symm))];exact h1
 rcases hE with rfl|rfl
 ·exact hne g hgl e
 have e2:g=W'.heap.size:=by injection e with e;exact e.symm
 obtain⟨b,o,hA,hc⟩:=aB.at hL (k:=0) (List.length_pos_iff.2 hn2);have hbl:=World.block_lt_of_cell? W' _ (hc 0 (List.length_pos_iff.2 hn2));rw[hA]at hgl;have e3:b=g:=by injection hgl
 dsimp only at hbl;omega
end
end
end Go.Proofs.YtkhmjidaeliccaaGreatDoor
