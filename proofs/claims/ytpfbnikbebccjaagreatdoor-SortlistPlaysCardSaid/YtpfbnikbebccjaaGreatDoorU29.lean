import Derived.Test.YtpfbnikbebccjaaGreatDoorU00
import Derived.Test.YtpfbnikbebccjaaGreatDoorU09
import Derived.Test.YtpfbnikbebccjaaGreatDoorU26
import Derived.Test.YtpfbnikbebccjaaGreatDoorU28
set_option maxRecDepth 100000
set_option maxHeartbeats 51200000
namespace Go.Proofs.YtpfbnikbebccjaaGreatDoor
open Option renaming none->N,some->Z
open Value renaming int->I,slice->H
open IntKind renaming i64->J
open Go.Proofs.Tryz
section
open Go.RowKit Go.Maps Go.WideMaps Srl
theorem zI(id:Int)(w:Wv):Calls prog 22 #[.pointer N,I J id] w (fun e w'=>e=.returned (I J (-1))/\w=w'):=by
 go_enter func22,ntmps22;go_wp2_with fail;go_ret;exact⟨rfl,rfl⟩
theorem TQ(id:Int)(A:Oa)(n k:Nat)(w:Wv):Calls prog 16 #[.pointer N,I J id,H A n k] w (fun e w'=>e=.returned (.tuple #[I J 0,I J 16])/\w=w'):=by
 go_enter func16,ntmps16;go_wp2_with fail;go_ret2;exact⟨rfl,rfl⟩
theorem TS(id:Int)(w:Wv):Calls prog 14 #[.pointer N,I J id] w (fun e w'=>e=.returned (.bool false)/\w=w'):=by
 have PC:=G (fun W=>zI id W);go_enter func14,ntmps14;go_wp2_with fail;with_reducible refine(PC.out _).mono ?_
 rintro e W1 ⟨rfl,rfl⟩;go_wp2_with fail;go_ret;exact⟨rfl,rfl⟩
def eE:Col:=⟨[⟨[97],[⟨5,32,2,false⟩]⟩,⟨[98],[⟨6,32,2,false⟩]⟩],[],64448,32,2⟩
theorem QV:bW eE:=by
 refine⟨fun i hi=>?_,by simp[eE],by simp[eE]⟩;have:i=0\/i=1:=by simp[eE]at hi;omega
 rcases this with rfl|rfl<;>simp[eE]
theorem XF{fn:Func}{k:Nat}(hr:fn.results=#[.cell k 32])(tmps:Array Value)(w:Wv){b:Nat}{v0 v1 v2 v3 v4:Value}(ha:tmps.getD k undef=.pointer (Z ⟨b,0,N⟩))
  (c0:w.cell? ⟨b,0,N⟩=Z v0) (c1:w.cell? ⟨b,1,N⟩=Z v1) (c2:w.cell? ⟨b,2,N⟩=Z v2) (c3:w.cell? ⟨b,3,N⟩=Z v3) (c4:w.cell? ⟨b,4,N⟩=Z v4) :
  (results fn tmps).run prog w=.ok (.agg #[v0,v1,v2,v3,v4]) w:=by
 unfold results;rw[hr];simp only[ha,List.mapM_toArray,List.mapM_cons,List.mapM_nil,asAddr];go_simp
theorem nS{q:Nat}{cs:Lv}{W:Wv}(h:Sl W (Z ⟨q,0,N⟩) cs)(p:Addr)(hp:p.block≠q)(v:Value):Sl (W.setCell p v) (Z ⟨q,0,N⟩) cs:=
 Sl.stored h p (fun _ q' hq=>by have:=Option.some.inj (show Z q=Z q' from hq);omega) v
theorem yP(W:Wv)(z p:Int):aA (((W.alloc (.cells #[I J z] 3)).alloc (.cells #[I J p,I J 32,I J 2,.bool false] 106)).alloc (.cells #[H (Z ⟨W.heap.size,0,N⟩) 1 1,H (Z ⟨W.heap.size+1,0,N⟩) 1 1] 109)) (Z ⟨W.heap.size,0,N⟩) [z]/\cJ (((W.alloc (.cells #[I J z] 3)).alloc (.cells #[I J p,I J 32,I J 2,.bool false] 106)).alloc (.cells #[H (Z ⟨W.heap.size,0,N⟩) 1 1,H (Z ⟨W.heap.size+1,0,N⟩) 1 1] 109)) (Z ⟨W.heap.size+1,0,N⟩) [⟨p,32,2,false⟩]/\Box (((W.alloc (.cells #[I J z] 3)).alloc (.cells #[I J p,I J 32,I J 2,.bool false] 106)).alloc (.cells #[H (Z ⟨W.heap.size,0,N⟩) 1 1,H (Z ⟨W.heap.size+1,0,N⟩) 1 1] 109)) (W.heap.size+1+1) 109 [H (Z ⟨W.heap.size,0,N⟩) 1 1,H (Z ⟨W.heap.size+1,0,N⟩) 1 1]/\By W (((W.alloc (.cells #[I J z] 3)).alloc (.cells #[I J p,I J 32,I J 2,.bool false] 106)).alloc (.cells #[H (Z ⟨W.heap.size,0,N⟩) 1 1,H (Z ⟨W.heap.size+1,0,N⟩) 1 1] 109)):=by
 have al:∀(W:Wv)(o:Obj),By W (W.alloc o):=fun W o=>ba _ _
 have a1:aA (W.alloc (.cells #[I J z] 3)) (Z ⟨W.heap.size,0,N⟩) [z]:=bZ W [z] 3 rfl;have a2:cJ ((W.alloc (.cells #[I J z] 3)).alloc (.cells #[I J p,I J 32,I J 2,.bool false] 106)) (Z ⟨W.heap.size+1,0,N⟩) [⟨p,32,2,false⟩]:=bU (W.alloc (.cells #[I J z] 3)) [I J p,I J 32,I J 2,.bool false] 106 (by simp);exact⟨(a1.below (al _ _)).below (al _ _),a2.below (al _ _),Box.new _ _ _ (by simp),((al W _).alloc (by simp) _).alloc (by simp<;>omega) _⟩
theorem QX(w:Wv):Calls prog 32 #[] w (nX eE w):=by
 have B1:By w (w.alloc (.cells #[H N 0 0,H N 0 0,I J 0,I J 0,I J 0] 32)):=ba _ _;have X1:Box (w.alloc (.cells #[H N 0 0,H N 0 0,I J 0,I J 0,I J 0] 32)) w.heap.size 32 [H N 0 0,H N 0 0,I J 0,I J 0,I J 0]:=Box.new w 32 [H N 0 0,H N 0 0,I J 0,I J 0,I J 0] rfl;have W1E:∃W1,(w.alloc (.cells #[H N 0 0,H N 0 0,I J 0,I J 0,I J 0] 32))=W1:=⟨_,rfl⟩;go_enter func32,ntmps32;go_upto_region 1 with(fail)
 obtain⟨W1,hW1⟩:=W1E;try rw[hW1]at B1 X1|-
 clear hW1;have lx:=X1.lt;obtain⟨a1,a2,XA,b4⟩:=yP W1 97 5;have W4E:∃W4,(((W1.alloc (.cells #[I J 97] 3)).alloc (.cells #[I J 5,I J 32,I J 2,.bool false] 106)).alloc (.cells #[H (Z ⟨W1.heap.size,0,N⟩) 1 1,H (Z ⟨W1.heap.size+1,0,N⟩) 1 1] 109))=W4:=⟨_,rfl⟩;go_upto_region 2 with(fail)
 obtain⟨W4,hW4⟩:=W4E;try rw[hW4]at a1 a2 XA b4|-
 clear hW4;have lA:=XA.lt;have B4:=B1.trans (b4.mono B1.size);have X4:=X1.below b4 lx;obtain⟨a3,a4,XB,b7⟩:=yP W4 98 6;have W7E:∃W7,(((W4.alloc (.cells #[I J 98] 3)).alloc (.cells #[I J 6,I J 32,I J 2,.bool false] 106)).alloc (.cells #[H (Z ⟨W4.heap.size,0,N⟩) 1 1,H (Z ⟨W4.heap.size+1,0,N⟩) 1 1] 109))=W7:=⟨_,rfl⟩;go_upto_region 3 with(fail)
 obtain⟨W7,hW7⟩:=W7E;try rw[hW7]at a3 a4 XB b7|-
 clear hW7;have B7:=B4.trans (b7.mono B4.size);have X7:=X4.below b7 X4.lt;have XA7:=XA.below b7 lA;have a1':=a1.below b7;have a2':=a2.below b7;have d0:=XA7.c 0 rfl;have d1:=XA7.c 1 rfl;have e0:=XB.c 0 rfl;have e1:=XB.c 1 rfl;have l7:=X7.lt;have h14:W1.heap.size+1+1<W4.heap.size:=lA;have h47:W4.heap.size+1+1<W7.heap.size:=XB.lt;have al:∀(W:Wv)(o:Obj),By W (W.alloc o):=fun W o=>ba _ _
 have f0:=X7.free 0;have f1:=X7.free 1;have f2:=X7.free 2;have f3:=X7.free 3;have f4:=X7.free 4;have g0:=X7.c 0 rfl;have g1:=X7.c 1 rfl;have g2:=X7.c 2 rfl;have g3:=X7.c 3 rfl;have g4:=X7.c 4 rfl;have hx:w.heap.size<W1.heap.size:=lx;have st:∀{q:Nat}{cs:Lv},Sl W7 (Z ⟨q,0,N⟩) cs->w.heap.size≠q->Sl ((((((W7.setCell ⟨w.heap.size,0,N⟩ (H (Z ⟨W7.heap.size,0,N⟩) 2 2)).setCell ⟨w.heap.size,1,N⟩ (H N 0 0)).setCell ⟨w.heap.size,2,N⟩ (I J 64448)).setCell ⟨w.heap.size,3,N⟩ (I J 32)).setCell ⟨w.heap.size,4,N⟩ (I J 2)).alloc (.cells #[H (Z ⟨W1.heap.size,0,N⟩) 1 1,H (Z ⟨W1.heap.size+1,0,N⟩) 1 1,H (Z ⟨W4.heap.size,0,N⟩) 1 1,H (Z ⟨W4.heap.size+1,0,N⟩) 1 1] 109)) (Z ⟨q,0,N⟩) cs:=fun h hq=>(nS (nS (nS (nS (nS h ⟨w.heap.size,0,N⟩ hq _) ⟨w.heap.size,1,N⟩ hq _) ⟨w.heap.size,2,N⟩ hq _) ⟨w.heap.size,3,N⟩ hq _) ⟨w.heap.size,4,N⟩ hq _).below (al _ _)
 have r1:=st a1' (by omega);have r2:=st a2' (by omega);have r3:=st a3 (by omega);have r4:=st a4 (by omega);have r7:Sl ((((((W7.setCell ⟨w.heap.size,0,N⟩ (H (Z ⟨W7.heap.size,0,N⟩) 2 2)).setCell ⟨w.heap.size,1,N⟩ (H N 0 0)).setCell ⟨w.heap.size,2,N⟩ (I J 64448)).setCell ⟨w.heap.size,3,N⟩ (I J 32)).setCell ⟨w.heap.size,4,N⟩ (I J 2)).alloc (.cells #[H (Z ⟨W1.heap.size,0,N⟩) 1 1,H (Z ⟨W1.heap.size+1,0,N⟩) 1 1,H (Z ⟨W4.heap.size,0,N⟩) 1 1,H (Z ⟨W4.heap.size+1,0,N⟩) 1 1] 109)) (Z ⟨W7.heap.size,0,N⟩) [H (Z ⟨W1.heap.size,0,N⟩) 1 1,H (Z ⟨W1.heap.size+1,0,N⟩) 1 1,H (Z ⟨W4.heap.size,0,N⟩) 1 1,H (Z ⟨W4.heap.size+1,0,N⟩) 1 1]:=bU (((((W7.setCell ⟨w.heap.size,0,N⟩ (H (Z ⟨W7.heap.size,0,N⟩) 2 2)).setCell ⟨w.heap.size,1,N⟩ (H N 0 0)).setCell ⟨w.heap.size,2,N⟩ (I J 64448)).setCell ⟨w.heap.size,3,N⟩ (I J 32)).setCell ⟨w.heap.size,4,N⟩ (I J 2)) [H (Z ⟨W1.heap.size,0,N⟩) 1 1,H (Z ⟨W1.heap.size+1,0,N⟩) 1 1,H (Z ⟨W4.heap.size,0,N⟩) 1 1,H (Z ⟨W4.heap.size+1,0,N⟩) 1 1] 109 (by simp);have ZF:Box ((((((W7.setCell ⟨w.heap.size,0,N⟩ (H (Z ⟨W7.heap.size,0,N⟩) 2 2)).setCell ⟨w.heap.size,1,N⟩ (H N 0 0)).setCell ⟨w.heap.size,2,N⟩ (I J 64448)).setCell ⟨w.heap.size,3,N⟩ (I J 32)).setCell ⟨w.heap.size,4,N⟩ (I J 2)).alloc (.cells #[H (Z ⟨W1.heap.size,0,N⟩) 1 1,H (Z ⟨W1.heap.size+1,0,N⟩) 1 1,H (Z ⟨W4.heap.size,0,N⟩) 1 1,H (Z ⟨W4.heap.size+1,0,N⟩) 1 1] 109)) w.heap.size 32 [(H (Z ⟨W7.heap.size,0,N⟩) 2 2),H N 0 0,I J 64448,I J 32,I J 2]:=aS (((((X7.set 0 (H (Z ⟨W7.heap.size,0,N⟩) 2 2)).set 1 (H N 0 0)).set 2 (I J 64448)).set 3 (I J 32)).set 4 (I J 2)) _;have BF:By w ((((((W7.setCell ⟨w.heap.size,0,N⟩ (H (Z ⟨W7.heap.size,0,N⟩) 2 2)).setCell ⟨w.heap.size,1,N⟩ (H N 0 0)).setCell ⟨w.heap.size,2,N⟩ (I J 64448)).setCell ⟨w.heap.size,3,N⟩ (I J 32)).setCell ⟨w.heap.size,4,N⟩ (I J 2)).alloc (.cells #[H (Z ⟨W1.heap.size,0,N⟩) 1 1,H (Z ⟨W1.heap.size+1,0,N⟩) 1 1,H (Z ⟨W4.heap.size,0,N⟩) 1 1,H (Z ⟨W4.heap.size+1,0,N⟩) 1 1] 109)):=(((((B7.setCell (Nat.le_refl _) _).setCell (Nat.le_refl _) _).setCell (Nat.le_refl _) _).setCell (Nat.le_refl _) _).setCell (Nat.le_refl _) _).alloc (by simp;omega) _;have WFE:∃Wf,((((((W7.setCell ⟨w.heap.size,0,N⟩ (H (Z ⟨W7.heap.size,0,N⟩) 2 2)).setCell ⟨w.heap.size,1,N⟩ (H N 0 0)).setCell ⟨w.heap.size,2,N⟩ (I J 64448)).setCell ⟨w.heap.size,3,N⟩ (I J 32)).setCell ⟨w.heap.size,4,N⟩ (I J 2)).alloc (.cells #[H (Z ⟨W1.heap.size,0,N⟩) 1 1,H (Z ⟨W1.heap.size+1,0,N⟩) 1 1,H (Z ⟨W4.heap.size,0,N⟩) 1 1,H (Z ⟨W4.heap.size+1,0,N⟩) 1 1] 109))=Wf:=⟨_,rfl⟩;have HX:=G ZF;have R1:=G r1;have R2:=G r2;have R3:=G r3;have R4:=G r4;have R7:=G r7;have HBF:=G BF;clear r1 r2 r3 r4 r7 BF;clear h14 h47 hx lx lA al st a1 a2 a3 a4 a1' a2' ZF X7 XA7 XA XB X4 X1 B1 B4 B7 b4 b7;go_wp2_with fail;obtain⟨Wf,hWf⟩:=WFE;try rw[hWf]at R1 R2 R3 R4 R7 HX HBF|-
 clear hWf;(try simp only[Exit.inBlock,Exit.then]);refine bodyPost_ret (XF (k:=0) rfl _ _ (b:=w.heap.size) rfl (HX.out.c 0 rfl) (HX.out.c 1 rfl) (HX.out.c 2 rfl) (HX.out.c 3 rfl) (HX.out.c 4 rfl)) rfl ?_;refine⟨_,2,N,0,rfl,⟨⟨[(H (Z ⟨W1.heap.size,0,N⟩) 1 1,H (Z ⟨W1.heap.size+1,0,N⟩) 1 1),(H (Z ⟨W4.heap.size,0,N⟩) 1 1,H (Z ⟨W4.heap.size+1,0,N⟩) 1 1)],rfl,R7.out,fun i hi hv=>?_⟩,Sl.nil _ _,rfl,rfl,fun g hg=>by cases hg⟩,HBF.out⟩;have hi2:i=0\/i=1:=by simp[eE]at hi;omega
 rcases hi2 with rfl|rfl
 ·exact⟨_,_,_,_,rfl,R1.out,R2.out⟩
 exact⟨_,_,_,_,rfl,R3.out,R4.out⟩
abbrev gS:Nrm:=⟨[],[],[]⟩
abbrev lP:Opt:=⟨3,1,false,false⟩
abbrev kyA:=kyN gS eE lP
theorem TO:cK gS:=⟨by simp,⟨by simp,fun i hi=>absurd hi (Nat.not_lt_zero _)⟩,by simp⟩
theorem GK:dM gS eE lP=0:=by decide +kernel
theorem vE:dM gS eE ⟨0,0,false,false⟩=1:=by decide +kernel
theorem vG:putL kyA [] 5 [98]=[(5,[98])]/\atL kyA [] 5 [98]=0/\remL [] 5=[]:=by decide +kernel
theorem vH:putL kyA [(5,[98])] 7 [97]=[(7,[97]),(5,[98])]/\atL kyA [(5,[98])] 7 [97]=0:=by decide +kernel
theorem GL:putL kyA [(7,[97]),(5,[98])] 6 [98]=[(7,[97]),(5,[98]),(6,[98])]:=by decide +kernel
theorem vF:lookL kyA [(7,[97]),(5,[98]),(6,[98])] [98]=[(5,[98]),(6,[98])]/\btwL kyA [(7,[97]),(5,[98]),(6,[98])] [97] [98]=[(7,[97])]:=by decide +kernel
theorem vI:remL [(7,[97]),(5,[98]),(6,[98])] 6=[(7,[97]),(5,[98])]/\remL [(7,[97]),(5,[98])] 6=[(7,[97]),(5,[98])]:=by decide +kernel
theorem QW(w:Wv):Calls prog 32 #[] w (fun e w'=>∃A a B b,e=.returned (.agg #[H A 2 a,H B 0 b,I J 64448,I J 32,I J 2])/\aU w' A 2 B 0 eE/\By w w'):=QX w
theorem zG(A:Oa)(a:Nat)(B:Oa)(b:Nat)(o:Opt)(w:Wv)(hC:aU w A 2 B 0 eE)(hL:dL w):
  Calls prog 11 #[.agg #[H N 0 0,H N 0 0,H N 0 0],.agg #[H A 2 a,H B 0 b,I J 64448,I J 32,I J 2],.agg #[I J o.st,I J o.va,.bool o.bk,.bool o.idn]] w (nZ gS eE o w):=
 zH N 0 N 0 N 0 gS A a B b eE o w (bA.empty w) TO hC QV hL
theorem TG(A:Oa)(a:Nat)(B:Oa)(b:Nat)(s:Int)(w:Wv)(hs:dM gS eE ⟨s,1,false,false⟩=0)(hC:aU w A 2 B 0 eE)(hL:dL w):
  Calls prog 11 #[.agg #[H N 0 0,H N 0 0,H N 0 0],.agg #[H A 2 a,H B 0 b,I J 64448,I J 32,I J 2],.agg #[I J s,I J 1,.bool false,.bool false]] w
   (fun e w'=>∃l V mb,e=.returned (.tuple #[.pointer (Z ⟨l,0,N⟩),I J 0])/\Lst w' l w.heap.size V mb N 0 0 gS eE ⟨s,1,false,false⟩ (fun _=>N) []/\By w w'):=by
 refine(zG A a B b ⟨s,1,false,false⟩ w hC hL).mono ?_;rintro e w' ⟨hb,⟨h,_⟩|⟨_,l,V,mb,he,hl⟩⟩
 ·exact absurd hs h
 exact⟨l,V,mb,he,hl,hb⟩
theorem S_(A:Oa)(a:Nat)(B:Oa)(b:Nat)(w:Wv)(hC:aU w A 2 B 0 eE)(hL:dL w):
  Calls prog 11 #[.agg #[H N 0 0,H N 0 0,H N 0 0],.agg #[H A 2 a,H B 0 b,I J 64448,I J 32,I J 2],.agg #[I J 0,I J 0,.bool false,.bool false]] w
   (fun e w'=>e=.returned (.tuple #[.pointer N,I J 1])/\By w w'):=by
 refine(zG A a B b ⟨0,0,false,false⟩ w hC hL).mono ?_;rintro e w' ⟨hb,⟨_,he⟩|⟨h,_⟩⟩
 ·rw[vE]at he
  exact⟨he,hb⟩
 rw[vE]at h;cases h
theorem ApI.below{S:Nat->Prop}{w w':Wv}{A:Oa}{zs:Li}(h:ApI S w A zs)(hb:By w w'):ApI S w' A zs:=⟨h.1.below hb,h.2⟩
section
variable {w w':Wv}{l bs:Nat}{V:LsV}{mb:Nat}{O:Oa}{oc cnt:Nat}{x:Nrm}{c:Col}{o:Opt}{f:Int->Option Value}{L:Its}
theorem Lst.lf_lt(h:Lst w l bs V mb O oc cnt x c o f L){k:Nat}(hk:Lf l mb O k):k<w.heap.size:=by
 rcases hk with rfl|rfl|e
 ·exact h.box.lt
 ·exact h.map.lt
 exact(dD h.row e).2
theorem Lst.fresh(h:Lst w l bs V mb O oc cnt x c o f L){A:Oa}{t:Li}(hI:aA w' A t)(hf:∀q,blk A=Z q->w.heap.size<=q):ApI (Lf l mb O) w' A t:=
 ⟨hI,fun _ q hq hS=>by have:=h.lf_lt hS;have:=hf q hq;omega⟩
theorem Lst.row1(h:Lst w l bs V mb O oc cnt x c o f L)(z:Int):ApI (Lf l mb O) (w.alloc (.cells #[I J z] 3)) (Z ⟨w.heap.size,0,N⟩) [z]:=
 h.fresh (bZ w [z] 3 rfl) (fun q hq=>by have:=Option.some.inj (show Z w.heap.size=Z q from hq);omega)
theorem Lst.al(h:Lst w l bs V mb O oc cnt x c o f L)(z:Int):Lst (w.alloc (.cells #[I J z] 3)) l bs V mb O oc cnt x c o f L:=h.below (ba _ _)
end
theorem lH{l mb:Nat}{O:Oa}{n bs:Nat}{w0 w w':Wv}(hb:Below n w0 w)(hs:n<=w.heap.size)(hc:Chg (Lf l mb O) w w')(hn:n<=bs)(hl:∀k,Lf l mb O k->bs<=k):Below n w0 w':=
 hb.trans (hc.below hs (fun k hk=>Nat.le_trans hn (hl k hk)))
theorem GM(w:Wv)(hL:dL w):Calls prog 10 #[] w (oA w):=by
 have HLd:=G (fun W(hb:By w W)=>hL.below hb);have LT:=G (fun W=>QW W);have NO:=G (fun A a B b W=>TG A a B b 3 W GK);have NB:=G (fun A a B b W=>S_ A a B b W);clear hL;go_enter func10,ntmps10;go_wp2_with fail;with_reducible refine(LT.out w).mono ?_
 rintro e W1 ⟨A,a,B,b,rfl,hC,hb1⟩;have C1:=G (NO.out A a B b W1 hC (HLd.out W1 hb1));clear NO hC;go_wp2_with fail;with_reducible refine C1.out.mono ?_
 rintro e W2 ⟨l,V,mb,rfl,hl2,hb2⟩;have H2:=G hl2;have hbs:w.heap.size<=W1.heap.size:=hb1.size;have B2:=hb1.trans (hb2.mono hb1.size);clear C1 hl2 hb1 hb2;go_wp2_with fail;with_reducible refine(LT.out W2).mono ?_
 rintro e W3 ⟨A',a',B',b',rfl,hC,hb3⟩;have H3:=G (H2.out.below hb3);have B3:=B2.trans (hb3.mono B2.size);have C2:=G (NB.out A' a' B' b' W3 hC (HLd.out W3 B3));clear NB LT hC H2 B2 hb3;go_wp2_with fail;with_reducible refine C2.out.mono ?_
 rintro e W4 ⟨rfl,hb4⟩;have HH:=G (H3.out.below hb4);have BB:=B3.trans (hb4.mono B3.size);have HLF:=G HH.out.lf;clear C2 H3 B3 hb4 HLd;have PC:=G (qD (HH.out.al 98) 5 (by rfl) (Z ⟨W4.heap.size,0,N⟩) 1 [98] (HH.out.row1 98) (by simp) (fun z hz=>by simp at hz;subst hz;rfl) (by decide) (by unfold maxLen;omega));rw[show kyN gS eE lP=kyA from rfl,vG.1,vG.2.1]at PC;unfold iJ at PC;dsimp only[List.length_cons,List.length_nil,Nat.reduceAdd]at PC;have ba:=BB.alloc BB.size (.cells #[I J 98] 3);have bn:By W4 (W4.alloc (.cells #[I J 98] 3)):=(Below.refl _ _).alloc (Nat.le_refl _) _;clear BB HH;go_wp2_with fail;with_reducible refine PC.out.mono ?_
 rintro e W5 ⟨rfl,OW5,ocW5,fW5,hl,hc,hO⟩;have HH:=G hl;have BB:=lH ba ba.size hc hbs HLF.out;clear HLF;have HLF:=G hl.lf;clear PC hl hc hO ba bn;have PC:=G (qD (HH.out.al 97) 7 (by rfl) (Z ⟨W5.heap.size,0,N⟩) 1 [97] (HH.out.row1 97) (by simp) (fun z hz=>by simp at hz;subst hz;rfl) (by decide) (by unfold maxLen;omega));rw[show kyN gS eE lP=kyA from rfl,vH.1,vH.2]at PC;unfold iJ at PC;dsimp only[List.length_cons,List.length_nil,Nat.reduceAdd]at PC;have ba:=BB.alloc BB.size (.cells #[I J 97] 3);have bn:By W5 (W5.alloc (.cells #[I J 97] 3)):=(Below.refl _ _).alloc (Nat.le_refl _) _;clear BB HH;go_wp2_with fail;with_reducible refine PC.out.mono ?_
 rintro e W6 ⟨rfl,OW6,ocW6,fW6,hl,hc,hO⟩;have HH:=G hl;have BB:=lH ba ba.size hc hbs HLF.out;clear HLF;have HLF:=G hl.lf;clear PC hl hc hO ba bn;have PC:=G (qD (HH.out.al 98) 6 (by rfl) (Z ⟨W6.heap.size,0,N⟩) 1 [98] (HH.out.row1 98) (by simp) (fun z hz=>by simp at hz;subst hz;rfl) (by decide) (by unfold maxLen;omega));rw[show kyN gS eE lP=kyA from rfl,GL]at PC;unfold iJ at PC;dsimp only[List.length_cons,List.length_nil,Nat.reduceAdd]at PC;have ba:=BB.alloc BB.size (.cells #[I J 98] 3);have bn:By W6 (W6.alloc (.cells #[I J 98] 3)):=(Below.refl _ _).alloc (Nat.le_refl _) _;clear BB HH;go_wp2_with fail;with_reducible refine PC.out.mono ?_
 rintro e W7 ⟨rfl,OW7,ocW7,fW7,hl,hc,hO⟩;have HH:=G hl;have BB:=lH ba ba.size hc hbs HLF.out;clear HLF;have HLF:=G hl.lf;clear PC hl hc hO ba bn;have PC:=G (BX HH.out 7 (by rfl));unfold qV at PC;rw[show getL [(7,[97]),(5,[98]),(6,[98])] 7=Z [97]from rfl]at PC;try dsimp only[List.length_cons,List.length_nil,Nat.reduceAdd,Option.getD_some,Option.isSome_some]at PC
 go_wp2_with fail;with_reducible refine PC.out.mono ?_
 rintro e W9 ⟨AT,kt,rfl,hT,hf,hbq⟩;have PT:=HH.out.fresh hT hf;clear hT hf;have HN:=G (HH.out.below hbq);have BN:=BB.trans (hbq.mono BB.size);clear HH BB PC;have HH:=HN;have BB:=BN;clear HN BN hbq;have PC:=G (BY HH.out);unfold bE at PC;rw[show idsL [(7,[97]),(5,[98]),(6,[98])]=[7,5,6]from rfl]at PC;try dsimp only[List.length_cons,List.length_nil,Nat.reduceAdd,Option.getD_some,Option.isSome_some]at PC
 go_wp2_with fail;with_reducible refine PC.out.mono ?_
 rintro e W10 ⟨AI,ki,rfl,hT,hbq⟩;have PI:=HH.out.fresh (Sl.of_own hT:aA _ AI [7,5,6]) (fun q hq=>(dD hT hq).1);clear hT;have NPT:=PT.below hbq;clear PT;have PT:=NPT;clear NPT;have HN:=G (HH.out.below hbq);have BN:=BB.trans (hbq.mono BB.size);clear HH BB PC;have HH:=HN;have BB:=BN;clear HN BN hbq;have PC:=G (qC HH.out 5 (by rfl));unfold cA at PC;rw[show posL [(7,[97]),(5,[98]),(6,[98])] 5=1 from rfl]at PC;try dsimp only[List.length_cons,List.length_nil,Nat.reduceAdd,Option.getD_some,Option.isSome_some]at PC
 go_wp2_with fail;with_reducible refine PC.out.mono ?_
 rintro e W11 ⟨rfl,hbq⟩;have NPT:=PT.below hbq;clear PT;have PT:=NPT;clear NPT;have NPI:=PI.below hbq;clear PI;have PI:=NPI;clear NPI;have HN:=G (HH.out.below hbq);have BN:=BB.trans (hbq.mono BB.size);clear HH BB PC;have HH:=HN;have BB:=BN;clear HN BN hbq;have hbr:By W11 (W11.alloc (.cells #[I J 98] 3)):=(Below.refl _ _).alloc (Nat.le_refl _) _;have PC:=G (BZ (HH.out.al 98) (Z ⟨W11.heap.size,0,N⟩) 1 [98] (HH.out.row1 98).1 (by simp) (fun z hz=>by simp at hz;subst hz;rfl));unfold bE at PC;rw[show kyN gS eE lP=kyA from rfl,vF.1,show idsL [((5:Int),[(98:Int)]),(6,[98])]=[5,6]from rfl]at PC;try dsimp only[List.length_cons,List.length_nil,Nat.reduceAdd,Option.getD_some,Option.isSome_some]at PC
 go_wp2_with fail;with_reducible refine PC.out.mono ?_
 rintro e W12 ⟨AS,ks,rfl,hT,hbw⟩;have PS:=(HH.out.al 98).fresh (Sl.of_own hT:aA _ AS [5,6]) (fun q hq=>(dD hT hq).1);have hbq:=hbr.trans (hbw.mono hbr.size);clear hT hbw hbr;have NPT:=PT.below hbq;clear PT;have PT:=NPT;clear NPT;have NPI:=PI.below hbq;clear PI;have PI:=NPI;clear NPI;have HN:=G (HH.out.below hbq);have BN:=BB.trans (hbq.mono BB.size);clear HH BB PC;have HH:=HN;have BB:=BN;clear HN BN hbq;have hbr:By W12 ((W12.alloc (.cells #[I J 97] 3)).alloc (.cells #[I J 98] 3)):=((Below.refl _ _).alloc (Nat.le_refl _) _).alloc (by simp) _;have PC:=G (BV ((HH.out.al 97).al 98) (Z ⟨W12.heap.size,0,N⟩) 1 [97] (Z ⟨(W12.alloc (.cells #[I J 97] 3)).heap.size,0,N⟩) 1 [98] ((HH.out.row1 97).1.below ((Below.refl _ _).alloc (Nat.le_refl _) _)) ((HH.out.al 97).row1 98).1 (by simp) (by simp) (fun z hz=>by simp at hz;subst hz;rfl) (fun z hz=>by simp at hz;subst hz;rfl));rw[show kyN gS eE lP=kyA from rfl,vF.2,show idsL [((7:Int),[(97:Int)])]=[7]from rfl]at PC;rw[show(W12.alloc (.cells #[I J 97] 3)).heap.size=W12.heap.size+1 by simp]at PC;try dsimp only[List.length_cons,List.length_nil,Nat.reduceAdd,Option.getD_some,Option.isSome_some]at PC
 go_wp2_with fail;with_reducible refine PC.out.mono ?_
 rintro e W13 ⟨AB,kb,rfl,hT,hf,hbw⟩;have PB:=((HH.out.al 97).al 98).fresh hT hf;have hbq:=hbr.trans (hbw.mono hbr.size);clear hT hf hbw hbr;have NPT:=PT.below hbq;clear PT;have PT:=NPT;clear NPT;have NPI:=PI.below hbq;clear PI;have PI:=NPI;clear NPI;have NPS:=PS.below hbq;clear PS;have PS:=NPS;clear NPS;have HN:=G (HH.out.below hbq);have BN:=BB.trans (hbq.mono BB.size);clear HH BB PC;have HH:=HN;have BB:=BN;clear HN BN hbq;have PC:=G (nR HH.out 6 (by rfl));rw[show decide ((6:Int)∈idsL [(7,[97]),(5,[98]),(6,[98])])=true by decide,vI.1]at PC;unfold iJ at PC;go_wp2_with fail;with_reducible refine PC.out.mono ?_
 rintro e W14 ⟨rfl,OW14,ocW14,fW14,hl,hc,hO⟩;have NPT:=PT.to hc (fE hO);clear PT;have PT:=NPT;clear NPT;have NPI:=PI.to hc (fE hO);clear PI;have PI:=NPI;clear NPI;have NPS:=PS.to hc (fE hO);clear PS;have PS:=NPS;clear NPS;have NPB:=PB.to hc (fE hO);clear PB;have PB:=NPB;clear NPB;have BN:=lH BB BB.size hc hbs HLF.out;clear HLF BB HH PC;have HH:=G hl;have HLF:=G hl.lf;have BB:=BN;clear BN hl hc hO;have PC:=G (nR HH.out 6 (by rfl));rw[show decide ((6:Int)∈idsL [(7,[97]),(5,[98])])=false by decide,vI.2]at PC;unfold iJ at PC;go_wp2_with fail;with_reducible refine PC.out.mono ?_
 rintro e W15 ⟨rfl,OW15,ocW15,fW15,hl,hc,hO⟩;have NPT:=PT.to hc (fE hO);clear PT;have PT:=NPT;clear NPT;have NPI:=PI.to hc (fE hO);clear PI;have PI:=NPI;clear NPI;have NPS:=PS.to hc (fE hO);clear PS;have PS:=NPS;clear NPS;have NPB:=PB.to hc (fE hO);clear PB;have PB:=NPB;clear NPB;have BN:=lH BB BB.size hc hbs HLF.out;clear HLF BB HH PC;have HH:=G hl;have HLF:=G hl.lf;have BB:=BN;clear BN hl hc hO;have PC:=G (fun W=>TQ 1 N 0 0 W);go_wp2_with fail;with_reducible refine(PC.out _).mono ?_
 rintro e Wz ⟨rfl,rfl⟩;clear PC;have hbr:By W15 (W15.alloc (.cells #[I J 97] 3)):=(Below.refl _ _).alloc (Nat.le_refl _) _;have PC:=G (lU AT (Z ⟨W15.heap.size,0,N⟩) 1 1 kt 1 [97] [97] (W15.alloc (.cells #[I J 97] 3)) (PT.1.below hbr) (bZ W15 [97] 3 rfl) rfl rfl (by omega) (by omega));rw[show decide ([97]=([97]:Li))=true from rfl]at PC;clear PT;go_wp2_with fail;with_reducible refine PC.out.mono ?_
 rintro e W16 ⟨rfl,hq⟩;have hbq:=hbr.trans (hq.below.mono hbr.size);clear hq hbr;have NPI:=PI.below hbq;clear PI;have PI:=NPI;clear NPI;have NPS:=PS.below hbq;clear PS;have PS:=NPS;clear NPS;have NPB:=PB.below hbq;clear PB;have PB:=NPB;clear NPB;have HN:=G (HH.out.below hbq);have BN:=BB.trans (hbq.mono BB.size);clear HH BB PC;have HH:=HN;have BB:=BN;clear HN BN hbq;have hbr:By W16 (W16.alloc (.cells #[I J 7,I J 5,I J 6] 3)):=(Below.refl _ _).alloc (Nat.le_refl _) _;have PC:=G (lU AI (Z ⟨W16.heap.size,0,N⟩) 3 3 ki 3 [7,5,6] [7,5,6] (W16.alloc (.cells #[I J 7,I J 5,I J 6] 3)) (PI.1.below hbr) (bZ W16 [7,5,6] 3 rfl) rfl rfl (by omega) (by omega));rw[show decide ([7,5,6]=([7,5,6]:Li))=true from rfl]at PC;clear PI;go_wp2_with fail;with_reducible refine PC.out.mono ?_
 rintro e W17 ⟨rfl,hq⟩;have hbq:=hbr.trans (hq.below.mono hbr.size);clear hq hbr;have NPS:=PS.below hbq;clear PS;have PS:=NPS;clear NPS;have NPB:=PB.below hbq;clear PB;have PB:=NPB;clear NPB;have HN:=G (HH.out.below hbq);have BN:=BB.trans (hbq.mono BB.size);clear HH BB PC;have HH:=HN;have BB:=BN;clear HN BN hbq;have hbr:By W17 (W17.alloc (.cells #[I J 5,I J 6] 3)):=(Below.refl _ _).alloc (Nat.le_refl _) _;have PC:=G (lU AS (Z ⟨W17.heap.size,0,N⟩) 2 2 ks 2 [5,6] [5,6] (W17.alloc (.cells #[I J 5,I J 6] 3)) (PS.1.below hbr) (bZ W17 [5,6] 3 rfl) rfl rfl (by omega) (by omega));rw[show decide ([5,6]=([5,6]:Li))=true from rfl]at PC;clear PS;go_wp2_with fail;with_reducible refine PC.out.mono ?_
 rintro e W18 ⟨rfl,hq⟩;have hbq:=hbr.trans (hq.below.mono hbr.size);clear hq hbr;have NPB:=PB.below hbq;clear PB;have PB:=NPB;clear NPB;have HN:=G (HH.out.below hbq);have BN:=BB.trans (hbq.mono BB.size);clear HH BB PC;have HH:=HN;have BB:=BN;clear HN BN hbq;have hbr:By W18 (W18.alloc (.cells #[I J 7] 3)):=(Below.refl _ _).alloc (Nat.le_refl _) _;have PC:=G (lU AB (Z ⟨W18.heap.size,0,N⟩) 1 1 kb 1 [7] [7] (W18.alloc (.cells #[I J 7] 3)) (PB.1.below hbr) (bZ W18 [7] 3 rfl) rfl rfl (by omega) (by omega));rw[show decide ([7]=([7]:Li))=true from rfl]at PC;clear PB;go_wp2_with fail;with_reducible refine PC.out.mono ?_
 rintro e W19 ⟨rfl,hq⟩;have hbq:=hbr.trans (hq.below.mono hbr.size);clear hq hbr;have HN:=G (HH.out.below hbq);have BN:=BB.trans (hbq.mono BB.size);clear HH BB PC;have HH:=HN;have BB:=BN;clear HN BN hbq;have PC:=G (qC HH.out 6 (by rfl));unfold cA at PC;rw[show posL [(7,[97]),(5,[98])] 6=-1 from rfl]at PC;try dsimp only[List.length_cons,List.length_nil,Nat.reduceAdd,Option.getD_some,Option.isSome_some]at PC
 go_wp2_with fail;with_reducible refine PC.out.mono ?_
 rintro e W20 ⟨rfl,hbq⟩;have HN:=G (HH.out.below hbq);have BN:=BB.trans (hbq.mono BB.size);clear HH BB PC;have HH:=HN;have BB:=BN;clear HN BN hbq;have PC:=G (fun W=>TS 1 W);go_wp2_with fail;with_reducible refine(PC.out _).mono ?_
 rintro e Wz ⟨rfl,rfl⟩;clear PC;have PC:=G (fun W=>zI 1 W);go_wp2_with fail;with_reducible refine(PC.out _).mono ?_
 rintro e Wz ⟨rfl,rfl⟩;clear PC;go_wp2_with fail;go_ret;exact⟨rfl,BB⟩
theorem Few.len{x:Nrm}{c:Col}{l:List Stp}(h:Few x c l)(K:Li->Li)(i:Nat):(runL K [] (l.take i)).length<=10:=by
 have h1:=runL_len (K:=K) (l.take i) [];have h2:=h.n;have h3:(l.take i).length<=l.length:=by rw[List.length_take];omega
 simp only[List.length_nil]at h1;omega
theorem iH{w:Wv}{b:Nat}{t:TypeId}{cs:Lv}{k:Nat}{v:Value}(h:Box w b t cs)(hk:cs[k]?=Z v):w.setCell ⟨b,k,N⟩ v=w:=by
 unfold Box at h
 have e:w.heap.modify b (fun
   | .cells c elem frozen=>.cells (if(N:Option Nat).isSome then c else c.setIfInBounds k v) elem frozen
   | o=>o)=w.heap:=by
  apply Array.ext_getElem?;intro q;rw[Array.getElem?_modify];split
  ·next hq=>
   subst hq;rw[h];simp only[Option.map_some,Option.isSome_none,Bool.false_eq_true,if_false];congr 2;rw[List.setIfInBounds_toArray];congr 1;apply List.ext_getElem?;intro j;rw[List.getElem?_set];split
   ·next hj=>
    subst hj;split
    ·exact hk.symm
    next hn=>rw[List.getElem?_eq_none (by omega)]
   rfl
  rfl
 exact congrArg (fun H=>({ w with heap:=H }:Wv)) e
theorem CJ{w:Wv}{b:Nat}{t:TypeId}{u0 u1 u2 u3 u4 u5 u6 u7 u8 u9 u10 u11 a:Value}(h:Box w b t [u0,u1,u2,u3,u4,u5,u6,u7,u8,u9,u10,u11,a])(v:Value):(((((((((((((w.setCell ⟨b,0,N⟩ u0).setCell ⟨b,1,N⟩ u1).setCell ⟨b,2,N⟩ u2).setCell ⟨b,3,N⟩ u3).setCell ⟨b,4,N⟩ u4).setCell ⟨b,5,N⟩ u5).setCell ⟨b,6,N⟩ u6).setCell ⟨b,7,N⟩ u7).setCell ⟨b,8,N⟩ u8).setCell ⟨b,9,N⟩ u9).setCell ⟨b,10,N⟩ u10).setCell ⟨b,11,N⟩ u11).setCell ⟨b,12,N⟩ v)=w.setCell ⟨b,12,N⟩ v:=by
 rw[iH h (k:=0) (v:=u0) rfl,iH h (k:=1) (v:=u1) rfl,iH h (k:=2) (v:=u2) rfl,iH h (k:=3) (v:=u3) rfl,iH h (k:=4) (v:=u4) rfl,iH h (k:=5) (v:=u5) rfl,iH h (k:=6) (v:=u6) rfl,iH h (k:=7) (v:=u7) rfl,iH h (k:=8) (v:=u8) rfl,iH h (k:=9) (v:=u9) rfl,iH h (k:=10) (v:=u10) rfl,iH h (k:=11) (v:=u11) rfl]
theorem yH{w:Wv}{A:Oa}{zs:Li}(h:aA w A zs){p:Addr}{B:Oa}{n m:Nat}(hc:w.cell? p=Z (H B n m))(v:Value):aA (w.setCell p v) A zs:=fun hne=>by
 obtain⟨q,o,rfl,hq⟩:=h hne;refine⟨q,o,rfl,fun j u hu=>?_⟩;have h1:=hq j u hu;have hm:u∈zs.map (Value.int .i64):=List.mem_of_getElem? hu;obtain⟨z,_,rfl⟩:=List.mem_map.1 hm;rw[World.cell?_setCell_other _ _ _ _ (fun e=>by subst e;rw[hc]at h1;cases h1)];exact h1
theorem lf_lt{w:Wv}{l bs:Nat}{V:LsV}{mb:Nat}{O:Oa}{oc cnt:Nat}{x:Nrm}{c:Col}{o:Opt}{f:Int->Option Value}{L:Its}(h:Lst w l bs V mb O oc cnt x c o f L){k:Nat}(hk:Lf l mb O k):k<w.heap.size:=by
 rcases hk with rfl|rfl|e
 ·exact h.box.lt
 ·exact h.map.lt
 exact(dD h.row e).2
theorem Lst.poke{w:Wv}{l bs:Nat}{V:LsV}{mb:Nat}{O:Oa}{oc cnt:Nat}{x:Nrm}{c:Col}{o:Opt}{f:Int->Option Value}{L:Its}(h:Lst w l bs V mb O oc cnt x c o f L){p:Addr}{B:Oa}{n m:Nat}(hc:w.cell? p=Z (H B n m))(hS:¬Lf l mb O p.block)(hl:l<p.block)(v:Value):
  Lst (w.setCell p v) l bs V mb O oc cnt x c o f L:=by
 have hg:=dU w p v;have hch:Chg (fun q=>q=p.block) w (w.setCell p v):=Chg.of_grown hg (fun q e=>by injection e with e;exact e.symm);obtain⟨w0,e0,e1,e2,s1,s2,s3,s4,s5⟩:=h.set;refine { h with box:=hch.box h.box (fun e=>hS (.inl e.symm)),map:=h.map.kept hg (fun e=>hS (.inr (.inl (by injection e with e;exact e.symm)))),row:=h.row.kept hg ?_,set:=⟨w0,e0,e1,e2,s1,s2,s3,s4.trans' hch (fun k e=>.inr (by subst e;omega)),s5⟩,item:=fun q hq=>?_ }
 ·cases hv:(Value.slice O L.length oc).ownBlock with
  |none=>exact .inl rfl
  |some q=>
   right;intro e;injection e with e;rw[dZ]at hv;exact hS (.inr (.inr (by rw[hv,e])))
 obtain⟨T,tk,K,kk,e,a1,a2⟩:=h.item q hq;exact⟨T,tk,K,kk,e,⟨yH a1.1 hc v,a1.2⟩,⟨yH a2.1 hc v,a2.2⟩⟩
def fM(S:Nat->Prop)(w:Wv)(I:Oa)(R:List Rit):Prop:=Rls w I R/\(R≠[]->∀q,blk I=Z q->¬S q)
theorem NF{R:List Rit}(h:aF Rit.cells R≠[]):R≠[]:=fun e=>h (by rw[e];rfl)
theorem fM.chg{S:Nat->Prop}{w w':Wv}{I:Oa}{R:List Rit}(h:fM S w I R)(hc:Chg S w w'):Rls w' I R:=hc.sl h.1 (fun hne=>h.2 (NF hne))
theorem YF{w:Wv}{I:Oa}{R:List Rit}(h:Rls w I R)(hne:R≠[]){q:Nat}(hq:blk I=Z q):q<w.heap.size:=
 j_ h (fun e=>hne (by
  have:=congrArg List.length e
  rw[xM]at this
  exact List.length_eq_zero_iff.1 (by simp only[List.length_nil]at this;omega))) hq
theorem fM.to{S S':Nat->Prop}{w w':Wv}{I:Oa}{R:List Rit}(h:fM S w I R)(hc:Chg S w w')(hs:∀k,S' k->S k\/w.heap.size<=k):fM S' w' I R:=
 ⟨h.chg hc,fun hne q hq hS=>by
  rcases hs q hS with g|g
  ·exact h.2 hne q hq g
  ·have:=YF h.1 hne hq;omega⟩
theorem fM.below{S:Nat->Prop}{w w':Wv}{I:Oa}{R:List Rit}(h:fM S w I R)(hb:By w w'):fM S w' I R:=⟨h.1.below hb,h.2⟩
theorem fM.fresh{S:Nat->Prop}{w:Wv}{base:Nat}{I:Oa}{R:List Rit}{k:Nat}(h:w.ownsRow base 93 2 (H I R.length k) R.length (aF Rit.cells R))(hs:∀q,S q->q<base):fM S w I R:=
 ⟨Sl.of_own h,fun _ q hq hS=>by have:=(dD h hq).1;have:=hs q hS;omega⟩
theorem NP{K:Li->Li}{L:Its}(h:Srt K L){R:List Rit}(hR:plR R=L)(id:Int):decide ((a_ R id).length<R.length)=decide (id∈idsL L):=by
 have e1:(a_ R id).length=(remL L id).length:=by rw[<-hR,<-mL,iT]
 have e2:R.length=L.length:=by rw[<-hR,iT]
 rw[e1,e2];by_cases hin:id∈idsL L
 ·have:=remL_len1 h.one hin
  rw[decide_eq_true hin,decide_eq_true (by omega)]
 rw[remL_none hin,decide_eq_false hin,decide_eq_false (by omega)]
theorem GZ{K:Li->Li}{L:Its}{R:List Rit}(hR:plR R=L)(q:Rit):atR K (a_ R q.id) q=atL K L q.id q.t:=by
 unfold atR atL;rw[mL,hR]
theorem VP{K:Li->Li}{L:Its}{R:List Rit}(hR:plR R=L)(q:Rit):plR (gN K R q)=putL K L q.id q.t:=by rw[VG,hR]
theorem tZ{R:List Rit}{id:Int}{r:Rit}(h:r∈a_ R id):r∈R:=(List.mem_filter.1 h).1
theorem VR{K:Li->Li}{R:List Rit}{q r:Rit}(h:r∈gN K R q):r=q\/r∈R:=by
 unfold gN at h;rcases List.mem_append.1 h with h|h
 ·exact .inr (tZ (List.mem_of_mem_take h))
 rcases List.mem_cons.1 h with h|h
 ·exact .inl h
 exact .inr (tZ (List.mem_of_mem_drop h))
theorem OB{R:List Rit}(id:Int){w:Wv}(hX:∀r∈R,aA w r.T r.t):∃T k,gtV (fD R id)=H T ((getL (plR R) id).getD []).length k/\aA w T ((getL (plR R) id).getD [])/\(fD R id).isSome=(getL (plR R) id).isSome:=by
 rw[sG];cases h:fD R id with
 |none=>exact⟨N,0,rfl,Sl.nil _ _,rfl⟩
 |some r=>exact⟨r.T,r.k,rfl,hX r (sI h),rfl⟩
def jL(zs:Li)(v:Value)(w:Wv):Prop:=∃A k,v=H A zs.length k/\aA w A zs
theorem jL.below{zs:Li}{v:Value}{w w':Wv}(h:jL zs v w)(hb:By w w'):jL zs v w':=by
 obtain⟨A,k,e,h⟩:=h;exact⟨A,k,e,h.below hb⟩
section
variable {P:Program}{ops:Array Oper}{Q:Exit->Act->Wv->Prop}{md:Region.Mode}{S:Wv->Prop}
end
def kH(n:Nat):Code->Option Code
 | .region id ops d=>if id=n then Z (.region id ops d)else N
 | .seq a b=>match kH n a with
  |some c=>Z c
  |none=>kH n b
 | .cond _ a b=>match kH n a with
  |some c=>Z c
  |none=>kH n b
 | .block _ c=>kH n c
 | .loop c=>kH n c
 | .scope c=>kH n c
 |_=>N
noncomputable def WX:Code:=((f3.body.bind (kH 24)).getD .skip)
def S24(bt bl:Nat)(sid:Int)(T:Oa)(tl tk:Nat)(Q:Oa)(sl qk:Nat)(V:eQ)(x:Nrm)(c:Col)(o:Opt)(I1:Oa)(n1 ic1:Nat)(W23 W':Wv):Prop:=
 W'.cell? ⟨bt,0,N⟩=Z (I J sid)/\W'.cell? ⟨bt,1,N⟩=Z (H T tl tk)/\W'.cell? ⟨bt,3,N⟩=Z (H Q sl qk)/\W'.cell? ⟨bl,0,N⟩=Z (H V.A0 x.cls.length V.k0)/\W'.cell? ⟨bl,1,N⟩=Z (H V.A1 x.dec.length V.k1)/\W'.cell? ⟨bl,2,N⟩=Z (H V.A2 x.exc.length V.k2)/\W'.cell? ⟨bl,3,N⟩=Z (H V.C c.ents.length V.a)/\W'.cell? ⟨bl,4,N⟩=Z (H V.B c.grps.length V.b)/\W'.cell? ⟨bl,5,N⟩=Z (I J c.base)/\W'.cell? ⟨bl,6,N⟩=Z (I J c.second)/\W'.cell? ⟨bl,7,N⟩=Z (I J c.third)/\W'.cell? ⟨bl,8,N⟩=Z (I J o.st)/\W'.cell? ⟨bl,9,N⟩=Z (I J o.va)/\W'.cell? ⟨bl,10,N⟩=Z (.bool o.bk)/\W'.cell? ⟨bl,11,N⟩=Z (.bool o.idn)/\W'.cell? ⟨bl,12,N⟩=Z (H I1 n1 ic1)/\By W23 W'
theorem S24.b{bt bl:Nat}{sid:Int}{T:Oa}{tl tk:Nat}{Q:Oa}{sl qk:Nat}{V:eQ}{x:Nrm}{c:Col}{o:Opt}{I1:Oa}{n1 ic1:Nat}{W23 W':Wv}(h:S24 bt bl sid T tl tk Q sl qk V x c o I1 n1 ic1 W23 W'):By W23 W':=h.2.2.2.2.2.2.2.2.2.2.2.2.2.2.2.2
section
variable {P:Program}{ops:Array Oper}{Q:Exit->Act->Wv->Prop}{md:Region.Mode}{S:Wv->Prop}
theorem tP{v:Value}(i k:Nat){oi:Oper}{fuel:Nat}{listed l':Array Bool}{a a':Act}{w:Wv}(hN:∀x a (t:Nat) v W,Q (.panic x) (a.put (Z t) v) W->Q (.panic x) a W)
  (h:wpAnyH P md ops Q S fuel l' a' w) (hi:ops[i]?=Z oi:=by rfl) (hd:oi.dst=Z k:=by rfl)
  (hs:Region.noSelect ops=true:=by kernel_rfl) (hf:Region.free md ops listed i=true:=by kernel_rfl) (hr:(Region.ready md ops listed).contains i=true:=by kernel_rfl)
  (hw:Region.wanted oi (yielded ops a.tmps)=true:=by rfl) (hS:S w:=by assumption)
  (hv:∀w,S w->(execOp a.eval oi).run P w=.ok (.value v) w:=by intro w hSw;unfold S24 at hSw;go_split_ands;go_simp;try(with_reducible rfl))
  (hl:listed.setIfInBounds i true=l':=by(try simp only[sA,sB,sC]);first|done|rfl)
  (ha:a.put (Z k) v=a':=by(try simp only[Act.put,sA,sB,sC]);first|done|rfl):wpAnyH P md ops Q S (fuel+1) listed a w:=by
 subst hl;subst ha;exact eR (Z k) hi hd hs hf hr (fun c a w h=>hN _ _ _ _ _ h) hw hS hv h
end
theorem VH(V:eQ)(x:Nrm)(c:Col)(o:Opt)(w wc W23:Wv)(bt bl lb bs mb:Nat)(V':LsV)(O1:Oa)(oc1 cnt1:Nat)(f1:Int->Option Value)(Ln:Its)(I1:Oa)(ic1:Nat)(R1:List Rit)(sid:Int)(T:Oa)(tk:Nat)(stx:Li)(srm:Bool)(Q:Oa)(qk:Nat)(sak:Li)(TA:Oa)(ka:Nat)(TB:Oa)(kb:Nat)(gv:Li)(gs:Bool)
  (hset:lC w V x c) (hzx:cK x) (hzc:bW c) (hlst:Lst wc lb bs V' mb O1 oc1 cnt1 x c o f1 Ln) (hxp:Box wc bt 51 [I J sid,H T stx.length tk,.bool srm,H Q sak.length qk]) (hxb:Box wc bl 46 [H V.A0 x.cls.length V.k0,H V.A1 x.dec.length V.k1,H V.A2 x.exc.length V.k2,H V.C c.ents.length V.a,H V.B c.grps.length V.b,I J c.base,I J c.second,I J c.third,I J o.st,I J o.va,.bool o.bk,.bool o.idn,H I1 R1.length ic1]) (hri:Rls wc I1 R1) (hpl:plR R1=Ln) (hxw:∀W,By wc W->∀r,r∈R1->aA W r.T r.t/\r.t.length<=16384) (hRR1:R1.length<=10)
  (hbs:By wc W23) (hbw:By w W23) (hia:aA W23 TA gv) (hib:aA W23 TB gv) (hgl:gv.length<=6) (ht1:Txt w T tk stx) (ht2:Txt w Q qk sak) (hio:iok sid) (hse:stx.length<=6/\sak.length<=6)
  {Q':Exit->Act->Wv->Prop} {u0 u1 u2 u3 u4 u6 u8 u9 u11 u12 u13 u14 u15 u16 u17 u22 u23 u24 u25 u26 u27 u28 u29 u30 u31 u32 u33 u34 u35 u36 u37 u38 u39 u40 u41 u42 u43 u44 u45 u46 u47 u48 u49 u50 u51 u52 u53 u54 u55 u56 u57 u58 u59 u60 u61 u62 u63 u64 u65 u66 u67 u68 u69 u70 u71 u72 u73 u74 u75 u76 u77 u78 u79 u80 u81 u82 u83 u84 u85 u86 u87 u88 u89 u90 u91 u92 u93 u94 u95 u96 u97 u98 u99 u100 u101 u102 u103 u104 u105 u106 u107 u108 u109 u110 u111 u112 u113 u114 u115 u116 u117 u118 u119 u120 u121 u122 u123 u124 u125 u126 u127 u128 u129 u130 u131 u132 u133 u134 u135 u136 u137 u138 u139 u140 u141 u142 u143 u144 u145 u146 u147 u148 u149 u150 u151 u152 u153 u154 u155 u156 u157 u158 u159 u160 u161 u162 u163 u164 u165 u166 u167 u168 u169 u170 u171 u172 u173 u174 u175 u176 u177 u178 u179 u180 u181:Value} (hPan:∀x a(t:Nat)v W,Q' (.panic x) (a.put (Z t) v) W->Q' (.panic x) a W) (hQ:∀(t124 t125 t126 t127 t128 t129 t130 t131 t132 t133 t134 t135 t136 t137 t138 t139 t140 t141 t142 t143 t144 t145 t146 t147 t148 t149 t150 t151 t152 t153 t154 t155 t156 t157 t158 t159 t160 t161 t162 t163 t164 t165 t166 t167 t168 t169 t170 t171 t172 t173 t174 t175 t176 t177 t178:Value)W',By W23 W'->Q' .normal ⟨#[u0,u1,u2,u3,u4,.pointer (Z ⟨lb,0,N⟩),u6,.pointer (Z ⟨bl,0,N⟩),u8,u9,.pointer (Z ⟨bt,0,N⟩),u11,u12,u13,u14,u15,u16,u17,H TA gv.length ka,.bool gs,H TB gv.length kb,.bool gs,u22,u23,u24,u25,u26,u27,u28,u29,u30,u31,u32,u33,u34,u35,u36,u37,u38,u39,u40,u41,u42,u43,u44,u45,u46,u47,u48,u49,u50,u51,u52,u53,u54,u55,u56,u57,u58,u59,u60,u61,u62,u63,u64,u65,u66,u67,u68,u69,u70,u71,u72,u73,u74,u75,u76,u77,u78,u79,u80,u81,u82,u83,u84,u85,u86,u87,u88,u89,u90,u91,u92,u93,u94,u95,u96,u97,u98,u99,u100,u101,u102,u103,u104,u105,u106,u107,u108,u109,u110,u111,u112,u113,u114,u115,u116,u117,u118,u119,u120,u121,u122,u123,t124,t125,t126,t127,t128,t129,t130,t131,t132,t133,t134,t135,t136,t137,t138,t139,t140,t141,t142,t143,t144,t145,t146,t147,t148,t149,t150,t151,t152,t153,t154,t155,t156,t157,t158,t159,t160,t161,t162,t163,t164,t165,t166,t167,t168,t169,t170,t171,t172,t173,t174,t175,t176,t177,t178,.bool false,u180,u181],[]⟩ W'):Code.wp prog WX Q' ⟨#[u0,u1,u2,u3,u4,.pointer (Z ⟨lb,0,N⟩),u6,.pointer (Z ⟨bl,0,N⟩),u8,u9,.pointer (Z ⟨bt,0,N⟩),u11,u12,u13,u14,u15,u16,u17,H TA gv.length ka,.bool gs,H TB gv.length kb,.bool gs,u22,u23,u24,u25,u26,u27,u28,u29,u30,u31,u32,u33,u34,u35,u36,u37,u38,u39,u40,u41,u42,u43,u44,u45,u46,u47,u48,u49,u50,u51,u52,u53,u54,u55,u56,u57,u58,u59,u60,u61,u62,u63,u64,u65,u66,u67,u68,u69,u70,u71,u72,u73,u74,u75,u76,u77,u78,u79,u80,u81,u82,u83,u84,u85,u86,u87,u88,u89,u90,u91,u92,u93,u94,u95,u96,u97,u98,u99,u100,u101,u102,u103,u104,u105,u106,u107,u108,u109,u110,u111,u112,u113,u114,u115,u116,u117,u118,u119,u120,u121,u122,u123,u124,u125,u126,u127,u128,u129,u130,u131,u132,u133,u134,u135,u136,u137,u138,u139,u140,u141,u142,u143,u144,u145,u146,u147,u148,u149,u150,u151,u152,u153,u154,u155,u156,u157,u158,u159,u160,u161,u162,u163,u164,u165,u166,u167,u168,u169,u170,u171,u172,u173,u174,u175,u176,u177,u178,u179,u180,u181],[]⟩ W23:=by
 have HSET:=G hset;have HLn:=G hlst;have HXP:=G hxp;have HXB1:=G hxb;have HRA1:=G (And.intro hri True.intro);have HPL1:=G hpl;have HXW1:=G hxw;have HBS:=G hbs;have HBW:=G hbw;have HIA:=G hia;have HIB:=G hib;have HGL:=G hgl;have HT1:=G ht1;have HT2:=G ht2;have HIO:=G hio;have HFW:=U (cK x/\bW c) (⟨hzx,hzc⟩);have HQQ:=G hQ;have HPN:=G hPan;have hxl:=hxp.lt;have hxl2:=hxb.lt;have hs23:=hbs.size;have hRl3:Ln.length<=10:=by rw[<-hpl,iT];exact hRR1
 clear hset hlst hxp hxb hri hpl hxw hbs hbw hia hib hgl ht1 ht2 hio hzx hzc hQ hPan;conv=>arg 2;whnf
 have SH:=G (fun W'(hb':By W23 W')=>show S24 bt bl sid T stx.length tk Q sak.length qk V x c o I1 R1.length ic1 W23 W' from by
  unfold S24
  have hq:=HBS.out.trans (hb'.mono HBS.out.size)
  have q:=HXP.out.below hq hxl
  obtain⟨a0,a1,a2,a3,a4,a5,a6,a7,a8,a9,a10,a11,a12⟩:=(HXB1.out.below hq hxl2).c13
  exact⟨q.c 0 rfl,q.c 1 rfl,q.c 3 rfl,a0,a1,a2,a3,a4,a5,a6,a7,a8,a9,a10,a11,a12,hb'⟩)
 have UP:=G (fun W(hb:By W23 W)=>show By wc W from HBS.out.trans (hb.mono HBS.out.size));have UPW:=G (fun W(hb:By W23 W)=>show By w W from HBW.out.trans (hb.mono HBW.out.size));have KE:=G (fun(zs:Li) A k B m W (ha:aA W A zs) (hb:aA W B zs) (hl:zs.length<=9223372036854775807) (hq:By W23 W)=>(lU A B zs.length zs.length k m zs zs W ha hb rfl rfl hl hl).mono (R':=fun e W'=>e=.returned (.bool true)/\(S24 bt bl sid T stx.length tk Q sak.length qk V x c o I1 R1.length ic1 W23 W')) (fun e W'⟨he,hqt⟩=>⟨by rw[he];simp,SH.out W' (hq.trans (hqt.below.mono hq.size))⟩));have KI:=G (fun W(hS:S24 bt bl sid T stx.length tk Q sak.length qk V x c o I1 R1.length ic1 W23 W)=>(BY (HLn.out.below (UP.out W hS.b))).mono (R':=fun e W'=>∃v,e=.returned v/\(S24 bt bl sid T stx.length tk Q sak.length qk V x c o I1 R1.length ic1 W23 W')/\jL (idsL Ln) v W'/\By W W') (fun e W'⟨A,k,he,ho,hb⟩=>⟨_,he,SH.out W' ((hS.b).trans (hb.mono (hS.b).size)),⟨A,k,rfl,Sl.of_own ho⟩,hb⟩));have KRI:=G (fun W(hS:S24 bt bl sid T stx.length tk Q sak.length qk V x c o I1 R1.length ic1 W23 W)=>(YA (H V.A0 x.cls.length V.k0) (H V.A1 x.dec.length V.k1) (H V.A2 x.exc.length V.k2) (H V.C c.ents.length V.a) (H V.B c.grps.length V.b) (I J c.base) (I J c.second) (I J c.third) (I J o.st) (I J o.va) (.bool o.bk) (.bool o.idn) I1 ic1 R1 W (HRA1.out.1.below (UP.out W hS.b)) (by omega)).mono (R':=fun e W'=>∃v,e=.returned v/\(S24 bt bl sid T stx.length tk Q sak.length qk V x c o I1 R1.length ic1 W23 W')/\jL (idsL (plR R1)) v W'/\By W W') (fun e W'⟨A,k,he,ho,hb⟩=>⟨_,he,SH.out W' ((hS.b).trans (hb.mono (hS.b).size)),⟨A,k,rfl,Sl.of_own ho⟩,hb⟩));have KP:=G (fun W(hS:S24 bt bl sid T stx.length tk Q sak.length qk V x c o I1 R1.length ic1 W23 W)=>(qC (HLn.out.below (UP.out W hS.b)) sid HIO.out).mono (R':=fun e W'=>∃v,e=.returned v/\(S24 bt bl sid T stx.length tk Q sak.length qk V x c o I1 R1.length ic1 W23 W')/\v=I J (posL Ln sid)/\By W W') (fun e W'⟨he,hb⟩=>⟨_,he,SH.out W' ((hS.b).trans (hb.mono (hS.b).size)),rfl,hb⟩));have KRP:=G (fun W(hS:S24 bt bl sid T stx.length tk Q sak.length qk V x c o I1 R1.length ic1 W23 W)=>(YD (H V.A0 x.cls.length V.k0) (H V.A1 x.dec.length V.k1) (H V.A2 x.exc.length V.k2) (H V.C c.ents.length V.a) (H V.B c.grps.length V.b) (I J c.base) (I J c.second) (I J c.third) (I J o.st) (I J o.va) (.bool o.bk) (.bool o.idn) I1 ic1 R1 sid W (HRA1.out.1.below (UP.out W hS.b)) (by omega)).mono (R':=fun e W'=>∃v,e=.returned v/\(S24 bt bl sid T stx.length tk Q sak.length qk V x c o I1 R1.length ic1 W23 W')/\v=I J (posL (plR R1) sid)/\By W W') (fun e W'⟨he,hb⟩=>⟨_,he,SH.out W' ((hS.b).trans (hb.mono (hS.b).size)),rfl,hb⟩));have KL:=G (fun W(hS:S24 bt bl sid T stx.length tk Q sak.length qk V x c o I1 R1.length ic1 W23 W)=>(BZ (HLn.out.below (UP.out W hS.b)) Q qk sak (HT2.out.1.below (UPW.out W hS.b)) (by omega) HT2.out.2.2.2).mono (R':=fun e W'=>∃v,e=.returned v/\(S24 bt bl sid T stx.length tk Q sak.length qk V x c o I1 R1.length ic1 W23 W')/\jL (idsL (lookL (kyN x c o) Ln sak)) v W'/\By W W') (fun e W'⟨A,k,he,ho,hb⟩=>⟨_,he,SH.out W' ((hS.b).trans (hb.mono (hS.b).size)),⟨A,k,rfl,Sl.of_own ho⟩,hb⟩));have KRL:=G (fun W(hS:S24 bt bl sid T stx.length tk Q sak.length qk V x c o I1 R1.length ic1 W23 W)=>(YC V x c o I1 ic1 R1 Q qk sak W (HSET.out.nrm.below (UPW.out W hS.b)) (HSET.out.col.below (UPW.out W hS.b)) HFW.out.1 HFW.out.2 (HRA1.out.1.below (UP.out W hS.b)) (HXW1.out W (UP.out W hS.b)) (by omega) (HT2.out.1.below (UPW.out W hS.b)) (by omega)).mono (R':=fun e W'=>∃v,e=.returned v/\(S24 bt bl sid T stx.length tk Q sak.length qk V x c o I1 R1.length ic1 W23 W')/\jL (idsL (lookL (kyN x c o) (plR R1) sak)) v W'/\By W W') (fun e W'⟨A,k,he,ho,hb⟩=>⟨_,he,SH.out W' ((hS.b).trans (hb.mono (hS.b).size)),⟨A,k,rfl,Sl.of_own ho⟩,hb⟩));have KB:=G (fun W(hS:S24 bt bl sid T stx.length tk Q sak.length qk V x c o I1 R1.length ic1 W23 W)=>(BV (HLn.out.below (UP.out W hS.b)) T tk stx Q qk sak (HT1.out.1.below (UPW.out W hS.b)) (HT2.out.1.below (UPW.out W hS.b)) (by omega) (by omega) HT1.out.2.2.2 HT2.out.2.2.2).mono (R':=fun e W'=>∃v,e=.returned v/\(S24 bt bl sid T stx.length tk Q sak.length qk V x c o I1 R1.length ic1 W23 W')/\jL (idsL (btwL (kyN x c o) Ln stx sak)) v W'/\By W W') (fun e W'⟨A,k,he,ho,_,hb⟩=>⟨_,he,SH.out W' ((hS.b).trans (hb.mono (hS.b).size)),⟨A,k,rfl,ho⟩,hb⟩));have KRB:=G (fun W(hS:S24 bt bl sid T stx.length tk Q sak.length qk V x c o I1 R1.length ic1 W23 W)=>(XZ V x c o I1 ic1 R1 T tk stx Q qk sak W (HSET.out.nrm.below (UPW.out W hS.b)) (HSET.out.col.below (UPW.out W hS.b)) HFW.out.1 HFW.out.2 (HRA1.out.1.below (UP.out W hS.b)) (HXW1.out W (UP.out W hS.b)) (by omega) (HT1.out.1.below (UPW.out W hS.b)) (by omega) (HT2.out.1.below (UPW.out W hS.b)) (by omega)).mono (R':=fun e W'=>∃v,e=.returned v/\(S24 bt bl sid T stx.length tk Q sak.length qk V x c o I1 R1.length ic1 W23 W')/\jL (idsL (btwL (kyN x c o) (plR R1) stx sak)) v W'/\By W W') (fun e W'⟨A,k,he,ho,hb⟩=>⟨_,he,SH.out W' ((hS.b).trans (hb.mono (hS.b).size)),⟨A,k,rfl,Sl.of_own ho⟩,hb⟩));rw[HPL1.out]at KRI KRP KRL KRB;have HN1:=U ((idsL Ln).length<=10) (by rw[idsL_len];exact hRl3);have HN2:=U ((idsL (lookL (kyN x c o) Ln sak)).length<=10) (by rw[idsL_len];exact Nat.le_trans (List.length_filter_le _ _) hRl3);have HN3:=U ((idsL (btwL (kyN x c o) Ln stx sak)).length<=10) (by rw[idsL_len];exact Nat.le_trans (List.length_filter_le _ _) hRl3);generalize idsL (lookL (kyN x c o) Ln sak)=z2 at *;generalize idsL (btwL (kyN x c o) Ln stx sak)=z3 at *;generalize idsL Ln=z1 at *;generalize posL Ln sid=po at *;have dgs:(gs !=gs)=false:=by simp
 have dpo:(po !=po)=false:=by simp
 refine wp_region_held_drew (S:=fun W'=>S24 bt bl sid T stx.length tk Q sak.length qk V x c o I1 R1.length ic1 W23 W') (by kernel_rfl) (SH.out _ ((Below.refl _ _).drew)) (fun hHeld=>?_);refine tP 0 124 HPN.out ?_;refine tP 1 125 HPN.out ?_;refine eR (i:=2) (v:=.bool false) (Z 126) rfl rfl (by kernel_rfl) (by kernel_rfl) (by kernel_rfl) (fun _ _ _ h=>HPN.out _ _ _ _ _ h) (by rfl) (by assumption) ?_ ?_
 ·intro w hSw;unfold S24 at hSw;go_split_ands;go_simp
 try simp only[Act.put,sA,sB,sC]
 refine tP 3 127 HPN.out ?_;refine tP 4 128 HPN.out ?_;refine tP 5 129 HPN.out ?_;refine qK 6 130 (KE.out gv TA ka TB kb _ (HIA.out.below hHeld.b) (HIB.out.below hHeld.b) (by have:=HGL.out;omega) hHeld.b) ?_;clear hHeld;intro W7 hHeld;refine tP 7 131 HPN.out ?_;refine tP 8 132 HPN.out ?_;refine tP 9 133 HPN.out ?_;refine tP 10 134 HPN.out ?_;refine tP 12 136 HPN.out ?_;refine qE 11 135 (KI.out _ hHeld) ?_;clear hHeld;rintro _ W6 hHeld ⟨⟨A1,k1,rfl,hi1⟩,hq1⟩;refine qE 13 137 (KRI.out _ hHeld) ?_;clear hHeld;rintro _ W7 hHeld ⟨⟨A2,k2,rfl,hi2⟩,hq2⟩;replace hi1:=Sl.below hi1 hq2;clear hq1 hq2;refine qK 14 138 (KE.out z1 A1 k1 A2 k2 _ hi1 hi2 (by have:=HN1.out;omega) hHeld.b) ?_;clear hHeld;intro W7 hHeld;clear hi1 hi2;refine tP 15 139 HPN.out ?_;refine tP 16 140 HPN.out ?_;refine tP 17 141 HPN.out ?_;refine tP 18 142 HPN.out ?_;refine tP 19 143 HPN.out ?_;refine tP 20 144 HPN.out ?_;refine tP 22 146 HPN.out ?_;refine tP 23 147 HPN.out ?_;refine tP 24 148 HPN.out ?_;refine qE 21 145 (KP.out _ hHeld) ?_;clear hHeld;rintro _ W6 hHeld ⟨rfl,hq1⟩;refine qE 25 149 (KRP.out _ hHeld) ?_;clear hHeld;rintro _ W7 hHeld ⟨rfl,hq2⟩;clear hq1 hq2;refine eR (i:=26) (v:=.bool false) (Z 150) rfl rfl (by kernel_rfl) (by kernel_rfl) (by kernel_rfl) (fun _ _ _ h=>HPN.out _ _ _ _ _ h) (by rfl) (by assumption) ?_ ?_
 ·intro w hSw;unfold S24 at hSw;go_split_ands;go_simp
 try simp only[Act.put,sA,sB,sC]
 refine tP 27 151 HPN.out ?_;refine tP 28 152 HPN.out ?_;refine tP 29 153 HPN.out ?_;refine tP 30 154 HPN.out ?_;refine tP 31 155 HPN.out ?_;refine tP 33 157 HPN.out ?_;refine tP 34 158 HPN.out ?_;refine tP 35 159 HPN.out ?_;refine qE 32 156 (KL.out _ hHeld) ?_;clear hHeld;rintro _ W6 hHeld ⟨⟨A1,k1,rfl,hi1⟩,hq1⟩;refine qE 36 160 (KRL.out _ hHeld) ?_;clear hHeld;rintro _ W7 hHeld ⟨⟨A2,k2,rfl,hi2⟩,hq2⟩;replace hi1:=Sl.below hi1 hq2;clear hq1 hq2;refine qK 37 161 (KE.out z2 A1 k1 A2 k2 _ hi1 hi2 (by have:=HN2.out;omega) hHeld.b) ?_;clear hHeld;intro W7 hHeld;clear hi1 hi2;refine tP 38 162 HPN.out ?_;refine tP 39 163 HPN.out ?_;refine tP 40 164 HPN.out ?_;refine tP 41 165 HPN.out ?_;refine tP 42 166 HPN.out ?_;refine tP 43 167 HPN.out ?_;refine tP 44 168 HPN.out ?_;refine tP 45 169 HPN.out ?_;refine tP 47 171 HPN.out ?_;refine tP 48 172 HPN.out ?_;refine tP 49 173 HPN.out ?_;refine tP 50 174 HPN.out ?_;refine tP 51 175 HPN.out ?_;refine qE 46 170 (KB.out _ hHeld) ?_;clear hHeld;rintro _ W6 hHeld ⟨⟨A1,k1,rfl,hi1⟩,hq1⟩;refine qE 52 176 (KRB.out _ hHeld) ?_;clear hHeld;rintro _ W7 hHeld ⟨⟨A2,k2,rfl,hi2⟩,hq2⟩;replace hi1:=Sl.below hi1 hq2;clear hq1 hq2;refine qK 53 177 (KE.out z3 A1 k1 A2 k2 _ hi1 hi2 (by have:=HN3.out;omega) hHeld.b) ?_;clear hHeld;intro W7 hHeld;clear hi1 hi2;refine tP 54 178 HPN.out ?_;refine tP 55 179 HPN.out ?_;refine wpAnyH_done (by kernel_rfl) ?_ _;have hfin:=hHeld.b;clear hHeld SH KI KRI KP KRP KL KRL KB KRB KE;exact HQQ.out _ _ _ _ _ _ _ _ _ _ _ _ _ _ _ _ _ _ _ _ _ _ _ _ _ _ _ _ _ _ _ _ _ _ _ _ _ _ _ _ _ _ _ _ _ _ _ _ _ _ _ _ _ _ _ _ hfin
end
end Go.Proofs.YtpfbnikbebccjaaGreatDoor
