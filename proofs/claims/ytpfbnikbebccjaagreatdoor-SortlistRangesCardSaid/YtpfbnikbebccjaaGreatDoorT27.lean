import Derived.Test.YtpfbnikbebccjaaGreatDoorT00
import Derived.Test.YtpfbnikbebccjaaGreatDoorT09
import Derived.Test.YtpfbnikbebccjaaGreatDoorT26
set_option maxRecDepth 100000
set_option maxHeartbeats 51200000
namespace Go.Proofs.YtpfbnikbebccjaaGreatDoor
open Option renaming none→N,some→Z
open Value renaming int→I,slice→H
open IntKind renaming i64→J
open Go.Proofs.Tryz
section
open Go.RowKit Go.Maps Go.WideMaps Srl
theorem zB(id:Int)(w:World):Calls prog 22 #[.pointer N,I J id] w (fun e w'=>e=.returned (I J (-1))∧w=w'):=by
 go_enter func22,ntmps22;go_wp2_with fail;go_ret;exact⟨rfl,rfl⟩
theorem SD(id:Int)(A:Option Addr)(n k:Nat)(w:World):Calls prog 16 #[.pointer N,I J id,H A n k] w (fun e w'=>e=.returned (.tuple #[I J 0,I J 16])∧w=w'):=by
 go_enter func16,ntmps16;go_wp2_with fail;go_ret2;exact⟨rfl,rfl⟩
theorem SF(id:Int)(w:World):Calls prog 14 #[.pointer N,I J id] w (fun e w'=>e=.returned (.bool false)∧w=w'):=by
 have PC:=G (fun W=>zB id W);go_enter func14,ntmps14;go_wp2_with fail;with_reducible refine(PC.out _).mono ?_
 rintro e W1 ⟨rfl,rfl⟩;go_wp2_with fail;go_ret;exact⟨rfl,rfl⟩
def eG:Col:=⟨[⟨[97],[⟨5,32,2,false⟩]⟩,⟨[98],[⟨6,32,2,false⟩]⟩],[],64448,32,2⟩
theorem QA:cR eG:=by
 refine⟨fun i hi=>?_,by simp[eG],by simp[eG]⟩;have:i=0∨i=1:=by simp[eG]at hi;omega
 rcases this with rfl|rfl<;>simp[eG]
theorem VY{fn:Func}{k:Nat}(hr:fn.results=#[.cell k 32])(tmps:Array Value)(w:World){b:Nat}{v0 v1 v2 v3 v4:Value}(ha:tmps.getD k undef=.pointer (Z ⟨b,0,N⟩))
  (c0:w.cell? ⟨b,0,N⟩=Z v0) (c1:w.cell? ⟨b,1,N⟩=Z v1) (c2:w.cell? ⟨b,2,N⟩=Z v2) (c3:w.cell? ⟨b,3,N⟩=Z v3) (c4:w.cell? ⟨b,4,N⟩=Z v4) :
  (results fn tmps).run prog w=.ok (.agg #[v0,v1,v2,v3,v4]) w:=by
 unfold results;rw[hr];simp only[ha,List.mapM_toArray,List.mapM_cons,List.mapM_nil,asAddr];go_simp
theorem nP{q:Nat}{cs:List Value}{W:World}(h:Sl W (Z ⟨q,0,N⟩) cs)(p:Addr)(hp:p.block≠q)(v:Value):Sl (W.setCell p v) (Z ⟨q,0,N⟩) cs:=
 Sl.stored h p (fun _ q' hq=>by have:=Option.some.inj (show Z q=Z q' from hq);omega) v
theorem yI(W:World)(z p:Int):aA (((W.alloc (.cells #[I J z] 3)).alloc (.cells #[I J p,I J 32,I J 2,.bool false] 106)).alloc (.cells #[H (Z ⟨W.heap.size,0,N⟩) 1 1,H (Z ⟨W.heap.size+1,0,N⟩) 1 1] 109)) (Z ⟨W.heap.size,0,N⟩) [z]∧cD (((W.alloc (.cells #[I J z] 3)).alloc (.cells #[I J p,I J 32,I J 2,.bool false] 106)).alloc (.cells #[H (Z ⟨W.heap.size,0,N⟩) 1 1,H (Z ⟨W.heap.size+1,0,N⟩) 1 1] 109)) (Z ⟨W.heap.size+1,0,N⟩) [⟨p,32,2,false⟩]∧Box (((W.alloc (.cells #[I J z] 3)).alloc (.cells #[I J p,I J 32,I J 2,.bool false] 106)).alloc (.cells #[H (Z ⟨W.heap.size,0,N⟩) 1 1,H (Z ⟨W.heap.size+1,0,N⟩) 1 1] 109)) (W.heap.size+1+1) 109 [H (Z ⟨W.heap.size,0,N⟩) 1 1,H (Z ⟨W.heap.size+1,0,N⟩) 1 1]∧Below W.heap.size W (((W.alloc (.cells #[I J z] 3)).alloc (.cells #[I J p,I J 32,I J 2,.bool false] 106)).alloc (.cells #[H (Z ⟨W.heap.size,0,N⟩) 1 1,H (Z ⟨W.heap.size+1,0,N⟩) 1 1] 109)):=by
 have al:∀(W:World)(o:Obj),Below W.heap.size W (W.alloc o):=fun W o=>ba _ _
 have a1:aA (W.alloc (.cells #[I J z] 3)) (Z ⟨W.heap.size,0,N⟩) [z]:=bW W [z] 3 rfl;have a2:cD ((W.alloc (.cells #[I J z] 3)).alloc (.cells #[I J p,I J 32,I J 2,.bool false] 106)) (Z ⟨W.heap.size+1,0,N⟩) [⟨p,32,2,false⟩]:=cK (W.alloc (.cells #[I J z] 3)) [I J p,I J 32,I J 2,.bool false] 106 (by simp);exact⟨(a1.below (al _ _)).below (al _ _),a2.below (al _ _),Box.new _ _ _ (by simp),((al W _).alloc (by simp) _).alloc (by simp<;>omega) _⟩
theorem QC(w:World):Calls prog 32 #[] w (nT eG w):=by
 have B1:Below w.heap.size w (w.alloc (.cells #[H N 0 0,H N 0 0,I J 0,I J 0,I J 0] 32)):=ba _ _;have X1:Box (w.alloc (.cells #[H N 0 0,H N 0 0,I J 0,I J 0,I J 0] 32)) w.heap.size 32 [H N 0 0,H N 0 0,I J 0,I J 0,I J 0]:=Box.new w 32 [H N 0 0,H N 0 0,I J 0,I J 0,I J 0] rfl;have W1E:∃W1,(w.alloc (.cells #[H N 0 0,H N 0 0,I J 0,I J 0,I J 0] 32))=W1:=⟨_,rfl⟩;go_enter func32,ntmps32;go_upto_region 1 with(fail)
 obtain⟨W1,hW1⟩:=W1E;try rw[hW1]at B1 X1⊢
 clear hW1;have lx:=X1.lt;obtain⟨a1,a2,XA,b4⟩:=yI W1 97 5;have W4E:∃W4,(((W1.alloc (.cells #[I J 97] 3)).alloc (.cells #[I J 5,I J 32,I J 2,.bool false] 106)).alloc (.cells #[H (Z ⟨W1.heap.size,0,N⟩) 1 1,H (Z ⟨W1.heap.size+1,0,N⟩) 1 1] 109))=W4:=⟨_,rfl⟩;go_upto_region 2 with(fail)
 obtain⟨W4,hW4⟩:=W4E;try rw[hW4]at a1 a2 XA b4⊢
 clear hW4;have lA:=XA.lt;have B4:=B1.trans (b4.mono B1.size);have X4:=X1.below b4 lx;obtain⟨a3,a4,XB,b7⟩:=yI W4 98 6;have W7E:∃W7,(((W4.alloc (.cells #[I J 98] 3)).alloc (.cells #[I J 6,I J 32,I J 2,.bool false] 106)).alloc (.cells #[H (Z ⟨W4.heap.size,0,N⟩) 1 1,H (Z ⟨W4.heap.size+1,0,N⟩) 1 1] 109))=W7:=⟨_,rfl⟩;go_upto_region 3 with(fail)
 obtain⟨W7,hW7⟩:=W7E;try rw[hW7]at a3 a4 XB b7⊢
 clear hW7;have B7:=B4.trans (b7.mono B4.size);have X7:=X4.below b7 X4.lt;have XA7:=XA.below b7 lA;have a1':=a1.below b7;have a2':=a2.below b7;have d0:=XA7.cell (i:=0) rfl;have d1:=XA7.cell (i:=1) rfl;have e0:=XB.cell (i:=0) rfl;have e1:=XB.cell (i:=1) rfl;have l7:=X7.lt;have h14:W1.heap.size+1+1<W4.heap.size:=lA;have h47:W4.heap.size+1+1<W7.heap.size:=XB.lt;have al:∀(W:World)(o:Obj),Below W.heap.size W (W.alloc o):=fun W o=>ba _ _
 have f0:=X7.free 0;have f1:=X7.free 1;have f2:=X7.free 2;have f3:=X7.free 3;have f4:=X7.free 4;have g0:=X7.cell (i:=0) rfl;have g1:=X7.cell (i:=1) rfl;have g2:=X7.cell (i:=2) rfl;have g3:=X7.cell (i:=3) rfl;have g4:=X7.cell (i:=4) rfl;have hx:w.heap.size<W1.heap.size:=lx;have st:∀{q:Nat}{cs:List Value},Sl W7 (Z ⟨q,0,N⟩) cs→w.heap.size≠q→Sl ((((((W7.setCell ⟨w.heap.size,0,N⟩ (H (Z ⟨W7.heap.size,0,N⟩) 2 2)).setCell ⟨w.heap.size,1,N⟩ (H N 0 0)).setCell ⟨w.heap.size,2,N⟩ (I J 64448)).setCell ⟨w.heap.size,3,N⟩ (I J 32)).setCell ⟨w.heap.size,4,N⟩ (I J 2)).alloc (.cells #[H (Z ⟨W1.heap.size,0,N⟩) 1 1,H (Z ⟨W1.heap.size+1,0,N⟩) 1 1,H (Z ⟨W4.heap.size,0,N⟩) 1 1,H (Z ⟨W4.heap.size+1,0,N⟩) 1 1] 109)) (Z ⟨q,0,N⟩) cs:=fun h hq=>(nP (nP (nP (nP (nP h ⟨w.heap.size,0,N⟩ hq _) ⟨w.heap.size,1,N⟩ hq _) ⟨w.heap.size,2,N⟩ hq _) ⟨w.heap.size,3,N⟩ hq _) ⟨w.heap.size,4,N⟩ hq _).below (al _ _)
 have r1:=st a1' (by omega);have r2:=st a2' (by omega);have r3:=st a3 (by omega);have r4:=st a4 (by omega);have r7:Sl ((((((W7.setCell ⟨w.heap.size,0,N⟩ (H (Z ⟨W7.heap.size,0,N⟩) 2 2)).setCell ⟨w.heap.size,1,N⟩ (H N 0 0)).setCell ⟨w.heap.size,2,N⟩ (I J 64448)).setCell ⟨w.heap.size,3,N⟩ (I J 32)).setCell ⟨w.heap.size,4,N⟩ (I J 2)).alloc (.cells #[H (Z ⟨W1.heap.size,0,N⟩) 1 1,H (Z ⟨W1.heap.size+1,0,N⟩) 1 1,H (Z ⟨W4.heap.size,0,N⟩) 1 1,H (Z ⟨W4.heap.size+1,0,N⟩) 1 1] 109)) (Z ⟨W7.heap.size,0,N⟩) [H (Z ⟨W1.heap.size,0,N⟩) 1 1,H (Z ⟨W1.heap.size+1,0,N⟩) 1 1,H (Z ⟨W4.heap.size,0,N⟩) 1 1,H (Z ⟨W4.heap.size+1,0,N⟩) 1 1]:=cK (((((W7.setCell ⟨w.heap.size,0,N⟩ (H (Z ⟨W7.heap.size,0,N⟩) 2 2)).setCell ⟨w.heap.size,1,N⟩ (H N 0 0)).setCell ⟨w.heap.size,2,N⟩ (I J 64448)).setCell ⟨w.heap.size,3,N⟩ (I J 32)).setCell ⟨w.heap.size,4,N⟩ (I J 2)) [H (Z ⟨W1.heap.size,0,N⟩) 1 1,H (Z ⟨W1.heap.size+1,0,N⟩) 1 1,H (Z ⟨W4.heap.size,0,N⟩) 1 1,H (Z ⟨W4.heap.size+1,0,N⟩) 1 1] 109 (by simp);have ZF:Box ((((((W7.setCell ⟨w.heap.size,0,N⟩ (H (Z ⟨W7.heap.size,0,N⟩) 2 2)).setCell ⟨w.heap.size,1,N⟩ (H N 0 0)).setCell ⟨w.heap.size,2,N⟩ (I J 64448)).setCell ⟨w.heap.size,3,N⟩ (I J 32)).setCell ⟨w.heap.size,4,N⟩ (I J 2)).alloc (.cells #[H (Z ⟨W1.heap.size,0,N⟩) 1 1,H (Z ⟨W1.heap.size+1,0,N⟩) 1 1,H (Z ⟨W4.heap.size,0,N⟩) 1 1,H (Z ⟨W4.heap.size+1,0,N⟩) 1 1] 109)) w.heap.size 32 [(H (Z ⟨W7.heap.size,0,N⟩) 2 2),H N 0 0,I J 64448,I J 32,I J 2]:=aU (((((X7.set 0 (H (Z ⟨W7.heap.size,0,N⟩) 2 2)).set 1 (H N 0 0)).set 2 (I J 64448)).set 3 (I J 32)).set 4 (I J 2)) _;have BF:Below w.heap.size w ((((((W7.setCell ⟨w.heap.size,0,N⟩ (H (Z ⟨W7.heap.size,0,N⟩) 2 2)).setCell ⟨w.heap.size,1,N⟩ (H N 0 0)).setCell ⟨w.heap.size,2,N⟩ (I J 64448)).setCell ⟨w.heap.size,3,N⟩ (I J 32)).setCell ⟨w.heap.size,4,N⟩ (I J 2)).alloc (.cells #[H (Z ⟨W1.heap.size,0,N⟩) 1 1,H (Z ⟨W1.heap.size+1,0,N⟩) 1 1,H (Z ⟨W4.heap.size,0,N⟩) 1 1,H (Z ⟨W4.heap.size+1,0,N⟩) 1 1] 109)):=(((((B7.setCell (Nat.le_refl _) _).setCell (Nat.le_refl _) _).setCell (Nat.le_refl _) _).setCell (Nat.le_refl _) _).setCell (Nat.le_refl _) _).alloc (by simp;omega) _;have WFE:∃Wf,((((((W7.setCell ⟨w.heap.size,0,N⟩ (H (Z ⟨W7.heap.size,0,N⟩) 2 2)).setCell ⟨w.heap.size,1,N⟩ (H N 0 0)).setCell ⟨w.heap.size,2,N⟩ (I J 64448)).setCell ⟨w.heap.size,3,N⟩ (I J 32)).setCell ⟨w.heap.size,4,N⟩ (I J 2)).alloc (.cells #[H (Z ⟨W1.heap.size,0,N⟩) 1 1,H (Z ⟨W1.heap.size+1,0,N⟩) 1 1,H (Z ⟨W4.heap.size,0,N⟩) 1 1,H (Z ⟨W4.heap.size+1,0,N⟩) 1 1] 109))=Wf:=⟨_,rfl⟩;have HX:=G ZF;have R1:=G r1;have R2:=G r2;have R3:=G r3;have R4:=G r4;have R7:=G r7;have HBF:=G BF;clear r1 r2 r3 r4 r7 BF;clear h14 h47 hx lx lA al st a1 a2 a3 a4 a1' a2' ZF X7 XA7 XA XB X4 X1 B1 B4 B7 b4 b7;go_wp2_with fail;obtain⟨Wf,hWf⟩:=WFE;try rw[hWf]at R1 R2 R3 R4 R7 HX HBF⊢
 clear hWf;(try simp only[Exit.inBlock,Exit.then]);refine bodyPost_ret (VY (k:=0) rfl _ _ (b:=w.heap.size) rfl (HX.out.cell (i:=0) rfl) (HX.out.cell (i:=1) rfl) (HX.out.cell (i:=2) rfl) (HX.out.cell (i:=3) rfl) (HX.out.cell (i:=4) rfl)) rfl ?_;refine⟨_,2,N,0,rfl,⟨⟨[(H (Z ⟨W1.heap.size,0,N⟩) 1 1,H (Z ⟨W1.heap.size+1,0,N⟩) 1 1),(H (Z ⟨W4.heap.size,0,N⟩) 1 1,H (Z ⟨W4.heap.size+1,0,N⟩) 1 1)],rfl,R7.out,fun i hi hv=>?_⟩,Sl.nil _ _,rfl,rfl,fun g hg=>by cases hg⟩,HBF.out⟩;have hi2:i=0∨i=1:=by simp[eG]at hi;omega
 rcases hi2 with rfl|rfl
 ·exact⟨_,_,_,_,rfl,R1.out,R2.out⟩
 exact⟨_,_,_,_,rfl,R3.out,R4.out⟩
abbrev gS:Nrm:=⟨[],[],[]⟩
abbrev lP:Opt:=⟨3,1,false,false⟩
abbrev kyA:=kyN gS eG lP
theorem SA:dN gS:=⟨by simp,⟨by simp,fun i hi=>absurd hi (Nat.not_lt_zero _)⟩,by simp⟩
theorem GA:bR gS eG lP=0:=by decide +kernel
theorem vA:bR gS eG ⟨0,0,false,false⟩=1:=by decide +kernel
theorem vC:putL kyA [] 5 [98]=[(5,[98])]∧atL kyA [] 5 [98]=0∧remL [] 5=[]:=by decide +kernel
theorem vD:putL kyA [(5,[98])] 7 [97]=[(7,[97]),(5,[98])]∧atL kyA [(5,[98])] 7 [97]=0:=by decide +kernel
theorem GB:putL kyA [(7,[97]),(5,[98])] 6 [98]=[(7,[97]),(5,[98]),(6,[98])]:=by decide +kernel
theorem vB:lookL kyA [(7,[97]),(5,[98]),(6,[98])] [98]=[(5,[98]),(6,[98])]∧btwL kyA [(7,[97]),(5,[98]),(6,[98])] [97] [98]=[(7,[97])]:=by decide +kernel
theorem vE:remL [(7,[97]),(5,[98]),(6,[98])] 6=[(7,[97]),(5,[98])]∧remL [(7,[97]),(5,[98])] 6=[(7,[97]),(5,[98])]:=by decide +kernel
theorem QB(w:World):Calls prog 32 #[] w (fun e w'=>∃A a B b,e=.returned (.agg #[H A 2 a,H B 0 b,I J 64448,I J 32,I J 2])∧aZ w' A 2 B 0 eG∧Below w.heap.size w w'):=QC w
theorem y_(A:Option Addr)(a:Nat)(B:Option Addr)(b:Nat)(o:Opt)(w:World)(hC:aZ w A 2 B 0 eG)(hL:cT w):
  Calls prog 11 #[.agg #[H N 0 0,H N 0 0,H N 0 0],.agg #[H A 2 a,H B 0 b,I J 64448,I J 32,I J 2],.agg #[I J o.st,I J o.va,.bool o.bk,.bool o.idn]] w (nW gS eG o w):=
 zA N 0 N 0 N 0 gS A a B b eG o w (bE.empty w) SA hC QA hL
theorem RZ(A:Option Addr)(a:Nat)(B:Option Addr)(b:Nat)(s:Int)(w:World)(hs:bR gS eG ⟨s,1,false,false⟩=0)(hC:aZ w A 2 B 0 eG)(hL:cT w):
  Calls prog 11 #[.agg #[H N 0 0,H N 0 0,H N 0 0],.agg #[H A 2 a,H B 0 b,I J 64448,I J 32,I J 2],.agg #[I J s,I J 1,.bool false,.bool false]] w
   (fun e w'=>∃l V mb,e=.returned (.tuple #[.pointer (Z ⟨l,0,N⟩),I J 0])∧Lst w' l w.heap.size V mb N 0 0 gS eG ⟨s,1,false,false⟩ (fun _=>N) []∧Below w.heap.size w w'):=by
 refine(y_ A a B b ⟨s,1,false,false⟩ w hC hL).mono ?_;rintro e w' ⟨hb,⟨h,_⟩|⟨_,l,V,mb,he,hl⟩⟩
 ·exact absurd hs h
 exact⟨l,V,mb,he,hl,hb⟩
theorem RY(A:Option Addr)(a:Nat)(B:Option Addr)(b:Nat)(w:World)(hC:aZ w A 2 B 0 eG)(hL:cT w):
  Calls prog 11 #[.agg #[H N 0 0,H N 0 0,H N 0 0],.agg #[H A 2 a,H B 0 b,I J 64448,I J 32,I J 2],.agg #[I J 0,I J 0,.bool false,.bool false]] w
   (fun e w'=>e=.returned (.tuple #[.pointer N,I J 1])∧Below w.heap.size w w'):=by
 refine(y_ A a B b ⟨0,0,false,false⟩ w hC hL).mono ?_;rintro e w' ⟨hb,⟨_,he⟩|⟨h,_⟩⟩
 ·rw[vA]at he
  exact⟨he,hb⟩
 rw[vA]at h;cases h
theorem ApI.below{S:Nat→Prop}{w w':World}{A:Option Addr}{zs:List Int}(h:ApI S w A zs)(hb:Below w.heap.size w w'):ApI S w' A zs:=⟨h.1.below hb,h.2⟩
section
variable {w w':World}{l bs:Nat}{V:LsV}{mb:Nat}{O:Option Addr}{oc cnt:Nat}{x:Nrm}{c:Col}{o:Opt}{f:Int→Option Value}{L:Its}
theorem Lst.lf_lt(h:Lst w l bs V mb O oc cnt x c o f L){k:Nat}(hk:Lf l mb O k):k<w.heap.size:=by
 rcases hk with rfl|rfl|e
 ·exact h.box.lt
 ·exact h.map.lt
 exact(dO h.row e).2
theorem Lst.fresh(h:Lst w l bs V mb O oc cnt x c o f L){A:Option Addr}{t:List Int}(hI:aA w' A t)(hf:∀q,blk A=Z q→w.heap.size≤q):ApI (Lf l mb O) w' A t:=
 ⟨hI,fun _ q hq hS=>by have:=h.lf_lt hS;have:=hf q hq;omega⟩
theorem Lst.row1(h:Lst w l bs V mb O oc cnt x c o f L)(z:Int):ApI (Lf l mb O) (w.alloc (.cells #[I J z] 3)) (Z ⟨w.heap.size,0,N⟩) [z]:=
 h.fresh (bW w [z] 3 rfl) (fun q hq=>by have:=Option.some.inj (show Z w.heap.size=Z q from hq);omega)
theorem Lst.al(h:Lst w l bs V mb O oc cnt x c o f L)(z:Int):Lst (w.alloc (.cells #[I J z] 3)) l bs V mb O oc cnt x c o f L:=h.below (ba _ _)
end
theorem lH{l mb:Nat}{O:Option Addr}{n bs:Nat}{w0 w w':World}(hb:Below n w0 w)(hs:n≤w.heap.size)(hc:Chg (Lf l mb O) w w')(hn:n≤bs)(hl:∀k,Lf l mb O k→bs≤k):Below n w0 w':=
 hb.trans (hc.below hs (fun k hk=>Nat.le_trans hn (hl k hk)))
theorem rK(w:World)(hL:cT w):Calls prog 10 #[] w (lC w):=by
 have HLd:=G (fun W(hb:Below w.heap.size w W)=>hL.below hb);have LT:=G (fun W=>QB W);have NO:=G (fun A a B b W=>RZ A a B b 3 W GA);have NB:=G (fun A a B b W=>RY A a B b W);clear hL;go_enter func10,ntmps10;go_wp2_with fail;with_reducible refine(LT.out w).mono ?_
 rintro e W1 ⟨A,a,B,b,rfl,hC,hb1⟩;have C1:=G (NO.out A a B b W1 hC (HLd.out W1 hb1));clear NO hC;go_wp2_with fail;with_reducible refine C1.out.mono ?_
 rintro e W2 ⟨l,V,mb,rfl,hl2,hb2⟩;have H2:=G hl2;have hbs:w.heap.size≤W1.heap.size:=hb1.size;have B2:=hb1.trans (hb2.mono hb1.size);clear C1 hl2 hb1 hb2;go_wp2_with fail;with_reducible refine(LT.out W2).mono ?_
 rintro e W3 ⟨A',a',B',b',rfl,hC,hb3⟩;have H3:=G (H2.out.below hb3);have B3:=B2.trans (hb3.mono B2.size);have C2:=G (NB.out A' a' B' b' W3 hC (HLd.out W3 B3));clear NB LT hC H2 B2 hb3;go_wp2_with fail;with_reducible refine C2.out.mono ?_
 rintro e W4 ⟨rfl,hb4⟩;have HH:=G (H3.out.below hb4);have BB:=B3.trans (hb4.mono B3.size);have HLF:=G HH.out.lf;clear C2 H3 B3 hb4 HLd;have PC:=G (qJ (HH.out.al 98) 5 (by rfl) (Z ⟨W4.heap.size,0,N⟩) 1 [98] (HH.out.row1 98) (by simp) (fun z hz=>by simp at hz;subst hz;rfl) (by decide) (by unfold maxLen;omega));rw[show kyN gS eG lP=kyA from rfl,vC.1,vC.2.1]at PC;unfold iJ at PC;dsimp only[List.length_cons,List.length_nil,Nat.reduceAdd]at PC;have ba:=BB.alloc BB.size (.cells #[I J 98] 3);have bn:Below W4.heap.size W4 (W4.alloc (.cells #[I J 98] 3)):=(Below.refl _ _).alloc (Nat.le_refl _) _;clear BB HH;go_wp2_with fail;with_reducible refine PC.out.mono ?_
 rintro e W5 ⟨rfl,OW5,ocW5,fW5,hl,hc,hO⟩;have HH:=G hl;have BB:=lH ba ba.size hc hbs HLF.out;clear HLF;have HLF:=G hl.lf;clear PC hl hc hO ba bn;have PC:=G (qJ (HH.out.al 97) 7 (by rfl) (Z ⟨W5.heap.size,0,N⟩) 1 [97] (HH.out.row1 97) (by simp) (fun z hz=>by simp at hz;subst hz;rfl) (by decide) (by unfold maxLen;omega));rw[show kyN gS eG lP=kyA from rfl,vD.1,vD.2]at PC;unfold iJ at PC;dsimp only[List.length_cons,List.length_nil,Nat.reduceAdd]at PC;have ba:=BB.alloc BB.size (.cells #[I J 97] 3);have bn:Below W5.heap.size W5 (W5.alloc (.cells #[I J 97] 3)):=(Below.refl _ _).alloc (Nat.le_refl _) _;clear BB HH;go_wp2_with fail;with_reducible refine PC.out.mono ?_
 rintro e W6 ⟨rfl,OW6,ocW6,fW6,hl,hc,hO⟩;have HH:=G hl;have BB:=lH ba ba.size hc hbs HLF.out;clear HLF;have HLF:=G hl.lf;clear PC hl hc hO ba bn;have PC:=G (qJ (HH.out.al 98) 6 (by rfl) (Z ⟨W6.heap.size,0,N⟩) 1 [98] (HH.out.row1 98) (by simp) (fun z hz=>by simp at hz;subst hz;rfl) (by decide) (by unfold maxLen;omega));rw[show kyN gS eG lP=kyA from rfl,GB]at PC;unfold iJ at PC;dsimp only[List.length_cons,List.length_nil,Nat.reduceAdd]at PC;have ba:=BB.alloc BB.size (.cells #[I J 98] 3);have bn:Below W6.heap.size W6 (W6.alloc (.cells #[I J 98] 3)):=(Below.refl _ _).alloc (Nat.le_refl _) _;clear BB HH;go_wp2_with fail;with_reducible refine PC.out.mono ?_
 rintro e W7 ⟨rfl,OW7,ocW7,fW7,hl,hc,hO⟩;have HH:=G hl;have BB:=lH ba ba.size hc hbs HLF.out;clear HLF;have HLF:=G hl.lf;clear PC hl hc hO ba bn;have PC:=G (nL HH.out 7 (by rfl));unfold k_ at PC;rw[show getL [(7,[97]),(5,[98]),(6,[98])] 7=Z [97]from rfl]at PC;try dsimp only[List.length_cons,List.length_nil,Nat.reduceAdd,Option.getD_some,Option.isSome_some]at PC
 go_wp2_with fail;with_reducible refine PC.out.mono ?_
 rintro e W9 ⟨AT,kt,rfl,hT,hf,hbq⟩;have PT:=HH.out.fresh hT hf;clear hT hf;have HN:=G (HH.out.below hbq);have BN:=BB.trans (hbq.mono BB.size);clear HH BB PC;have HH:=HN;have BB:=BN;clear HN BN hbq;have PC:=G (qG HH.out);unfold bF at PC;rw[show idsL [(7,[97]),(5,[98]),(6,[98])]=[7,5,6]from rfl]at PC;try dsimp only[List.length_cons,List.length_nil,Nat.reduceAdd,Option.getD_some,Option.isSome_some]at PC
 go_wp2_with fail;with_reducible refine PC.out.mono ?_
 rintro e W10 ⟨AI,ki,rfl,hT,hbq⟩;have PI:=HH.out.fresh (Sl.of_own hT:aA _ AI [7,5,6]) (fun q hq=>(dO hT hq).1);clear hT;have NPT:=PT.below hbq;clear PT;have PT:=NPT;clear NPT;have HN:=G (HH.out.below hbq);have BN:=BB.trans (hbq.mono BB.size);clear HH BB PC;have HH:=HN;have BB:=BN;clear HN BN hbq;have PC:=G (qI HH.out 5 (by rfl));unfold cJ at PC;rw[show posL [(7,[97]),(5,[98]),(6,[98])] 5=1 from rfl]at PC;try dsimp only[List.length_cons,List.length_nil,Nat.reduceAdd,Option.getD_some,Option.isSome_some]at PC
 go_wp2_with fail;with_reducible refine PC.out.mono ?_
 rintro e W11 ⟨rfl,hbq⟩;have NPT:=PT.below hbq;clear PT;have PT:=NPT;clear NPT;have NPI:=PI.below hbq;clear PI;have PI:=NPI;clear NPI;have HN:=G (HH.out.below hbq);have BN:=BB.trans (hbq.mono BB.size);clear HH BB PC;have HH:=HN;have BB:=BN;clear HN BN hbq;have hbr:Below W11.heap.size W11 (W11.alloc (.cells #[I J 98] 3)):=(Below.refl _ _).alloc (Nat.le_refl _) _;have PC:=G (BQ (HH.out.al 98) (Z ⟨W11.heap.size,0,N⟩) 1 [98] (HH.out.row1 98).1 (by simp) (fun z hz=>by simp at hz;subst hz;rfl));unfold bF at PC;rw[show kyN gS eG lP=kyA from rfl,vB.1,show idsL [((5:Int),[(98:Int)]),(6,[98])]=[5,6]from rfl]at PC;try dsimp only[List.length_cons,List.length_nil,Nat.reduceAdd,Option.getD_some,Option.isSome_some]at PC
 go_wp2_with fail;with_reducible refine PC.out.mono ?_
 rintro e W12 ⟨AS,ks,rfl,hT,hbw⟩;have PS:=(HH.out.al 98).fresh (Sl.of_own hT:aA _ AS [5,6]) (fun q hq=>(dO hT hq).1);have hbq:=hbr.trans (hbw.mono hbr.size);clear hT hbw hbr;have NPT:=PT.below hbq;clear PT;have PT:=NPT;clear NPT;have NPI:=PI.below hbq;clear PI;have PI:=NPI;clear NPI;have HN:=G (HH.out.below hbq);have BN:=BB.trans (hbq.mono BB.size);clear HH BB PC;have HH:=HN;have BB:=BN;clear HN BN hbq;have hbr:Below W12.heap.size W12 ((W12.alloc (.cells #[I J 97] 3)).alloc (.cells #[I J 98] 3)):=((Below.refl _ _).alloc (Nat.le_refl _) _).alloc (by simp) _;have PC:=G (qF ((HH.out.al 97).al 98) (Z ⟨W12.heap.size,0,N⟩) 1 [97] (Z ⟨(W12.alloc (.cells #[I J 97] 3)).heap.size,0,N⟩) 1 [98] ((HH.out.row1 97).1.below ((Below.refl _ _).alloc (Nat.le_refl _) _)) ((HH.out.al 97).row1 98).1 (by simp) (by simp) (fun z hz=>by simp at hz;subst hz;rfl) (fun z hz=>by simp at hz;subst hz;rfl));rw[show kyN gS eG lP=kyA from rfl,vB.2,show idsL [((7:Int),[(97:Int)])]=[7]from rfl]at PC;rw[show(W12.alloc (.cells #[I J 97] 3)).heap.size=W12.heap.size+1 by simp]at PC;try dsimp only[List.length_cons,List.length_nil,Nat.reduceAdd,Option.getD_some,Option.isSome_some]at PC
 go_wp2_with fail;with_reducible refine PC.out.mono ?_
 rintro e W13 ⟨AB,kb,rfl,hT,hf,hbw⟩;have PB:=((HH.out.al 97).al 98).fresh hT hf;have hbq:=hbr.trans (hbw.mono hbr.size);clear hT hf hbw hbr;have NPT:=PT.below hbq;clear PT;have PT:=NPT;clear NPT;have NPI:=PI.below hbq;clear PI;have PI:=NPI;clear NPI;have NPS:=PS.below hbq;clear PS;have PS:=NPS;clear NPS;have HN:=G (HH.out.below hbq);have BN:=BB.trans (hbq.mono BB.size);clear HH BB PC;have HH:=HN;have BB:=BN;clear HN BN hbq;have PC:=G (nO HH.out 6 (by rfl));rw[show decide ((6:Int)∈idsL [(7,[97]),(5,[98]),(6,[98])])=true by decide,vE.1]at PC;unfold iJ at PC;go_wp2_with fail;with_reducible refine PC.out.mono ?_
 rintro e W14 ⟨rfl,OW14,ocW14,fW14,hl,hc,hO⟩;have NPT:=PT.to hc (gK hO);clear PT;have PT:=NPT;clear NPT;have NPI:=PI.to hc (gK hO);clear PI;have PI:=NPI;clear NPI;have NPS:=PS.to hc (gK hO);clear PS;have PS:=NPS;clear NPS;have NPB:=PB.to hc (gK hO);clear PB;have PB:=NPB;clear NPB;have BN:=lH BB BB.size hc hbs HLF.out;clear HLF BB HH PC;have HH:=G hl;have HLF:=G hl.lf;have BB:=BN;clear BN hl hc hO;have PC:=G (nO HH.out 6 (by rfl));rw[show decide ((6:Int)∈idsL [(7,[97]),(5,[98])])=false by decide,vE.2]at PC;unfold iJ at PC;go_wp2_with fail;with_reducible refine PC.out.mono ?_
 rintro e W15 ⟨rfl,OW15,ocW15,fW15,hl,hc,hO⟩;have NPT:=PT.to hc (gK hO);clear PT;have PT:=NPT;clear NPT;have NPI:=PI.to hc (gK hO);clear PI;have PI:=NPI;clear NPI;have NPS:=PS.to hc (gK hO);clear PS;have PS:=NPS;clear NPS;have NPB:=PB.to hc (gK hO);clear PB;have PB:=NPB;clear NPB;have BN:=lH BB BB.size hc hbs HLF.out;clear HLF BB HH PC;have HH:=G hl;have HLF:=G hl.lf;have BB:=BN;clear BN hl hc hO;have PC:=G (fun W=>SD 1 N 0 0 W);go_wp2_with fail;with_reducible refine(PC.out _).mono ?_
 rintro e Wz ⟨rfl,rfl⟩;clear PC;have hbr:Below W15.heap.size W15 (W15.alloc (.cells #[I J 97] 3)):=(Below.refl _ _).alloc (Nat.le_refl _) _;have PC:=G (jZ AT (Z ⟨W15.heap.size,0,N⟩) 1 1 kt 1 [97] [97] (W15.alloc (.cells #[I J 97] 3)) (PT.1.below hbr) (bW W15 [97] 3 rfl) rfl rfl (by omega) (by omega));rw[show decide ([97]=([97]:List Int))=true from rfl]at PC;clear PT;go_wp2_with fail;with_reducible refine PC.out.mono ?_
 rintro e W16 ⟨rfl,hq⟩;have hbq:=hbr.trans (hq.below.mono hbr.size);clear hq hbr;have NPI:=PI.below hbq;clear PI;have PI:=NPI;clear NPI;have NPS:=PS.below hbq;clear PS;have PS:=NPS;clear NPS;have NPB:=PB.below hbq;clear PB;have PB:=NPB;clear NPB;have HN:=G (HH.out.below hbq);have BN:=BB.trans (hbq.mono BB.size);clear HH BB PC;have HH:=HN;have BB:=BN;clear HN BN hbq;have hbr:Below W16.heap.size W16 (W16.alloc (.cells #[I J 7,I J 5,I J 6] 3)):=(Below.refl _ _).alloc (Nat.le_refl _) _;have PC:=G (jZ AI (Z ⟨W16.heap.size,0,N⟩) 3 3 ki 3 [7,5,6] [7,5,6] (W16.alloc (.cells #[I J 7,I J 5,I J 6] 3)) (PI.1.below hbr) (bW W16 [7,5,6] 3 rfl) rfl rfl (by omega) (by omega));rw[show decide ([7,5,6]=([7,5,6]:List Int))=true from rfl]at PC;clear PI;go_wp2_with fail;with_reducible refine PC.out.mono ?_
 rintro e W17 ⟨rfl,hq⟩;have hbq:=hbr.trans (hq.below.mono hbr.size);clear hq hbr;have NPS:=PS.below hbq;clear PS;have PS:=NPS;clear NPS;have NPB:=PB.below hbq;clear PB;have PB:=NPB;clear NPB;have HN:=G (HH.out.below hbq);have BN:=BB.trans (hbq.mono BB.size);clear HH BB PC;have HH:=HN;have BB:=BN;clear HN BN hbq;have hbr:Below W17.heap.size W17 (W17.alloc (.cells #[I J 5,I J 6] 3)):=(Below.refl _ _).alloc (Nat.le_refl _) _;have PC:=G (jZ AS (Z ⟨W17.heap.size,0,N⟩) 2 2 ks 2 [5,6] [5,6] (W17.alloc (.cells #[I J 5,I J 6] 3)) (PS.1.below hbr) (bW W17 [5,6] 3 rfl) rfl rfl (by omega) (by omega));rw[show decide ([5,6]=([5,6]:List Int))=true from rfl]at PC;clear PS;go_wp2_with fail;with_reducible refine PC.out.mono ?_
 rintro e W18 ⟨rfl,hq⟩;have hbq:=hbr.trans (hq.below.mono hbr.size);clear hq hbr;have NPB:=PB.below hbq;clear PB;have PB:=NPB;clear NPB;have HN:=G (HH.out.below hbq);have BN:=BB.trans (hbq.mono BB.size);clear HH BB PC;have HH:=HN;have BB:=BN;clear HN BN hbq;have hbr:Below W18.heap.size W18 (W18.alloc (.cells #[I J 7] 3)):=(Below.refl _ _).alloc (Nat.le_refl _) _;have PC:=G (jZ AB (Z ⟨W18.heap.size,0,N⟩) 1 1 kb 1 [7] [7] (W18.alloc (.cells #[I J 7] 3)) (PB.1.below hbr) (bW W18 [7] 3 rfl) rfl rfl (by omega) (by omega));rw[show decide ([7]=([7]:List Int))=true from rfl]at PC;clear PB;go_wp2_with fail;with_reducible refine PC.out.mono ?_
 rintro e W19 ⟨rfl,hq⟩;have hbq:=hbr.trans (hq.below.mono hbr.size);clear hq hbr;have HN:=G (HH.out.below hbq);have BN:=BB.trans (hbq.mono BB.size);clear HH BB PC;have HH:=HN;have BB:=BN;clear HN BN hbq;have PC:=G (qI HH.out 6 (by rfl));unfold cJ at PC;rw[show posL [(7,[97]),(5,[98])] 6=-1 from rfl]at PC;try dsimp only[List.length_cons,List.length_nil,Nat.reduceAdd,Option.getD_some,Option.isSome_some]at PC
 go_wp2_with fail;with_reducible refine PC.out.mono ?_
 rintro e W20 ⟨rfl,hbq⟩;have HN:=G (HH.out.below hbq);have BN:=BB.trans (hbq.mono BB.size);clear HH BB PC;have HH:=HN;have BB:=BN;clear HN BN hbq;have PC:=G (fun W=>SF 1 W);go_wp2_with fail;with_reducible refine(PC.out _).mono ?_
 rintro e Wz ⟨rfl,rfl⟩;clear PC;have PC:=G (fun W=>zB 1 W);go_wp2_with fail;with_reducible refine(PC.out _).mono ?_
 rintro e Wz ⟨rfl,rfl⟩;clear PC;go_wp2_with fail;go_ret;exact⟨rfl,BB⟩
theorem Lst.lower{w:World}{l bs bs':Nat}{V:LsV}{mb:Nat}{O:Option Addr}{oc cnt:Nat}{x:Nrm}{c:Col}{o:Opt}{f:Int→Option Value}{L:Its}(h:Lst w l bs V mb O oc cnt x c o f L)(hb:bs'≤bs):Lst w l bs' V mb O oc cnt x c o f L:=by
 obtain⟨w0,e0,e1,e2,s1,s2,s3,s4,s5⟩:=h.set;exact { h with row:=fF h.row hb,set:=⟨w0,Nat.le_trans hb e0,e1,e2,s1,s2,s3,s4,s5⟩,lol:=Nat.le_trans hb h.lol,lom:=Nat.le_trans hb h.lom }
def nV(n:Nat)(x:Nrm)(c:Col)(o:Opt)(l:List Stp)(w:World)(e:Ending)(w':World):Prop:=
 ∃lb V mb O oc f,e=.returned (.tuple #[.pointer (Z ⟨lb,0,N⟩),.bool true])∧(∃cnt,cnt≤n∧Lst w' lb w.heap.size V mb O oc cnt x c o f (runL (kyN x c o) [] l))∧Below w.heap.size w w'
theorem Few.len{x:Nrm}{c:Col}{l:List Stp}(h:Few x c l)(K:List Int→List Int)(i:Nat):(runL K [] (l.take i)).length≤10:=by
 have h1:=runL_len (K:=K) (l.take i) [];have h2:=h.n;have h3:(l.take i).length≤l.length:=by rw[List.length_take];omega
 simp only[List.length_nil]at h1;omega
theorem qH(V:gP)(x:Nrm)(c:Col)(o:Opt)(A:Option Addr)(a:Nat)(l:List Stp)(w:World)(hS:jL w V x c)(hl:gE w A l)(hfw:Few x c l)(hok:bR x c o=0)(hL:cT w):
  Calls prog 29 #[.agg #[H V.A0 x.cls.length V.k0,H V.A1 x.dec.length V.k1,H V.A2 x.exc.length V.k2,H V.C c.ents.length V.a,H V.B c.grps.length V.b,I J c.base,I J c.second,I J c.third,I J o.st,I J o.va,.bool o.bk,.bool o.idn],H A l.length a] w (nV l.length x c o l w):=by
 have B0:Below w.heap.size w (w.alloc (.cells #[H V.A0 x.cls.length V.k0,H V.A1 x.dec.length V.k1,H V.A2 x.exc.length V.k2,H V.C c.ents.length V.a,H V.B c.grps.length V.b,I J c.base,I J c.second,I J c.third,I J o.st,I J o.va,.bool o.bk,.bool o.idn] 36)):=ba _ _;have X0:Box (w.alloc (.cells #[H V.A0 x.cls.length V.k0,H V.A1 x.dec.length V.k1,H V.A2 x.exc.length V.k2,H V.C c.ents.length V.a,H V.B c.grps.length V.b,I J c.base,I J c.second,I J c.third,I J o.st,I J o.va,.bool o.bk,.bool o.idn] 36)) w.heap.size 36 [H V.A0 x.cls.length V.k0,H V.A1 x.dec.length V.k1,H V.A2 x.exc.length V.k2,H V.C c.ents.length V.a,H V.B c.grps.length V.b,I J c.base,I J c.second,I J c.third,I J o.st,I J o.va,.bool o.bk,.bool o.idn]:=Box.new _ _ _ rfl;have W0E:∃W0,(w.alloc (.cells #[H V.A0 x.cls.length V.k0,H V.A1 x.dec.length V.k1,H V.A2 x.exc.length V.k2,H V.C c.ents.length V.a,H V.B c.grps.length V.b,I J c.base,I J c.second,I J c.third,I J o.st,I J o.va,.bool o.bk,.bool o.idn] 36))=W0:=⟨_,rfl⟩;have KN:=G (fun W(hb:Below w.heap.size w W)=>zA V.A0 V.k0 V.A1 V.k1 V.A2 V.k2 x V.C V.a V.B V.b c o W (hS.nrm.below hb) hfw.x (hS.col.below hb) hfw.c (hL.below hb));have HL:=G (fun W(hb:Below w.heap.size w W)=>hl.below hb);have HF:=G hfw;have HOK:=G hok;unfold nW at KN;rw[hok]at KN;have hln:=hfw.n;clear hS hl hfw hok hL;go_enter func29,ntmps29;go_upto_region 1 with(fail)
 obtain⟨W0,hW0⟩:=W0E;try rw[hW0]at B0 X0⊢
 clear hW0;have d0:=X0.cell (i:=0) rfl;have d1:=X0.cell (i:=1) rfl;have d2:=X0.cell (i:=2) rfl;have d3:=X0.cell (i:=3) rfl;have d4:=X0.cell (i:=4) rfl;have d5:=X0.cell (i:=5) rfl;have d6:=X0.cell (i:=6) rfl;have d7:=X0.cell (i:=7) rfl;have d8:=X0.cell (i:=8) rfl;have d9:=X0.cell (i:=9) rfl;have d10:=X0.cell (i:=10) rfl;have d11:=X0.cell (i:=11) rfl;clear X0;go_wp2_with fail;with_reducible refine(KN.out W0 B0).mono ?_
 rintro e W1 ⟨hb1,hcase⟩;have B1:=B0.trans (hb1.mono B0.size);rcases hcase with⟨h0,_⟩|⟨_,lb,V',mb,rfl,hlst⟩
 ·exact absurd rfl h0
 have hz0:=B0.size;have HH:=G hlst;clear d0 d1 d2 d3 d4 d5 d6 d7 d8 d9 d10 d11 KN hlst hb1;go_wp2_with fail;go_loopw [28] (fun u wr=>∃(i:Nat)(O:Option Addr)(oc cnt:Nat)(f:Int→Option Value),i≤l.length∧u=I J i∧cnt≤i∧Lst wr lb W0.heap.size V' mb O oc cnt x c o f (runL (kyN x c o) [] (l.take i))∧Below w.heap.size w wr) (fun u _=>l.length-(intOf u).toNat)
 case atStart=>exact⟨0,N,0,0,_,Nat.zero_le _,rfl,Nat.le_refl _,HH.out,B1⟩
 obtain⟨i,O,oc,cnt,f,hi,rfl,hcn,hlst,hbr⟩:=hrel;have HR:=G hlst;clear hlst HH;by_cases hlt:i<l.length
 ·obtain⟨b1,o1,rfl,hbl,hcell⟩:=(HL.out w (Below.refl _ _)).at hlt
  obtain⟨T,tk,Q,qk,k0,k1,k2,k3,ht1,ht2,hio⟩:=hcell i hlt;have c0:=(hbr.cell (p:=⟨b1,o1+i*4,N⟩) hbl).trans k0;have c1:=(hbr.cell (p:=⟨b1,o1+i*4+1,N⟩) hbl).trans k1;have c2:=(hbr.cell (p:=⟨b1,o1+i*4+2,N⟩) hbl).trans k2;have c3:=(hbr.cell (p:=⟨b1,o1+i*4+3,N⟩) hbl).trans k3;have hse:=HF.out.e _ (List.getElem_mem hlt);have EQ:=G (runL_take (K:=kyN x c o) [] l i hlt);have hRl:=HF.out.len (kyN x c o) i;have hRl2:=remL_len (L:=runL (kyN x c o) [] (l.take i)) (id:=l[i].id);have HT1:=G ht1;have HIO:=G hio;clear hcell ht1 ht2 hio k0 k1 k2 k3;generalize runL (kyN x c o) [] (l.take i)=R at *;generalize l[i]=s at *;obtain⟨sid,stx,srm,sak⟩:=s;dsimp only at *;have hbs:=hbr.alloc hbr.size (.cells #[I J sid,H T stx.length tk,.bool srm,H Q sak.length qk] 51);have hbn:Below wr.heap.size wr (wr.alloc (.cells #[I J sid,H T stx.length tk,.bool srm,H Q sak.length qk] 51)):=ba _ _;have XS:Box (wr.alloc (.cells #[I J sid,H T stx.length tk,.bool srm,H Q sak.length qk] 51)) wr.heap.size 51 [I J sid,H T stx.length tk,.bool srm,H Q sak.length qk]:=Box.new _ _ _ rfl;have WSE:∃Ws,(wr.alloc (.cells #[I J sid,H T stx.length tk,.bool srm,H Q sak.length qk] 51))=Ws:=⟨_,rfl⟩;go_upto_region 7 with(fail)
  obtain⟨Ws,hWs⟩:=WSE;try rw[hWs]at hbs hbn XS⊢
  clear hWs c0 c1 c2 c3;have e0:=XS.cell (i:=0) rfl;have e1:=XS.cell (i:=1) rfl;have e2:=XS.cell (i:=2) rfl;have HS:=G (HR.out.below hbn);have hTs:=(HT1.out.below hbr).below hbn
  have apT:ApI (Lf lb mb O) Ws T stx:=⟨hTs.1,fun hne q hq hS'=>by
   have h1:=HS.out.lf q hS'
   have h2:=kQ HT1.out.1 (mY hne) hq
   omega⟩
  clear XS hbn;cases srm with
  |true=>
   have RC:=G (nO HS.out sid HIO.out);unfold iJ at RC;go_wp2_with fail;with_reducible refine RC.out.mono ?_
   rintro e W5 ⟨rfl,O',oc',f',h',hc',hO'⟩;have HN:=G h';have hbf:=lH hbs hbs.size hc' hz0 HS.out.lf;have ER:=G (show runL (kyN x c o) [] (l.take (i+1))=remL R sid by rw[EQ.out];rfl);clear RC h' hc' hO' e0 e1 e2 hTs apT;go_wp2_with fail;go_roundw
   case rel=>exact⟨i+1,O',oc',cnt,f',by omega,by go_num,by omega,by rw[ER.out];exact HN.out,hbf⟩
   simp[intOf];omega
  |false=>
   have RC:=G (qJ HS.out sid HIO.out T tk stx apT (by omega) hTs.2.2.2 (by omega) (by unfold maxLen;omega));unfold iJ at RC;go_wp2_with fail;with_reducible refine RC.out.mono ?_
   rintro e W5 ⟨rfl,O',oc',f',h',hc',hO'⟩;have HN:=G h';have hbf:=lH hbs hbs.size hc' hz0 HS.out.lf;have ER:=G (show runL (kyN x c o) [] (l.take (i+1))=putL (kyN x c o) R sid stx by rw[EQ.out];rfl);clear RC h' hc' hO' e0 e1 e2 hTs apT;go_wp2_with fail;go_roundw
   case rel=>exact⟨i+1,O',oc',cnt+1,f',by omega,by go_num,by omega,by rw[ER.out];exact HN.out,hbf⟩
   simp[intOf];omega
 obtain rfl:i=l.length:=by omega
 have EL:=U (l.take l.length=l) List.take_length;rw[EL.out]at HR;go_wp2_with fail;go_ret2;refine⟨lb,V',mb,O,oc,f,rfl,⟨cnt,hcn,?_⟩,hbr⟩;exact HR.out.lower hz0
end
end Go.Proofs.YtpfbnikbebccjaaGreatDoor
