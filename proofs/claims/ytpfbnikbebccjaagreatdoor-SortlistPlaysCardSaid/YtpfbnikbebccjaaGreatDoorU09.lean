import Derived.Test.YtpfbnikbebccjaaGreatDoorU00
import Derived.Test.YtpfbnikbebccjaaGreatDoorU01
import Derived.Test.YtpfbnikbebccjaaGreatDoorU02
import Derived.Test.YtpfbnikbebccjaaGreatDoorU04
import Derived.Test.YtpfbnikbebccjaaGreatDoorU05
import Derived.Test.YtpfbnikbebccjaaGreatDoorU06
import Derived.Test.YtpfbnikbebccjaaGreatDoorU07
import Derived.Test.YtpfbnikbebccjaaGreatDoorU08
import Derived.BigQuiet
import Derived.Test.YtpfbnikbebccjaaGreatDoorRows
import Derived.Deep.Slices
import Derived.Deep.DeepHandedRow
import Derived.Lib.LaidTab
import Derived.IntWalk
import Derived.WalkSpells
import Derived.Outline
import Derived.Test.YtpfbnikbebccjaaGreatDoorProg
import Derived.Deep.QuietTactic
set_option maxRecDepth 100000
set_option maxHeartbeats 51200000
namespace Go.Proofs.YtpfbnikbebccjaaGreatDoor
open Option renaming none->N,some->Z
open Value renaming int->I,slice->H
open IntKind renaming i64->J
open Go.Proofs.Tryz
section
open Go.RowKit Go.Maps Go.WideMaps
theorem KK(A:Oa)(n a:Nat)(ys:List Rg)(w:Wv)(hA:Rgs w A ys)(hn:ys.length=n)(hz:n<=12):
  Calls prog 59 #[.agg #[H A n a]] w (fH (gU ys) w):=by
 subst hn;have B0:By w (w.alloc (.cells #[H A ys.length a] 26)):=ba _ _;have k0:(w.alloc (.cells #[H A ys.length a] 26)).cell? ⟨w.heap.size,0,N⟩=Z (H A ys.length a):=by simp
 have s0:(w.alloc (.cells #[H A ys.length a] 26)).heap.size=w.heap.size+1:=by simp
 have W0E:∃W0,(w.alloc (.cells #[H A ys.length a] 26))=W0:=⟨_,rfl⟩;have MC:=G (fun W(hb:By w W)=>KJ A ys.length a ys W (hA.below hb) rfl hz);have hcl:=vV ys;have S0:=U (gU ys=decide (eK ys=ys)) rfl;generalize eK ys=xs at *;have S1:=G (BR (xs:=xs) (ys:=ys));have S2:=G (fun k h1 h2 h=>BT (xs:=xs) (ys:=ys) (k:=k) h1 h2 h);have S3:=G (BQ (xs:=xs) (ys:=ys));generalize decide (xs=ys)=R at *;generalize gU ys=R' at *;obtain rfl:=S0.out;have HA:=G (fun W(hb:By w W)=>hA.below hb);clear hA;go_enter func59,ntmps59;go_wp2_with fail;obtain⟨W0,hW0⟩:=W0E;rw[hW0]at B0 k0 s0|-;clear hW0;have hx0:w.heap.size<W0.heap.size:=by omega
 with_reducible refine(MC.out W0 B0).mono ?_
 rintro e W1 ⟨E,d,rfl,hd,hE,hb1⟩;have HE:=G hE;have f0:=(hb1.cell (p:=⟨w.heap.size,0,N⟩) hx0).trans k0;have hx1:w.heap.size<W1.heap.size:=by have:=hb1.size;omega
 have hxn:¬w.heap.size=W1.heap.size:=by omega
 have Bm:By W1 (W1.alloc (.cells #[H E xs.length d] 26)):=ba _ _;have m0:(W1.alloc (.cells #[H E xs.length d] 26)).cell? ⟨W1.heap.size,0,N⟩=Z (H E xs.length d):=by simp
 have g0:=(Bm.cell (p:=⟨w.heap.size,0,N⟩) hx1).trans f0;have sm:(W1.alloc (.cells #[H E xs.length d] 26)).heap.size=W1.heap.size+1:=by simp
 have hb2:=B0.trans (hb1.mono B0.size);have hb3:=hb2.trans (Bm.mono hb2.size);have HE2:=G (HE.out.below Bm);have W2E:∃W2,W1.alloc (.cells #[H E xs.length d] 26)=W2:=⟨_,rfl⟩;clear MC hE HE k0;by_cases hl:xs.length=ys.length;rotate_left
 ·obtain rfl:=S1.out hl
  have q1:((xs.length:Int)!=(ys.length:Int))=true:=by simp;omega
  go_wp2_with fail;go_ret;exact⟨rfl,hb3⟩
 have q1:((xs.length:Int)!=(ys.length:Int))=false:=by simp;omega
 have hle:xs.length<=ys.length:=by omega
 have S3':=G (S3.out hl);clear hl S1 S3;go_wp2_with fail;obtain⟨W2,hW2⟩:=W2E;rw[hW2]at Bm m0 g0 sm hb3 HE2|-;clear hW2 q1 f0;have hy0:w.heap.size<W2.heap.size:=by omega
 have G0:=G g0;clear g0 m0;go_loopw [19] (fun u wr=>∃i:Nat,i<=xs.length/\u=I J i/\(∀t,(h1:t<xs.length)->(h2:t<ys.length)->t<i->xs[t]=ys[t])/\By W2 wr) (fun u _=>xs.length-(intOf u).toNat)
 case atStart=>exact⟨0,Nat.zero_le _,rfl,fun t _ _ h=>by omega,Below.refl _ _⟩
 obtain⟨i,hi,rfl,hno,hbr⟩:=hrel;have HNO:=G hno;clear hno;have f0:=(hbr.cell (p:=⟨w.heap.size,0,N⟩) hy0).trans G0.out;have hyr:w.heap.size<wr.heap.size:=by have:=hbr.size;omega
 have hyn:¬w.heap.size=wr.heap.size:=by omega
 have hbw:=hb3.trans (hbr.mono hb3.size);by_cases hlt:i<xs.length
 ·have hlt2:i<ys.length:=by omega
  obtain⟨b1,o1,rfl,hbl,hcell⟩:=(HE2.out.below hbr).at hlt;obtain⟨c1,c2⟩:=hcell i hlt;obtain⟨b2,o2,rfl,hbl2,hcell2⟩:=(HA.out wr hbw).at hlt2;obtain⟨d1,d2⟩:=hcell2 i hlt2;have HY:=G (fun h=>S2.out i hlt hlt2 h)
  have HN:=G (fun(h:xs[i]=ys[i])=>show ∀t,(h1:t<xs.length)->(h2:t<ys.length)->t<i+1->xs[t]=ys[t]from fun t h1 h2 ht=>by
   by_cases e:t<i
   ·exact HNO.out t h1 h2 e
   ·obtain rfl:t=i:=by omega
    exact h)
  clear hcell hcell2;generalize xs[i]=x at *;generalize ys[i]=y at *;obtain⟨xl,xh⟩:=x;obtain⟨yl,yh⟩:=y;dsimp only at *;have n1:¬b1=wr.heap.size:=by omega
  have n2:¬b2=wr.heap.size:=by omega
  have i1:(0:Int)<=(i:Int):=by omega
  have i2:(i:Int)<(xs.length:Int):=by omega
  have i3:((i:Int)).toNat=i:=by omega
  have i4:(i:Int)<(ys.length:Int):=by omega
  have Bx:By wr (wr.alloc (.cells #[I J xl,I J xh] 126)):=ba _ _;have x0:(wr.alloc (.cells #[I J xl,I J xh] 126)).cell? ⟨wr.heap.size,0,N⟩=Z (I J xl):=by simp
  have x1:(wr.alloc (.cells #[I J xl,I J xh] 126)).cell? ⟨wr.heap.size,1,N⟩=Z (I J xh):=by simp
  have e0:=(Bx.cell (p:=⟨w.heap.size,0,N⟩) hyr).trans f0;have e1:=(Bx.cell (p:=⟨b2,o2+i*2,N⟩) hbl2).trans d1;have e2:=(Bx.cell (p:=⟨b2,o2+i*2+1,N⟩) hbl2).trans d2;have hb5:=hbr.trans (Bx.mono hbr.size);have WxE:∃Wx,wr.alloc (.cells #[I J xl,I J xh] 126)=Wx:=⟨_,rfl⟩;clear f0 d1 d2;go_wp2_with fail;obtain⟨Wx,hWx⟩:=WxE;rw[hWx]at Bx x0 x1 e0 e1 e2 hb5|-;clear hWx c1 c2;by_cases he:(⟨xl,xh⟩:Rg)=⟨yl,yh⟩
  ·have HQ:=G (HN.out he)
   have NR1:∀W,(binOp .neq 126 (.agg #[I J xl,I J xh]) (.agg #[I J yl,I J yh])).run prog W=.ok (.bool false) W:=fun W=>by rw[pQ,he];simp
   clear HY HN he;go_quiet(fail);go_wp2_with fail;go_roundw
   case rel=>exact⟨i+1,by omega,by go_num,HQ.out,bP hb5 _⟩
   simp[intOf];omega
  obtain rfl:=HY.out he;have NR1:∀W,(binOp .neq 126 (.agg #[I J xl,I J xh]) (.agg #[I J yl,I J yh])).run prog W=.ok (.bool true) W:=fun W=>by rw[pQ,decide_eq_false he];rfl
  clear HY HN he;go_quiet(fail);go_wp2_with fail;go_ret;exact⟨rfl,hb3.trans ((bP hb5 _).mono hb3.size)⟩
 obtain rfl:=S3'.out (fun t h1 h2=>HNO.out t h1 h2 (by omega));go_wp2_with fail;go_ret;exact⟨rfl,hbw⟩
structure bA(w:Wv)(A0:Oa)(n0:Nat)(A1:Oa)(n1:Nat)(A2:Oa)(n2:Nat)(x:Nrm):Prop where
 s0:aZ w A0 x.cls
 s1:Mps w A1 x.dec
 s2:Rgs w A2 x.exc
 l0:x.cls.length=n0
 l1:x.dec.length=n1
 l2:x.exc.length=n2
theorem bA.below{w w':Wv}{A0:Oa}{n0:Nat}{A1:Oa}{n1:Nat}{A2:Oa}{n2:Nat}{x:Nrm}(h:bA w A0 n0 A1 n1 A2 n2 x)(hb:By w w'):bA w' A0 n0 A1 n1 A2 n2 x:=
 ⟨h.s0.below hb,h.s1.below hb,h.s2.below hb,h.l0,h.l1,h.l2⟩
structure cK(x:Nrm):Prop where
 z0:x.cls.length<=1048576
 z1:k_ x.dec
 z2:x.exc.length<=12
theorem rX(A0:Oa)(n0 k0:Nat)(A1:Oa)(n1 k1:Nat)(A2:Oa)(n2 k2:Nat)(x:Nrm)(w:Wv)(hN:bA w A0 n0 A1 n1 A2 n2 x)(hz:cK x)(hL:dL w):
  Calls prog 35 #[.agg #[H A0 n0 k0,H A1 n1 k1,H A2 n2 k2]] w (cA (bK x) w):=by
 obtain⟨ss,ms,rs⟩:=x;obtain⟨hS,hM,hR,rfl,rfl,rfl⟩:=hN;dsimp only at *;have z0:ss.length<=1048576:=hz.z0;have z1:ms.length<=1048576:=hz.z1.n;have CC:=G (fun W(hb:By w W)=>uO A0 ss.length k0 ss W (hS.below hb) rfl (by omega) (hL.below hb));have MC:=G (fun W(hb:By w W)=>RS A1 ms.length k1 ms W (hM.below hb) rfl hz.z1);have VC:=G (fun W(hb:By w W)=>KK A2 rs.length k2 rs W (hR.below hb) rfl hz.z2);have KC:=G (fun c W=>mN c W);have RC:=G (fun A nt kt text W(hb:By w W)(hT:aA W A text)(hnt:text.length=nt)(hbt:nt<=1048576)=>F_ A0 ss.length k0 ss A nt kt text W (hS.below hb) hT hnt rfl hbt (by omega) (hL.below hb));have ME:=G (fun W(hb:By w W)(hst:StF ms)(hco:gQ ms)(hh:dE ms)=>R_ A0 ss.length k0 A1 ms.length k1 A2 rs.length k2 ms W (hM.below hb) rfl hst hco hh z1);have N0:=G (fun h=>tH (x:=⟨ss,ms,rs⟩) h);have N1:=G (fun h1 h2=>tJ (x:=⟨ss,ms,rs⟩) h1 h2);have N2:=G (fun h1 h2 h3=>tL (x:=⟨ss,ms,rs⟩) h1 h2 h3);have N3:=G (fun(c:Ck3 ⟨ss,ms,rs⟩) h=>c.twice h);have N4:=G (fun(c:Ck4 ⟨ss,ms,rs⟩) h=>c.kind h);have N5:=G (fun(c:Ck5 ⟨ss,ms,rs⟩) h=>c.data h);have N6:=G (fun(c:Ck6 ⟨ss,ms,rs⟩)=>c.rest);dsimp only at N0 N1 N2 N3 N4 N5 N6;generalize bK ⟨ss,ms,rs⟩=r at *;have HM:=G hM;clear hM hS hR hz hL;have B0:By w (w.alloc (.cells #[H A0 ss.length k0,H A1 ms.length k1,H A2 rs.length k2] 28)):=ba _ _;have X0:Box (w.alloc (.cells #[H A0 ss.length k0,H A1 ms.length k1,H A2 rs.length k2] 28)) w.heap.size 28 [H A0 ss.length k0,H A1 ms.length k1,H A2 rs.length k2]:=Box.new _ _ _ rfl;have W0E:∃W0,(w.alloc (.cells #[H A0 ss.length k0,H A1 ms.length k1,H A2 rs.length k2] 28))=W0:=⟨_,rfl⟩;go_enter func35,ntmps35;go_wp2_with fail;obtain⟨W0,hW0⟩:=W0E;rw[hW0]at B0 X0|-;clear hW0;have s0:w.heap.size<W0.heap.size:=X0.lt
 have Q:=G (fun W(hb:By W0 W)=>show W.cell? ⟨w.heap.size,0,N⟩=Z (H A0 ss.length k0)/\W.cell? ⟨w.heap.size,1,N⟩=Z (H A1 ms.length k1)/\W.cell? ⟨w.heap.size,2,N⟩=Z (H A2 rs.length k2)from
  have X:=X0.below hb s0
  ⟨X.cell rfl,X.cell rfl,X.cell rfl⟩)
 have BB:=G (fun W(hb:By W0 W)=>B0.trans (hb.mono B0.size));clear X0;with_reducible refine(CC.out _ B0).mono ?_
 rintro e W1 ⟨rfl,hb1⟩;obtain⟨q0,q1,q2⟩:=Q.out W1 hb1;generalize hc:chk ss=c at *;have HC:=G hc;clear hc CC;by_cases h0:¬c=0
 ·go_wp2_with fail
  go_ret;exact⟨aE (N0.out h0).symm,BB.out _ hb1⟩
 replace h0:=Decidable.not_not.1 h0;subst h0;clear N0;go_wp2_with fail;with_reducible refine(MC.out _ (BB.out _ hb1)).mono ?_
 rintro e W2 ⟨rfl,hb2⟩;replace hb2:=hb1.trans (hb2.mono hb1.size);clear q0 q1 q2 hb1 MC;obtain⟨q0,q1,q2⟩:=Q.out W2 hb2;generalize hc:cH ms=c at *;have HMC:=G hc;clear hc;by_cases h0:¬c=0
 ·go_wp2_with fail
  go_ret;exact⟨aE (N1.out (by trivial) h0).symm,BB.out _ hb2⟩
 replace h0:=Decidable.not_not.1 h0;subst h0;clear N1;go_wp2_with fail;with_reducible refine(VC.out _ (BB.out _ hb2)).mono ?_
 rintro e W3 ⟨rfl,hb3⟩;replace hb3:=hb2.trans (hb3.mono hb2.size);clear q0 q1 q2 hb2 VC;obtain⟨q0,q1,q2⟩:=Q.out W3 hb3;generalize hc:gU rs=c at *;have HSC:=G hc;clear hc;cases c with
 |false=>
  go_wp2_with fail;go_ret;exact⟨aE (N2.out (by trivial) (by trivial) (by trivial)).symm,BB.out _ hb3⟩
 |true=>
 have C3:=U (Ck3 ⟨ss,ms,rs⟩) (⟨HC.out,HMC.out,HSC.out⟩);clear N2 HC HSC;go_wp2_with fail;clear q0 q1 q2;go_loopw [5] (fun u wr=>∃i:Nat,i<=ms.length/\u=I J ((i:Int)+1)/\(∀t,(ht:t+1<ms.length)->t<i->¬ms[t+1].frm=ms[t].frm)/\By W0 wr) (fun u _=>ms.length+1-(intOf u).toNat)
 case atStart=>exact⟨0,Nat.zero_le _,rfl,fun t _ h=>absurd h (Nat.not_lt_zero _),hb3⟩
 obtain⟨i,hi,rfl,h1,hb⟩:=hrel;have H1:=G h1;clear h1;obtain⟨q0,q1,q2⟩:=Q.out wr hb;by_cases hlt:i+1<ms.length
 ·obtain⟨b,o,rfl,_,hcell⟩:=(HM.out.below (BB.out _ hb)).at hlt
  obtain⟨E,d,c1,c2,c3,_,_⟩:=hcell i (by omega);obtain⟨E',d',c1',c2',c3',_,_⟩:=hcell (i+1) hlt;clear hcell;have hi0:i<ms.length:=by omega
  have HS:=G (fun(h:ms[i+1].frm=ms[i].frm)=>CQ hi0 hlt (Nat.lt_succ_self i) h)
  have HN:=G (fun(h:¬ms[i+1].frm=ms[i].frm)=>show ∀t,(ht:t+1<ms.length)->t<i+1->¬ms[t+1].frm=ms[t].frm from fun t ht g=>by
   by_cases e:t=i
   ·subst e;exact h
   ·exact H1.out t ht (by omega))
  generalize ms[i].frm=f at *;generalize ms[i].to.length=tl at *;generalize ms[i].tag=tg at *;generalize ms[i+1].frm=f' at *;generalize ms[i+1].to.length=tl' at *;generalize ms[i+1].tag=tg' at *;clear HM;by_cases heq:f'=f
  ·have HR:=G (N3.out C3.out (HS.out heq))
   go_wp2_with fail;go_region
   all_goals
    go_wp2_with fail;go_ret;exact⟨aE HR.out.symm,BB.out _ hb.drew⟩
  have HR:=G (HN.out heq);go_wp2_with fail;go_region
  all_goals
   go_wp2_with fail;go_roundw
   case rel=>exact⟨i+1,by omega,by go_num,HR.out,hb.drew⟩
   simp[intOf];omega
 have hst:=U (stB ms=true) (CU HMC.out (fun k hk=>H1.out k hk (by omega)));have C4:=U (Ck4 ⟨ss,ms,rs⟩) (⟨C3.out,hst.out⟩);clear N3 C3 H1 hst;go_wp2_with fail;clear q0 q1 q2;go_loopw [53] (fun u wr=>∃i:Nat,i<=ms.length/\u=I J i/\(∀t,(ht:t<ms.length)->t<i->cQ ms[t]=false)/\By W0 wr) (fun u _=>ms.length-(intOf u).toNat)
 case atStart=>exact⟨0,Nat.zero_le _,rfl,fun t _ h=>absurd h (Nat.not_lt_zero _),hb⟩
 clear hb;obtain⟨i,hi,rfl,hno,hb⟩:=hrel;have HNO:=G hno;clear hno;obtain⟨q0,q1,q2⟩:=Q.out wr hb;by_cases hlt:i<ms.length
 ·obtain⟨b1,o1,rfl,hbl,hcell⟩:=(HM.out.below (BB.out _ hb)).at hlt
  obtain⟨C,cc,c0,c1,c2,hcc,hC⟩:=hcell i hlt;have HB:=G (fun h=>N4.out C4.out (iA hlt h));have HN:=G (fun h=>cW (P:=fun m=>cQ m=false) hlt HNO.out h);clear hcell hC;generalize ms[i]=mi at *;have K1:=G (fun(h:¬mi.tag.size=0)=>show cQ mi=false from by simp[cQ,h]);have K2:=G (fun(h:mi.to.length=1)=>show cQ mi=false from by simp[cQ,h]);have K3:=G (fun(h:mi.to.length=2)=>show cQ mi=false from by simp[cQ,h]);have K4:=G (fun(h:mi.tag.size=0) (h1:¬mi.to.length=1) (h2:¬mi.to.length=2)=>show cQ mi=true from by simp[cQ,h,h1,h2]);generalize cQ mi=kb at *;obtain⟨mf,mt,mg⟩:=mi;dsimp only at *;clear HM;have hb2:=hb.trans (((Below.refl wr.heap.size wr).alloc (Nat.le_refl _) (.cells #[I J mf,H C mt.length cc,.string mg] 116)).mono hb.size);by_cases hg:mg.size=0
  ·have g0:mg.toList=[]:=gX hg
   by_cases h1:mt.length=1
   ·have HQ:=G (HN.out (K2.out h1))
    have d1:(mt.length:Int)=1:=by omega
    clear h1;go_wp2_with fail;go_roundw
    case rel=>exact⟨i+1,by omega,by go_num,HQ.out,hb2⟩
    simp[intOf];omega
   have d1:((mt.length:Int)!=1)=true:=by simp;omega
   by_cases h2:mt.length=2
   ·have HQ:=G (HN.out (K3.out h2))
    have d2:((mt.length:Int)!=2)=false:=by simp;omega
    have hb2':=G hb2;clear h2;go_wp2_with fail;go_roundw
    case rel=>exact⟨i+1,by omega,by go_num,HQ.out,hb2⟩
    simp[intOf];omega
   have HR:=G (HB.out (K4.out hg h1 h2));have d2:((mt.length:Int)!=2)=true:=by simp;omega
   go_wp2_with fail;go_ret;exact⟨aE HR.out.symm,BB.out _ hb2⟩
  have g0:¬mg.toList=[]:=gW hg;have g1:mg.toList.isEmpty=false:=by simpa using g0
  have HQ:=G (HN.out (K1.out hg));go_wp2_with fail;go_roundw
  case rel=>exact⟨i+1,by omega,by go_num,HQ.out,hb2⟩
  simp[intOf];omega
 have C5:=U (Ck5 ⟨ss,ms,rs⟩) (⟨C4.out,show ms.any cQ=false from fO (fun t ht=>HNO.out t ht (by omega))⟩);have C4':=U (Ck4 ⟨ss,ms,rs⟩) C4.out;clear C4 N4 HNO;have N5':=G (fun h=>N5.out C5.out h);clear N5;go_wp2_with fail;clear q0 q1 q2;have B1:W0.heap.size<=W0.heap.size:=Nat.le_refl _
 go_loopw [8,76] (fun v u wr=>∃(i c:Nat)(B:Oa),i<=ms.length/\u=I J i/\v=H B (e_ (ms.take i)).length c/\wr.ownsRow W0.heap.size 3 1 (H B (e_ (ms.take i)).length c) (e_ (ms.take i)).length ((e_ (ms.take i)).map (Value.int .i64))/\
  (∀t,(ht:t<ms.length)->t<i->Hg.kind ms[t].frm=0)/\By W0 wr) (fun _ u _=>ms.length-(intOf u).toNat)
 case atStart=>exact⟨0,0,N,Nat.zero_le _,rfl,rfl,World.ownsRow_nil _ _ _ _,fun t _ h=>absurd h (Nat.not_lt_zero _),hb⟩
 clear hb;obtain⟨i,c,B,hi,rfl,rfl,hown,hno,hb⟩:=hrel;have HNO:=G hno;have HOWN:=G hown;clear hno hown;obtain⟨q0,q1,q2⟩:=Q.out wr hb;by_cases hlt:i<ms.length
 ·obtain⟨b1,o1,rfl,hbl,hcell⟩:=(HM.out.below (BB.out _ hb)).at hlt
  obtain⟨C,cc,c0,c1,c2,hcc,hC⟩:=hcell i hlt;have HB:=G (fun h=>N5'.out (KW hlt h));have HN:=G (fun h=>cW (P:=fun m=>Hg.kind m.frm=0) hlt HNO.out h);have HT:=G (zAp hlt);have hTL:=DO (ms.take i);rw[List.length_take]at hTL;clear hcell hC;generalize ms[i]=mi at *;obtain⟨mf,mt,mg⟩:=mi;dsimp only at *;clear HM;have hb2:=hb.trans (((Below.refl wr.heap.size wr).alloc (Nat.le_refl _) (.cells #[I J mf,H C mt.length cc,.string mg] 116)).mono hb.size);have HOWNa:=G (aK HOWN.out ((Below.refl wr.heap.size wr).alloc (Nat.le_refl _) (.cells #[I J mf,H C mt.length cc,.string mg] 116)));generalize hka:Hg.kind mf=ka at *;have HK:=G hka;clear hka;have KF:=G (KC.out mf);rw[HK.out]at KF;by_cases hk0:ka=0
  ·have HQ:=G (HN.out hk0)
   subst hk0;by_cases hg:mg.size=0
   ·have g0:mg.toList=[]:=gX hg
    have hT:=HT.out;rw[if_pos hg,List.append_nil]at hT;have HT2:=G hT;clear hT;go_wp2_with(go_at_call 60;refine(KF.out _).mono ?_;rintro e w' ⟨rfl,rfl⟩);go_roundw
    case rel=>exact⟨i+1,c,B,by omega,by go_num,by rw[HT2.out],by rw[HT2.out];exact HOWNa.out,HQ.out,hb2⟩
    simp[intOf];omega
   have g0:¬mg.toList=[]:=gW hg;have g1:mg.toList.isEmpty=false:=by simpa using g0
   have hT:=HT.out;rw[if_neg hg]at hT;have HT2:=G hT;clear hT;go_wp2_with(first|(go_at_call 60;refine(KF.out _).mono ?_;rintro e w' ⟨rfl,rfl⟩)|(at_builtin;(refine aJ _ _ 49 3 (I J 0) 1 8 rfl rfl underlying49 aM rfl (by decide) (by decide) rfl (HOWNa.out.alloc _) rfl (bU (wr.alloc (.cells #[I J mf,H C mt.length cc,.string mg] 116)) [I J mf] 3 (by simp)) (by simp) (aR [mf]) (by omega) (by have:=hb2.size;simp at this|-;omega) ?_);intro B1 c1' w1 hown1 hc1' hb1 hg1 hB1));have hb3:=hb2.trans (((ba _ _).mono hb2.size).trans hb1);go_roundw
   case rel=>
    refine⟨i+1,c1',B1,by omega,by go_num,?_,?_,HQ.out,hb3⟩
    ·rw[HT2.out,List.length_append];rfl
    rw[HT2.out,List.length_append,List.map_append];exact hown1
   simp[intOf];omega
  have HR:=G (HB.out hk0);go_wp2_with(go_at_call 60;refine(KF.out _).mono ?_;rintro e w' ⟨rfl,rfl⟩);go_ret;exact⟨aE HR.out.symm,BB.out _ hb2⟩
 obtain rfl:i=ms.length:=by omega
 have hT:e_ (ms.take ms.length)=e_ ms:=by rw[List.take_length]
 have hTL:=DO ms;have HI:aA wr B (e_ ms):=by rw[hT]at HOWN;exact Sl.of_own HOWN.out
 rw[hT];have HA:=G (fun(h:rns (clz ss) (e_ ms) 0 N=[])=>show Ck6 ⟨ss,ms,rs⟩from⟨C5.out,show ms.any (cZ ss)=false from KX (fun t ht=>HNO.out t ht ht) h⟩);have HD:=G (fun(h:¬rns (clz ss) (e_ ms) 0 N=[])=>N5'.out (KZ h));have RR:=G (RC.out B (e_ ms).length c (e_ ms) wr (BB.out _ hb) HI rfl (by omega));clear HI HOWN hT;generalize e_ ms=tg at *;generalize rns (clz ss) tg 0 N=rr at *;go_wp2_with fail;with_reducible refine RR.out.mono ?_
 rintro e W4 ⟨A4,c4,rfl,hc4,hA4,hb4⟩;replace hb4:=hb.trans (hb4.mono hb.size);clear q0 q1 q2;obtain⟨q0,q1,q2⟩:=Q.out W4 hb4;by_cases hr0:rr=[]
 ·have C6:=G (HA.out hr0)
  have hl:rr.length=0:=by rw[hr0];rfl
  have MM:=G (ME.out W4 (BB.out _ hb4) (mP C4'.out.t) (yZ C4'.out.m) (nW C6.out.d))
  have FIN:=G (fun cyc lng(h:jM ms cyc lng)=>show r=if cyc=true then 12 else if lng=true then 13 else 0 from by
   have h1:=h.cyc (mP C4'.out.t) (nW C6.out.d)
   rw[N6.out C6.out]
   cases he:dH ms with
   |false=>rw[he]at h1;subst h1;rfl
   | true=>rw[he]at h1;subst h1;rw[h.lng (mP C4'.out.t) (nW C6.out.d) he];simp)
  clear hr0;rw[hl];go_wp2_with fail;with_reducible refine MM.out.mono ?_
  rintro e W5 ⟨cyc,lng,rfl,hok,hb5⟩;replace hb5:=hb4.trans (hb5.mono hb4.size);have HF:=G (FIN.out cyc lng hok);clear q0 q1 q2 hok FIN MM;cases cyc with
  |true=>
   go_wp2_with fail;go_ret;exact⟨aE HF.out.symm,BB.out _ hb5⟩
  |false=>
   cases lng with
   |true=>
    go_wp2_with fail;go_ret;exact⟨aE HF.out.symm,BB.out _ hb5⟩
   |false=>
    go_wp2_with fail;go_ret;exact⟨aE HF.out.symm,BB.out _ hb5⟩
 have HR:=G (HD.out hr0);have hl:0<rr.length:=List.length_pos_iff.2 hr0;have hl2:decide ((0:Int)<(rr.length:Int))=true:=by simp;omega
 go_wp2_with fail;go_ret;exact⟨aE HR.out.symm,BB.out _ hb4⟩
end
section
open Go.ChangeShapes Go.WideShapes Go.ChangeAt Go.RowKit
section
variable {H:Type}{enc:TypeId×Value->H}{w:Wv}{base:Nat}{spare:Nat->Bool}{held:Bool}{fuel:Nat}{cs:Lv}{x:DataW H×List MemPlace}
instance:Inhabited Spn:=⟨⟨0,0,0⟩⟩
theorem RZ:prog.cellsOf 22=1:=by kernel_rfl
theorem UQ(h:DataW.trod enc prog w base spare held fuel 22 cs=Z x):
  ∃A len cap,∃l:List Spn,cs=[.slice A len cap]/\l.length=len/\len<=cap/\cap<=9223372036854775807/\aZ w A l:=by
 obtain⟨A,len,cap,l,h1,h2,h3,h4,h5,_⟩:=jF (α:=Spn) (fun s=>[I J s.lo,I J s.hi,I J s.val]) 3 (by omega) (fun _=>rfl) (fun _=>True) underlying22 (by kernel_rfl) (fun fuel cs x hl hx=>by
  obtain⟨xs,k,hk,hxy,_,hxl,hfs⟩:=DataW.trod_struct underlying123 hx
  match xs,hxl,cs,hl with
  | [y0,y1,y2],_,[v0,v1,v2],_=>
   have g0:=hfs 0 _ rfl
   have g1:=hfs 1 _ rfl
   have g2:=hfs 2 _ rfl
   simp[mci]at g0 g1 g2
   obtain⟨z0,e0,_,_⟩:=DataW.trod_int underlying3 g0
   obtain⟨z1,e1,_,_⟩:=DataW.trod_int underlying3 g1
   obtain⟨z2,e2,_,_⟩:=DataW.trod_int underlying3 g2
   simp at e0 e1 e2
   subst e0;subst e1;subst e2
   exact⟨⟨z0,z1,z2⟩,rfl,trivial⟩) h
 exact⟨A,len,cap,l,h1,h2,h3,h4,h5⟩
end
structure qQ(x:Nrm):Prop where
 z0:x.cls.length<=9223372036854775807
 z1:x.dec.length<=9223372036854775807
 z2:x.exc.length<=9223372036854775807
 ze:∀i,(hi:i<x.dec.length)->x.dec[i].to.length<=9223372036854775807/\x.dec[i].tag.size<=9223372036854775807
section
variable {H:Type}{enc:TypeId×Value->H}{w:Wv}{base:Nat}{spare:Nat->Bool}{held:Bool}
end
theorem xR:prog.globalNamed "unicodetext/ordering.hangulRanges"=Z 0:=by kernel_rfl
theorem NU:(prog.globals[0]?).map (·.type)=Z 149:=by kernel_rfl
theorem laid_of{W:Wv}(h:laidMet prog [("unicodetext/ordering.hangulRanges",Rows.laid_unicodetext_ordering_hangulRanges)] W):dL W:=by
 obtain⟨ps,⟨g',t',cs,fuel,p,q,hg',ht',hvar,hd,_,_⟩,_⟩:=h;obtain rfl:=Option.some.inj (xR.symm.trans hg');obtain rfl:=Option.some.inj (NU.symm.trans ht');have cr:prog.cellsOf 126=2:=by kernel_rfl
 have ci:prog.cellsOf 3=1:=by kernel_rfl
 obtain⟨xs,m,_,hxy,hlen,hxl,hel⟩:=DataW.trod_array underlying149 hd;match xs,hxl with
 | [y0,y1,y2,y3],_=>
  simp only[Rows.laid_unicodetext_ordering_hangulRanges,Prod.mk.injEq,DataW.agg.injEq,List.map_cons,List.map_nil,List.cons.injEq,and_true]at hxy;obtain⟨⟨e0,e1,e2,e3⟩,_⟩:=hxy;have pair:∀(enc:TypeId×Value->Unit)(base:Nat)(spare:Nat->Bool)(held:Bool)(i:Nat)(a b:Int)(y:DataW Unit×List MemPlace),DataW.trod enc prog W base spare held m 126 ((cs.toList.drop (i*2)).take 2)=Z y->.agg [.lit (.int .i64 a),.lit (.int .i64 b)]=y.1->cs.toList[i*2]?=Z (I J a)/\cs.toList[i*2+1]?=Z (I J b):=by
   intro enc base spare held i a b y hy he;obtain⟨zs,k,_,hz,hzl,hzn,hfs⟩:=DataW.trod_struct underlying126 hy;match zs,hzn with
   | [u0,u1],_=>
    have g0:=hfs 0 _ rfl;have g1:=hfs 1 _ rfl;obtain⟨z0,f0,rfl,_⟩:=DataW.trod_int underlying3 g0;obtain⟨z1,f1,rfl,_⟩:=DataW.trod_int underlying3 g1;subst hz;simp at he;obtain⟨rfl,rfl⟩:=he;have h0:=congrArg (·[0]?) f0;have h1:=congrArg (·[0]?) f1;simp[ci,List.getElem?_drop]at h0 h1;exact⟨by simpa using h0,by simpa using h1⟩
  rw[cr]at hel;have p0:=pair _ _ _ _ 0 _ _ _ (hel 0 (by omega)) e0;have p1:=pair _ _ _ _ 1 _ _ _ (hel 1 (by omega)) e1;have p2:=pair _ _ _ _ 2 _ _ _ (hel 2 (by omega)) e2;have p3:=pair _ _ _ _ 3 _ _ _ (hel 3 (by omega)) e3;have cell:=fun i=>World.var?_cell xR hvar i
  simp only[<-Array.getElem?_toList]at cell;exact⟨(cell 0).trans p0.1,(cell 1).trans p0.2,(cell 2).trans p1.1,(cell 3).trans p1.2,(cell 4).trans p2.1,(cell 5).trans p2.2,(cell 6).trans p3.1,(cell 7).trans p3.2⟩
end
section
open Go.RowKit Go.Maps Go.WideMaps
theorem tE:Keyed prog 9:=string_keyed underlying9
theorem EH(w:Wv):(zeroValue 4).run prog w=.ok (.bool false) w:=by kernel_rfl
theorem tA{s:ByteArray}(h:s.size<=9223372036854775807):keyOf prog 9 (.string s)=Z (nO s):=keyOf_string_mk underlying9 (by unfold maxLen;exact h)
theorem uD{s:ByteArray}(h:s.size<=9223372036854775807):sok s:=by unfold sok maxLen;exact h
instance (s:ByteArray) (l:List ByteArray):Decidable (s∈l):=decidable_of_iff (l.any (fun x=>decide (x=s))=true) (by simp)
def jY(l:List ByteArray)(s:ByteArray):Option Value:=if s∈l then Z (.bool true)else N
theorem ZA{l:List ByteArray}{s:ByteArray}(h:s∈l):(jY l s).getD (.bool false)=.bool true:=by unfold jY;rw[if_pos h];rfl
theorem YZ{l:List ByteArray}{s:ByteArray}(h:s ∉ l):(jY l s).getD (.bool false)=.bool false:=by unfold jY;rw[if_neg h];rfl
theorem Y_(l:List ByteArray)(s:ByteArray)(x:ByteArray):jY (l++[s]) x=if x=s then Z (.bool true)else jY l x:=by
 unfold jY;by_cases h:x=s
 ·simp[h]
 simp[h]
theorem IX(A:Oa)(n a:Nat)(B:Oa)(m b:Nat)(c:Col)(w:Wv)(h:aU w A n B m c)(hb65:c.base<=65502)(hbig:m<=1048576):
  Calls prog 64 #[aQ A n a B m b c] w (cA (dI c.base c.grps) w):=by
 obtain⟨ents,gs,base,second,third⟩:=c;obtain⟨_,hG,hn,hm,hs⟩:=h;dsimp only at hG hn hm hs hb65;subst hm;unfold aQ;dsimp only;have HS:=G (fun i(hi:i<gs.length)=>hs gs[i] (List.getElem_mem hi));have HG:=G hG;have hmm:=@run_makeMap prog;clear hs hG hn;go_enter func64,ntmps64;go_wp2;have B0:By w (w.alloc (.cells #[H A n a,H B gs.length b,I J base,I J second,I J third] 32)):=ba _ _;have s0:(w.alloc (.cells #[H A n a,H B gs.length b,I J base,I J second,I J third] 32)).heap.size=w.heap.size+1:=by simp
 have k1:(w.alloc (.cells #[H A n a,H B gs.length b,I J base,I J second,I J third] 32)).cell? ⟨w.heap.size,1,N⟩=Z (H B gs.length b):=by simp
 have k2:(w.alloc (.cells #[H A n a,H B gs.length b,I J base,I J second,I J third] 32)).cell? ⟨w.heap.size,2,N⟩=Z (I J base):=by simp
 obtain⟨W0,hW0⟩:∃W0,w.alloc (.cells #[H A n a,H B gs.length b,I J base,I J second,I J third] 32)=W0:=⟨_,rfl⟩;rw[hW0]at B0 s0 k1 k2|-;clear hW0;have HG0:=G (HG.out.below B0);have K:=G (And.intro k1 k2);have S0:=G s0;have hx0:w.heap.size<W0.heap.size:=by omega
 clear HG k1 k2 s0;go_loopw [4,15] (fun _ u wr=>∃i:Nat,i<=gs.length/\u=I J i/\(∀t,(ht:t<gs.length)->t<i->cO gs[t].name=true)/\By W0 wr) (fun _ u _=>gs.length-(intOf u).toNat)
 case atStart=>exact⟨0,Nat.zero_le _,rfl,fun t _ h=>by omega,Below.refl _ _⟩
 obtain⟨i,hi,rfl,h6,hb⟩:=hrel;have H6:=G h6;clear h6;by_cases hlt:i<gs.length
 ·obtain⟨b1,o1,rfl,hbl,hcell⟩:=(HG0.out.below hb).at hlt
  obtain⟨c1,c2,c3⟩:=hcell i hlt;have hss:=HS.out i hlt;have HB:=G (fun h=>x_ (base:=base) hlt h);have HN:=G (fun h=>cW (P:=fun g=>cO g.name=true) hlt H6.out h);clear hcell;generalize gs[i].name=nm at *;generalize gs[i].lo=lo at *;generalize gs[i].hi=hi' at *;go_wp2_with fail;refine(PF nm _ hss).mono ?_;rintro e w1 ⟨rfl,rfl⟩;cases hnm:cO nm
  ·go_wp2_with fail
   go_ret;exact⟨aE (HB.out hnm).symm,B0.trans ((hb.alloc hb.size _).mono B0.size)⟩
  go_wp2_with fail;go_roundw
  case rel=>exact⟨i+1,by omega,by go_num,HN.out hnm,hb.alloc hb.size _⟩
  simp[intOf];omega
 have H6':=G (fun t(ht:t<gs.length)=>H6.out t ht (by omega));clear H6;have f1:=(hb.cell (p:=⟨w.heap.size,1,N⟩) hx0).trans K.out.1;have hx1:w.heap.size<wr.heap.size:=by have:=hb.size;omega
 go_wp2;have hM0:=aT.made prog 9 nO sok wr;have hb1:=hb.alloc hb.size (.map #[] 0);obtain⟨mb,hmb⟩:∃mb,wr.heap.size=mb:=⟨_,rfl⟩;rw[hmb]at hM0|-;have hmb0:W0.heap.size<=mb:=by have:=hb.size;omega
 obtain⟨W1,hW1⟩:∃W1,wr.alloc (.map #[] 0)=W1:=⟨_,rfl⟩;rw[hW1]at hM0 hb1|-;clear hW1 hmb hb f1 hx1;go_loopw [7,28] (fun _ u wr=>∃i:Nat,i<=gs.length/\u=I J i/\(nms gs i).Nodup/\FA prog 9 wr mb i (jY (nms gs i))/\By W0 wr) (fun _ u _=>gs.length-(intOf u).toNat)
 case atStart=>exact⟨0,Nat.zero_le _,rfl,by simp[nms],hM0.ext (fun x _=>by simp[nms,jY]),hb1⟩
 obtain⟨i,hi,rfl,h5,hM,hb⟩:=hrel;have H5:=G h5;clear h5;have HM:=G hM;clear hM;by_cases hlt:i<gs.length
 ·obtain⟨b1,o1,rfl,hbl,hcell⟩:=(HG0.out.below hb).at hlt
  obtain⟨c1,c2,c3⟩:=hcell i hlt;have hss:=HS.out i hlt;have HB:=G (fun h=>xZ (base:=base) H6'.out (zK hlt h));have HN:=G (fun h=>zL hlt H5.out h);have HE:=G (pR hlt);clear hcell;generalize gs[i].name=nm at *;generalize gs[i].lo=lo at *;generalize gs[i].hi=hi' at *;by_cases hin:nm∈nms gs i
  ·have HV:=G (ZA hin)
   go_wp2_with(at_lookup;refine qJ rfl _ _ 164 rfl (HM.out.alloc _) tE underlying164 (EH _) rfl rfl (uD hss) (tA hss) ?_;rw[HV.out]);go_ret;exact⟨aE (HB.out hin).symm,B0.trans ((hb.alloc hb.size _).mono B0.size)⟩
  have HV:=G (YZ hin);have HP:=G (fun x=>Y_ (nms gs i) nm x)
  go_wp2_with(first
   |(at_lookup;refine qJ rfl _ _ 164 rfl (HM.out.alloc _) tE underlying164 (EH _) rfl rfl (uD hss) (tA hss) ?_;rw[HV.out])
   | (at_mapUpdate;refine nV rfl _ _ _ 164 rfl (HM.out.alloc _) tE underlying164 (by unfold maxLen;omega) rfl rfl rfl (uD hss) (tA hss) (fun y _ e=>ZI e) ?_;intro w9 hM9 hg9))
  have hb9:=kD (hb.alloc hb.size (.cells #[.string nm,I J lo,I J hi'] 130)) hg9 hmb0 (by have:=hb.size;simp;omega);have HM9:=G hM9;clear hM9 hg9;go_roundw
  case rel=>exact⟨i+1,by omega,by go_num,HN.out hin,by rw[HE.out];exact HM9.out.ext (fun x _=>HP.out x),hb9⟩
  simp[intOf];omega
 have H5':=G (show(gs.map Grp.name).Nodup by rw[<-zJ,show gs.length=i by omega];exact H5.out);clear H5 HM;have f1:=(hb.cell (p:=⟨w.heap.size,1,N⟩) hx0).trans K.out.1;go_wp2;clear f1;go_loopw [9,43] (fun _ u wr=>∃i:Nat,i<=gs.length/\u=I J i/\(∀t,(ht:t<gs.length)->t<i->¬fP base gs[t])/\By W0 wr) (fun _ u _=>gs.length-(intOf u).toNat)
 case atStart=>exact⟨0,Nat.zero_le _,rfl,fun t _ h=>by omega,hb⟩
 obtain⟨i,hi,rfl,h1,hb⟩:=hrel;have H1:=G h1;clear h1;have hx1:w.heap.size<wr.heap.size:=by have:=hb.size;omega
 by_cases hlt:i<gs.length
 ·obtain⟨b1,o1,rfl,hbl,hcell⟩:=(HG0.out.below hb).at hlt
  obtain⟨c1,c2,c3⟩:=hcell i hlt;have f2:=(hb.cell (p:=⟨w.heap.size,2,N⟩) hx0).trans K.out.2;have HD:=U (fP base gs[i] ↔ (gs[i].lo<1\/gs[i].hi<gs[i].lo\/base<=gs[i].hi)) Iff.rfl;have HB:=G (fun h=>xX (base:=base) H6'.out H5'.out hlt h);have HN:=G (fun h=>cW (P:=fun g=>¬fP base g) hlt H1.out h);clear hcell;generalize fP base gs[i]=Bd at *;generalize gs[i].name=nm at *;generalize gs[i].lo=lo at *;generalize gs[i].hi=hi' at *;go_wp2
  all_goals first
   | (go_ret
      exact⟨aE (HB.out (HD.out.2 (by omega))).symm,B0.trans ((hb.alloc hb.size _).mono B0.size)⟩)
   | (go_roundw
      case rel=>exact⟨i+1,by omega,by go_num,HN.out (fun h=>by have:=HD.out.1 h;omega),hb.alloc hb.size _⟩
      case measure=>simp[intOf];omega)
 have H1':=G (fun t(ht:t<gs.length)=>H1.out t ht (by omega));clear H1;have f1:=(hb.cell (p:=⟨w.heap.size,1,N⟩) hx0).trans K.out.1;go_wp2;clear f1;go_loopw [10,11,68] (fun _ _ u wr=>∃i:Nat,i<=gs.length/\u=I J i/\(∀t,(ht:t+1<gs.length)->t+1<i->gs[t+1].lo=gs[t].hi+1)/\By W0 wr) (fun _ _ u _=>gs.length-(intOf u).toNat)
 case atStart=>exact⟨0,Nat.zero_le _,rfl,fun t _ h=>by omega,hb⟩
 obtain⟨i,hi,rfl,h4,hb⟩:=hrel;have H4:=G h4;clear h4;have hx1:w.heap.size<wr.heap.size:=by have:=hb.size;omega
 by_cases hlt:i<gs.length
 ·obtain⟨b1,o1,rfl,hbl,hcell⟩:=(HG0.out.below hb).at hlt
  obtain⟨c1,c2,c3⟩:=hcell i hlt;have f1:=(hb.cell (p:=⟨w.heap.size,1,N⟩) hx0).trans K.out.1;by_cases hp:0<i
  ·have hp1:i-1<gs.length:=by omega
   have d3:=(hcell (i-1) hp1).2.2;have HX:=H1'.out (i-1) hp1;unfold fP at HX;have e1:i-1+1=i:=by omega
   have HB:=G (fun(h:gs[i].lo≠(gs[i-1]'hp1).hi+1)=>xY (base:=base) H6'.out H5'.out H1'.out (k:=i-1) (by omega) (by simpa only[e1]using h))
   have HN:=G (fun(h:gs[i].lo=(gs[i-1]'hp1).hi+1)=>show ∀t,(ht:t+1<gs.length)->t+1<i+1->gs[t+1].lo=gs[t].hi+1 from fun t ht g=>by
    by_cases e:t+1<i
    ·exact H4.out t ht e
    ·obtain rfl:t=i-1:=by omega
     simpa only[e1]using h)
   have hz:1<=(gs[i-1]'hp1).hi/\(gs[i-1]'hp1).hi<65502:=by omega
   clear hcell e1 HX;generalize gs[i].name=nm at *;generalize gs[i].lo=lo at *;generalize gs[i].hi=hi' at *;generalize (gs[i-1]'hp1).hi=ph at *;have i1:(0:Int)<=(i:Int)-1:=by omega
   have i2:(i:Int)-1<(gs.length:Int):=by omega
   have i3:((i:Int)-1).toNat=i-1:=by omega
   have w1:IntKind.i64.wrap ((i:Int)-1)=(i:Int)-1:=IntWalk.i64_in _ (by omega);have w2:IntKind.i64.wrap (ph+1)=ph+1:=IntWalk.i64_in _ (by omega);by_cases hq:lo=ph+1
   ·have q1:(lo !=ph+1)=false:=by simpa using hq
    have HQ:=G (HN.out hq);clear hq HN HB;go_wp2_with fail;go_quiet(fail);clear i3 w1 w2;go_wp2_with fail;go_roundw
    case rel=>exact⟨i+1,by omega,by go_num,HQ.out,⟨hb.os,hb.tape,hb.output,(hb.alloc hb.size _).size,(hb.alloc hb.size _).block⟩⟩
    simp[intOf];omega
   have q1:(lo !=ph+1)=true:=by simpa using hq
   have HQ:=G (HB.out hq);clear hq HN HB;go_wp2_with fail;go_quiet(fail);clear i3 w1 w2;go_wp2_with fail;go_ret;exact⟨aE HQ.out.symm,B0.trans (Below.mono ⟨hb.os,hb.tape,hb.output,(hb.alloc hb.size _).size,(hb.alloc hb.size _).block⟩ B0.size)⟩
  have hp0:decide ((0:Int)<(i:Int))=false:=by simp;omega
  have HQ:=U (∀t,(ht:t+1<gs.length)->t+1<i+1->gs[t+1].lo=gs[t].hi+1) (fun t ht g=>by omega);clear hcell;generalize gs[i].name=nm at *;generalize gs[i].lo=lo at *;generalize gs[i].hi=hi' at *;go_wp2_with fail;go_quiet(fail);go_wp2_with fail;go_roundw
  case rel=>exact⟨i+1,by omega,by go_num,HQ.out,⟨hb.os,hb.tape,hb.output,(hb.alloc hb.size _).size,(hb.alloc hb.size _).block⟩⟩
  simp[intOf];omega
 have HF:=G (xW (base:=base) H6'.out H5'.out H1'.out (fun t ht=>H4.out t ht (by omega)));go_wp2;go_ret;exact⟨aE HF.out.symm,B0.trans (hb.mono B0.size)⟩
theorem V_(A:Oa)(n a:Nat)(B:Oa)(m b:Nat)(c:Col)(w:Wv)(h:aU w A n B m c)(hb65:c.base<=65502)(hbig:m<=1048576):
  Calls prog 82 #[aQ A n a B m b c] w (cA (dI c.base c.grps) w):=by
 obtain⟨ents,gs,base,second,third⟩:=c;obtain⟨_,hG,hn,hm,hs⟩:=h;dsimp only at hG hn hm hs hb65;subst hm;unfold aQ;dsimp only;have HS:=G (fun i(hi:i<gs.length)=>hs gs[i] (List.getElem_mem hi));have HG:=G hG;clear hs hG hn;go_enter func82,ntmps82;go_wp2;have B0:By w (w.alloc (.cells #[H A n a,H B gs.length b,I J base,I J second,I J third] 32)):=ba _ _;have s0:(w.alloc (.cells #[H A n a,H B gs.length b,I J base,I J second,I J third] 32)).heap.size=w.heap.size+1:=by simp
 have k2:(w.alloc (.cells #[H A n a,H B gs.length b,I J base,I J second,I J third] 32)).cell? ⟨w.heap.size,2,N⟩=Z (I J base):=by simp
 obtain⟨W0,hW0⟩:∃W0,w.alloc (.cells #[H A n a,H B gs.length b,I J base,I J second,I J third] 32)=W0:=⟨_,rfl⟩;rw[hW0]at B0 s0 k2|-;clear hW0;have HG0:=G (HG.out.below B0);have K:=G k2;have hx0:w.heap.size<W0.heap.size:=by omega
 clear HG k2 s0;go_loopw [4] (fun u wr=>∃i:Nat,i<=gs.length/\u=I J i/\(∀t,(ht:t<gs.length)->t<i->cO gs[t].name=true)/\By W0 wr) (fun u _=>gs.length-(intOf u).toNat)
 case atStart=>exact⟨0,Nat.zero_le _,rfl,fun t _ h=>by omega,Below.refl _ _⟩
 obtain⟨i,hi,rfl,h6,hb⟩:=hrel;have H6:=G h6;clear h6;by_cases hlt:i<gs.length
 ·obtain⟨b1,o1,rfl,hbl,hcell⟩:=(HG0.out.below hb).at hlt
  obtain⟨c1,c2,c3⟩:=hcell i hlt;have hss:=HS.out i hlt;have HB:=G (fun h=>x_ (base:=base) hlt h);have HN:=G (fun h=>cW (P:=fun g=>cO g.name=true) hlt H6.out h);clear hcell;generalize gs[i].name=nm at *;go_wp2_with fail;refine(qP nm _ hss).mono ?_;rintro e w1 ⟨rfl,rfl⟩;cases hnm:cO nm
  ·go_wp2_with fail
   go_ret;exact⟨aE (HB.out hnm).symm,B0.trans (hb.mono B0.size)⟩
  go_wp2_with fail;go_roundw
  case rel=>exact⟨i+1,by omega,by go_num,HN.out hnm,hb⟩
  simp[intOf];omega
 have H6':=G (fun t(ht:t<gs.length)=>H6.out t ht (by omega));clear H6;go_wp2;go_loopw [5,6] (fun u _ wr=>∃i:Nat,i<=gs.length/\u=I J i/\(nms gs i).Nodup/\By W0 wr) (fun u _ _=>gs.length-(intOf u).toNat)
 case atStart=>exact⟨0,Nat.zero_le _,rfl,by simp[nms],hb⟩
 obtain⟨i,hi,rfl,h5,hb⟩:=hrel;have H5:=G h5;clear h5;by_cases hlt:i<gs.length
 ·have HE:=G (pR hlt)
  obtain⟨wo,rfl⟩:∃wo:Wv,wo=wr:=⟨_,rfl⟩;go_wp2;go_loopw [6] (fun v wr=>∃k:Nat,k<=i/\v=I J k/\(∀t,(ht:t<k)->(htt:t<gs.length)->gs[t].name≠gs[i].name)/\By W0 wr) (fun v _=>i-(intOf v).toNat)
  case atStart=>exact⟨0,Nat.zero_le _,rfl,fun t h=>by omega,hb⟩
  obtain⟨k,hk,rfl,hne,hb⟩:=hrel;have HNE:=G hne;clear hne;by_cases hki:k<i
  ·have hkl:k<gs.length:=by omega
   obtain⟨b1,o1,rfl,hbl,hcell⟩:=(HG0.out.below hb).at hlt;have c1:=(hcell i hlt).1;have d1:=(hcell k hkl).1;have HB:=G (fun(h:gs[k].name=gs[i].name)=>xZ (base:=base) H6'.out (zK hlt (by unfold nms;rw[<-h];exact List.mem_map.2 ⟨gs[k],List.mem_take_iff_getElem.2 ⟨k,by omega,rfl⟩,rfl⟩)))
   have HN:=G (fun(h:gs[k].name≠gs[i].name)=>show ∀t,(ht:t<k+1)->(htt:t<gs.length)->gs[t].name≠gs[i].name from fun t ht htt=>by
    by_cases e:t<k
    ·exact HNE.out t e htt
    ·obtain rfl:t=k:=by omega
     exact h)
   clear hcell;generalize gs[i].name=nm at *;generalize gs[k].name=nk at *;have i1:(k:Int)<(gs.length:Int):=by omega
   have i2:(i:Int)<(gs.length:Int):=by omega
   by_cases hq:nk=nm
   ·have q1:=DD hq
    have HQ:=G (HB.out hq);clear hq HB HN;go_wp2_with fail;go_quiet(fail);go_wp2_with fail;go_ret;exact⟨aE HQ.out.symm,B0.trans ((bP hb _).mono B0.size)⟩
   have q1:=uE hq;have HQ:=G (HN.out hq);clear hq HB HN;go_wp2_with fail;go_quiet(fail);go_wp2_with fail;go_roundw
   case rel=>exact⟨k+1,by omega,by go_num,HQ.out,bP hb _⟩
   simp[intOf];omega
  ·have HQ:=G (zL hlt H5.out (fun hin=>by
    unfold nms at hin
    obtain⟨g,hg,he⟩:=List.mem_map.1 hin
    obtain⟨t,ht,rfl⟩:=List.mem_take_iff_getElem.1 hg
    exact HNE.out t (by omega) (by omega) he))
   go_wp2_with fail;go_roundw
   case rel=>exact⟨i+1,by omega,by go_num,HQ.out,hb⟩
   simp[intOf];omega
 have H5':=G (show(gs.map Grp.name).Nodup by rw[<-zJ,show gs.length=i by omega];exact H5.out);clear H5;go_wp2;go_loopw [7] (fun u wr=>∃i:Nat,i<=gs.length/\u=I J i/\(∀t,(ht:t<gs.length)->t<i->¬fP base gs[t])/\By W0 wr) (fun u _=>gs.length-(intOf u).toNat)
 case atStart=>exact⟨0,Nat.zero_le _,rfl,fun t _ h=>by omega,hb⟩
 obtain⟨i,hi,rfl,h1,hb⟩:=hrel;have H1:=G h1;clear h1;by_cases hlt:i<gs.length
 ·obtain⟨b1,o1,rfl,hbl,hcell⟩:=(HG0.out.below hb).at hlt
  obtain⟨c1,c2,c3⟩:=hcell i hlt;have f2:=(hb.cell (p:=⟨w.heap.size,2,N⟩) hx0).trans K.out;have HD:=U (fP base gs[i] ↔ (gs[i].lo<1\/gs[i].hi<gs[i].lo\/base<=gs[i].hi)) Iff.rfl;have HB:=G (fun h=>xX (base:=base) H6'.out H5'.out hlt h);have HN:=G (fun h=>cW (P:=fun g=>¬fP base g) hlt H1.out h);have i1:(i:Int)<(gs.length:Int):=by omega
  clear hcell;generalize fP base gs[i]=Bd at *;generalize gs[i].lo=lo at *;generalize gs[i].hi=hi' at *
  obtain⟨d1,hbad⟩|⟨d1,d2,hbad⟩|⟨d1,d2,d3,hbad⟩|⟨d1,d2,d3,hok⟩:(decide (lo<1)=true/\Hid (lo<1))\/(decide (lo<1)=false/\decide (hi' < lo)=true/\Hid (hi' < lo))\/(decide (lo<1)=false/\decide (hi' < lo)=false/\decide (base<=hi')=true/\Hid (base<=hi'))\/(decide (lo<1)=false/\decide (hi' < lo)=false/\decide (base<=hi')=false/\Hid (¬(lo<1\/hi' < lo\/base<=hi'))):=by
   unfold Hid;simp only[decide_eq_true_eq,decide_eq_false_iff_not];omega
  ·have HQ:=G (HB.out (HD.out.2 (.inl hbad.out)))
   go_wp2_with fail;go_quiet(fail);go_wp2_with fail;go_ret;exact⟨aE HQ.out.symm,B0.trans ((bP hb _).mono B0.size)⟩
  ·have HQ:=G (HB.out (HD.out.2 (.inr (.inl hbad.out))))
   go_wp2_with fail;go_quiet(fail);go_wp2_with fail;go_ret;exact⟨aE HQ.out.symm,B0.trans ((bP hb _).mono B0.size)⟩
  ·have HQ:=G (HB.out (HD.out.2 (.inr (.inr hbad.out))))
   go_wp2_with fail;go_quiet(fail);go_wp2_with fail;go_ret;exact⟨aE HQ.out.symm,B0.trans ((bP hb _).mono B0.size)⟩
  have HQ:=G (HN.out (fun h=>hok.out (HD.out.1 h)));go_wp2_with fail;go_quiet(fail);go_wp2_with fail;go_roundw
  case rel=>exact⟨i+1,by omega,by go_num,HQ.out,bP hb _⟩
  simp[intOf];omega
 have H1':=G (fun t(ht:t<gs.length)=>H1.out t ht (by omega));clear H1;go_wp2;go_loopw [8] (fun u wr=>∃i:Nat,i<=gs.length/\u=I J ((i:Int)+1)/\(∀t,(ht:t+1<gs.length)->t<i->gs[t+1].lo=gs[t].hi+1)/\By W0 wr) (fun u _=>gs.length+1-(intOf u).toNat)
 case atStart=>exact⟨0,Nat.zero_le _,rfl,fun t _ h=>by omega,hb⟩
 obtain⟨i,hi,rfl,h4,hb⟩:=hrel;have H4:=G h4;clear h4;by_cases hlt:i+1<gs.length
 ·obtain⟨b1,o1,rfl,hbl,hcell⟩:=(HG0.out.below hb).at hlt
  have c2:=(hcell (i+1) hlt).2.1;have d3:=(hcell i (by omega)).2.2;have HX:=H1'.out i (by omega);unfold fP at HX;have HB:=G (fun h=>xY (base:=base) H6'.out H5'.out H1'.out hlt h);have HN:=G (fun h=>zAz (P:=fun a b=>b.lo=a.hi+1) hlt H4.out h);have hz:1<=gs[i].hi/\gs[i].hi<65502:=by omega
  clear hcell HX;generalize gs[i+1].lo=lo at *;generalize gs[i].hi=ph at *;have i0:(0:Int)<=(i:Int)+1:=by omega
  have i1:(0:Int)<=(i:Int)+1-1:=by omega
  have i2:(i:Int)+1-1<(gs.length:Int):=by omega
  have i4:(i:Int)+1<(gs.length:Int):=by omega
  have i5:((i:Int)+1).toNat=i+1:=by omega
  have i3:((i:Int)+1-1).toNat=i:=by omega
  have w1:IntKind.i64.wrap ((i:Int)+1-1)=(i:Int)+1-1:=IntWalk.i64_in _ (by omega);have w2:IntKind.i64.wrap (ph+1)=ph+1:=IntWalk.i64_in _ (by omega);by_cases hq:lo=ph+1
  ·have q1:(lo !=ph+1)=false:=by simpa using hq
   have HQ:=G (HN.out hq);clear hq HN HB;go_wp2_with fail;go_quiet(fail);clear i3 i5 w1 w2;go_wp2_with fail;go_roundw
   case rel=>exact⟨i+1,by omega,by go_num,HQ.out,bP hb _⟩
   simp[intOf];omega
  have q1:(lo !=ph+1)=true:=by simpa using hq
  have HQ:=G (HB.out hq);clear hq HN HB;go_wp2_with fail;go_quiet(fail);clear i3 i5 w1 w2;go_wp2_with fail;go_ret;exact⟨aE HQ.out.symm,B0.trans ((bP hb _).mono B0.size)⟩
 have HF:=G (xW (base:=base) H6'.out H5'.out H1'.out (fun t ht=>H4.out t ht (by omega)));go_wp2;go_ret;exact⟨aE HF.out.symm,B0.trans (hb.mono B0.size)⟩
section
variable {base:Int}{x:Ent}
theorem MX{α:Type}{f:α->Int}{l:List α}{k:Nat}(hk:k<l.length)(h0:∀t,(ht:t<l.length)->t<k->f l[t]=0)(h:f l[k]≠0):kJ (l.map f)=f l[k]:=by
 induction l generalizing k with
 |nil=>simp at hk
 |cons a r ih=>
  cases k with
  |zero=>
   simp only[List.getElem_cons_zero]at *;simp[kJ,h]
  |succ k=>
   have:=h0 0 (by simp) (by omega);simp only[List.getElem_cons_zero]at this;simp only[List.map_cons,kJ,this,if_true,List.getElem_cons_succ];exact ih (by simpa using hk) (fun t ht h9=>by have:=h0 (t+1) (by simpa using ht) (by omega);simpa using this) (by simpa using h)
theorem xK{α:Type}{f:α->Int}{l:List α}(h0:∀t,(ht:t<l.length)->f l[t]=0):kJ (l.map f)=0:=by
 induction l with
 |nil=>rfl
 |cons a r ih=>
  have:=h0 0 (by simp);simp only[List.getElem_cons_zero]at this;simp only[List.map_cons,kJ,this,if_true];exact ih fun t ht=>by have:=h0 (t+1) (by simpa using ht);simpa using this
def iI(x:Ent):Prop:=x.codes.length<1\/8<x.codes.length\/16<x.elems.length
theorem rZ(h:iI x):cD base x=2:=by unfold iI at h;unfold cD;rw[if_pos h]
theorem wZ(h:¬iI x){k:Nat}(hk:k<x.codes.length)(hc:inR 0 1114111 x.codes[k]=false):cD base x=1:=by
 unfold iI at h;unfold cD;rw[if_neg h,if_pos (iA hk (by simpa using lN.1 hc))]
theorem rW(h:∀t,(ht:t<x.codes.length)->inR 0 1114111 x.codes[t]=true):x.codes.any (fun c=>decide (c<0\/1114111<c))=false:=fO fun t ht=>by
 have:=iD.1 (h t ht);simp;omega
theorem w_(h:¬iI x)(hc:∀t,(ht:t<x.codes.length)->inR 0 1114111 x.codes[t]=true){k:Nat}(hk:k<x.elems.length)(h0:∀t,(ht:t<x.elems.length)->t<k->dS x.elems[t]=0)(he:dS x.elems[k]≠0):cD base x=dS x.elems[k]:=by
 unfold iI at h;unfold cD;rw[if_neg h,if_neg (by rw[rW hc];simp),MX hk h0 he,if_pos he]
theorem xE(h:¬iI x)(hc:∀t,(ht:t<x.codes.length)->inR 0 1114111 x.codes[t]=true)(h0:∀t,(ht:t<x.elems.length)->dS x.elems[t]=0){k:Nat}(hk:k<x.elems.length)(he:base<=x.elems[k].p):cD base x=1:=by
 unfold iI at h;unfold cD;rw[if_neg h,if_neg (by rw[rW hc];simp),xK h0,if_neg (by simp),if_pos (iA hk (by simpa using he))]
theorem wY(h:¬iI x)(hc:∀t,(ht:t<x.codes.length)->inR 0 1114111 x.codes[t]=true)(h0:∀t,(ht:t<x.elems.length)->dS x.elems[t]=0)(he:∀t,(ht:t<x.elems.length)->¬base<=x.elems[t].p):cD base x=0:=by
 unfold iI at h;unfold cD;rw[if_neg h,if_neg (by rw[rW hc];simp),xK h0,if_neg (by simp),if_neg (by rw[fO fun t ht=>by simpa using he t ht];simp)]
end
theorem IW(C:Oa)(c:Nat)(E:Oa)(d:Nat)(x:Ent)(base:Int)(w:Wv)(hC:aA w C x.codes)(hE:cJ w E x.elems)(h1:x.codes.length<=1048576)(h2:x.elems.length<=1048576):
  Calls prog 65 #[.agg #[H C x.codes.length c,H E x.elems.length d],I J base] w (cA (cD base x) w):=by
 have HSZ:=U (iI x ↔ (x.codes.length<1\/8<x.codes.length\/16<x.elems.length)) Iff.rfl;have HC:=G hC;have HE:=G hE;have B0:By w (w.alloc (.cells #[H C x.codes.length c,H E x.elems.length d] 109)):=ba _ _;clear hC hE;by_cases hsz:x.codes.length<1\/8<x.codes.length\/16<x.elems.length
 ·have HQ:=G (rZ (base:=base) (HSZ.out.2 hsz))
  generalize cD base x=R at *;obtain hsz|⟨g1,hsz⟩|⟨g1,g2,hsz⟩:x.codes.length<1\/(¬x.codes.length<1/\8<x.codes.length)\/(¬x.codes.length<1/\¬8<x.codes.length/\16<x.elems.length):=by omega
  all_goals
   go_enter func65,ntmps65;go_wp2;go_ret;exact⟨aE HQ.out.symm,B0⟩
 have HSZN:=G (fun h=>hsz (HSZ.out.1 h));have z1:¬x.codes.length<1:=by omega
 have z2:¬8<x.codes.length:=by omega
 have z3:¬16<x.elems.length:=by omega
 clear hsz HSZ;go_enter func65,ntmps65;go_wp2;have s0:(w.alloc (.cells #[H C x.codes.length c,H E x.elems.length d] 109)).heap.size=w.heap.size+1:=by simp
 have k1:(w.alloc (.cells #[H C x.codes.length c,H E x.elems.length d] 109)).cell? ⟨w.heap.size,1,N⟩=Z (H E x.elems.length d):=by simp
 obtain⟨W0,hW0⟩:∃W0,w.alloc (.cells #[H C x.codes.length c,H E x.elems.length d] 109)=W0:=⟨_,rfl⟩;rw[hW0]at B0 s0 k1|-;clear hW0;have HC0:=G (HC.out.below B0);have HE0:=G (HE.out.below B0);have K:=G k1;have hx0:w.heap.size<W0.heap.size:=by omega
 clear HC HE k1 s0;go_loop [6,31] (fun _ u=>∃i:Nat,i<=x.codes.length/\u=I J i/\(∀t,(ht:t<x.codes.length)->t<i->inR 0 1114111 x.codes[t]=true)) (fun _ u=>x.codes.length-(intOf u).toNat)
 case atStart=>exact⟨0,Nat.zero_le _,rfl,fun t _ h=>by omega⟩
 obtain⟨i,hi,rfl,g1⟩:=hrel;have G1:=G g1;clear g1;by_cases hlt:i<x.codes.length
 ·obtain⟨b1,o1,rfl,hcell⟩:=HC0.out.at hlt
  have c1:=hcell i hlt;have HB:=G (fun h=>wZ (base:=base) HSZN.out hlt h);have HN:=G (fun h=>cW (P:=fun c=>inR 0 1114111 c=true) hlt G1.out h);clear hcell;generalize x.codes[i]=cd at *;go_wp2_with fail;refine(lY cd _).mono ?_;rintro e w1 ⟨rfl,rfl⟩;cases hv:inR 0 1114111 cd
  ·have HQ:=G (HB.out hv)
   go_wp2_with fail;go_ret;exact⟨aE HQ.out.symm,B0⟩
  have HQ:=G (HN.out hv);go_wp2_with fail;go_round
  case rel=>exact⟨i+1,by omega,by go_num,HQ.out⟩
  simp[intOf];omega
 have G1':=G (fun t(ht:t<x.codes.length)=>G1.out t ht (by omega));clear G1;have f1:=K.out;go_wp2;clear f1;go_loopw [8,9,42] (fun _ _ u wr=>∃i:Nat,i<=x.elems.length/\u=I J i/\(∀t,(ht:t<x.elems.length)->t<i->dS x.elems[t]=0)/\By W0 wr) (fun _ _ u _=>x.elems.length-(intOf u).toNat)
 case atStart=>exact⟨0,Nat.zero_le _,rfl,fun t _ h=>by omega,Below.refl _ _⟩
 obtain⟨i,hi,rfl,g2,hb⟩:=hrel;have G2:=G g2;clear g2;by_cases hlt:i<x.elems.length
 ·obtain⟨b1,o1,rfl,hbl,hcell⟩:=(HE0.out.below hb).at hlt
  obtain⟨c1,c2,c3,c4⟩:=hcell i hlt;have HB:=G (fun h=>w_ (base:=base) HSZN.out G1'.out hlt G2.out h);have HN:=G (fun h=>cW (P:=fun e=>dS e=0) hlt G2.out h);have CE:=G (fun W=>LN x.elems[i] W);clear hcell;generalize dS x.elems[i]=ev at *;generalize x.elems[i].p=p at *;generalize x.elems[i].s=s at *;generalize x.elems[i].t=t at *;generalize x.elems[i].v=v at *;go_wp2_with fail;refine(CE.out _).mono ?_;rintro e w1 ⟨rfl,hb1⟩;have hb2:=(hb.alloc hb.size (.cells #[I J p,I J s,I J t,.bool v] 106)).trans (hb1.mono (by have:=hb.size;simp;omega));clear hb1 c1 c2 c3 c4;by_cases hz:ev=0
  ·have q1:(ev !=0)=false:=by simpa using hz
   have HQ:=G (HN.out hz);clear hz HB HN;go_wp2_with fail;go_roundw
   case rel=>exact⟨i+1,by omega,by go_num,HQ.out,hb2⟩
   simp[intOf];omega
  have q1:(ev !=0)=true:=by simpa using hz
  have HQ:=G (HB.out hz);clear hz HB HN;go_wp2_with fail;go_ret;exact⟨aE HQ.out.symm,B0.trans (hb2.mono B0.size)⟩
 have G2':=G (fun t(ht:t<x.elems.length)=>G2.out t ht (by omega));clear G2;have f1:=(hb.cell (p:=⟨w.heap.size,1,N⟩) hx0).trans K.out;go_wp2;clear f1;go_loopw [11,55] (fun _ u wr=>∃i:Nat,i<=x.elems.length/\u=I J i/\(∀t,(ht:t<x.elems.length)->t<i->¬base<=x.elems[t].p)/\By W0 wr) (fun _ u _=>x.elems.length-(intOf u).toNat)
 case atStart=>exact⟨0,Nat.zero_le _,rfl,fun t _ h=>by omega,hb⟩
 obtain⟨i,hi,rfl,g3,hb⟩:=hrel;have G3:=G g3;clear g3;by_cases hlt:i<x.elems.length
 ·obtain⟨b1,o1,rfl,hbl,hcell⟩:=(HE0.out.below hb).at hlt
  obtain⟨c1,c2,c3,c4⟩:=hcell i hlt;have HB:=G (fun h=>xE (base:=base) HSZN.out G1'.out G2'.out hlt h);have HN:=G (fun h=>cW (P:=fun e=>¬base<=e.p) hlt G3.out h);clear hcell;generalize x.elems[i].p=p at *;generalize x.elems[i].s=s at *;generalize x.elems[i].t=t at *;generalize x.elems[i].v=v at *;by_cases hz:base<=p
  ·have HQ:=G (HB.out hz)
   clear HB HN;go_wp2;go_ret;exact⟨aE HQ.out.symm,B0.trans ((hb.alloc hb.size _).mono B0.size)⟩
  have HQ:=G (HN.out hz);clear HB HN;go_wp2;go_roundw
  case rel=>exact⟨i+1,by omega,by go_num,HQ.out,hb.alloc hb.size _⟩
  simp[intOf];omega
 have HQ:=G (wY (base:=base) HSZN.out G1'.out G2'.out (fun t ht=>G3.out t ht (by omega)));go_wp2;go_ret;exact⟨aE HQ.out.symm,B0.trans (hb.mono B0.size)⟩
end
section
open Go.RowKit
theorem qN(A B:Oa)(n m c d:Nat)(xs ys:Li)(w:Wv)(hA:aA w A xs)(hB:aA w B ys)(hn:xs.length=n)(hm:ys.length=m)
  (hn':n<=9223372036854775807) (hm':m<=9223372036854775807) :
  Calls prog 49 #[H A n c,H B m d] w fun e w'=>e=.returned (I J (aD xs ys))/\Qt w w':=by
 subst hn hm;go_enter func49,ntmps49;go_wp2;go_loopw [5] (fun i wr=>∃k:Nat,k<=xs.length/\k<=ys.length/\i=I J k/\Qt w wr/\aD xs ys=aD (xs.drop k) (ys.drop k)) (fun i _=>xs.length-(intOf i).toNat)
 case atStart=>exact⟨0,Nat.zero_le _,Nat.zero_le _,rfl,Qt.refl _,rfl⟩
 obtain⟨k,hk1,hk2,rfl,⟨q,rfl⟩,hcmp⟩:=hrel;have HC:=G hcmp;clear hcmp;by_cases h1:k<xs.length
 ·by_cases h2:k<ys.length
  ·obtain⟨b,o,rfl,hc⟩:=hA.at h1
   obtain⟨b',o',rfl,hc'⟩:=hB.at h2;have hx:=hc k h1;have hy:=hc' k h2;have HS:=G (rU xs ys k h1 h2);clear hc hc';generalize xs[k]=x at *;generalize ys[k]=y at *;by_cases hxy:x<y
   ·go_wp2
    go_quiet(fail);go_wp2;go_ret;exact⟨aE (Eq.symm (by rw[HC.out,HS.out,if_pos hxy])),by repeat(first|exact Qt.refl _|refine Qt.drewN ?_ _)⟩
   by_cases hyx:y<x
   ·go_wp2
    go_quiet(fail);go_wp2;go_quiet(fail);go_wp2;go_ret;exact⟨aE (Eq.symm (by rw[HC.out,HS.out,if_neg (show¬x<y by omega),if_pos hyx])),by repeat(first|exact Qt.refl _|refine Qt.drewN ?_ _)⟩
   go_wp2;go_quiet(fail);go_wp2;go_quiet(fail);go_wp2;go_roundw
   case rel=>exact⟨k+1,by omega,by omega,by go_num,by repeat(first|exact Qt.refl _|refine Qt.drewN ?_ _),by rw[HC.out,HS.out,if_neg (show¬x<y by omega),if_neg (show¬y<x by omega)]⟩
   simp[intOf];omega
  have HE:=G (rV xs ys k (by omega) hk1 hk2);have hl:ys.length<xs.length:=by omega
  go_wp2;go_ret;exact⟨aE (Eq.symm (by rw[HC.out,HE.out,if_neg (by omega),if_pos hl])),by repeat(first|exact Qt.refl _|refine Qt.drewN ?_ _)⟩
 have HE:=G (rV xs ys k (by omega) hk1 hk2);by_cases h2:k<ys.length
 ·go_wp2
  go_ret;exact⟨aE (Eq.symm (by rw[HC.out,HE.out,if_pos (by omega)])),by repeat(first|exact Qt.refl _|refine Qt.drewN ?_ _)⟩
 go_wp2;go_ret;exact⟨aE (Eq.symm (by rw[HC.out,HE.out,if_neg (by omega),if_neg (by omega)])),by repeat(first|exact Qt.refl _|refine Qt.drewN ?_ _)⟩
theorem lU(A B:Oa)(n m c d:Nat)(xs ys:Li)(w:Wv)(hA:aA w A xs)(hB:aA w B ys)(hn:xs.length=n)(hm:ys.length=m)
  (hn':n<=9223372036854775807) (hm':m<=9223372036854775807) :
  Calls prog 19 #[H A n c,H B m d] w fun e w'=>e=.returned (.bool (decide (xs=ys)))/\Qt w w':=by
 have hd:decide (xs=ys)=(aD xs ys==0):=by
  rw[Bool.eq_iff_iff];simp[iB]
 rw[hd];clear hd;have HC:=G (qN A B n m c d xs ys w hA hB hn hm hn' hm');clear hA hB hn hm;go_enter func19,ntmps19;go_wp2_with(go_at_call 49;refine HC.out.mono ?_;rintro e w' ⟨rfl,q,rfl⟩);go_ret;exact⟨rfl,by repeat(first|exact Qt.refl _|refine Qt.drewN ?_ _)⟩
end
end Go.Proofs.YtpfbnikbebccjaaGreatDoor
