/- Texts that are merged into one file: SetF, DCheck, SlRows, MapC, RDCheck, OCanonB, CpsText, CpsPlain, NormUs, ORefSort, RefText. -/
import Derived.Test.YtkhmjidaeliccaaGreatDoorB02
import Derived.Test.YtkhmjidaeliccaaGreatDoorB03
import Derived.Test.YtkhmjidaeliccaaGreatDoorB05
import Derived.Test.YtkhmjidaeliccaaGreatDoorB07
import Derived.Test.YtkhmjidaeliccaaGreatDoorB09
import Derived.Test.YtkhmjidaeliccaaGreatDoorB10
import Derived.Test.YtkhmjidaeliccaaGreatDoorB11
import Derived.BigQuiet
set_option maxRecDepth 100000
set_option maxHeartbeats 51200000
namespace Go.Proofs.YtkhmjidaeliccaaGreatDoor
open Go.RowKit Go.Maps Go.WideMaps
theorem cpValidS_any (A:Option Addr) (n a:Nat) (ys:List Rg) (w:World) (hA:Rgs w A ys) (hn:ys.length=n) (hz:n≤12) :
  Calls Tryz.prog 141 #[.agg #[.slice A n a]] w (RetBool (setOk ys) w):=by
 subst hn
 have B0:Below w.heap.size w (w.alloc (.cells #[.slice A ys.length a] 26)):=(Below.refl _ _).alloc (Nat.le_refl _) _
 have k0:(w.alloc (.cells #[.slice A ys.length a] 26)).cell? ⟨w.heap.size,0,none⟩=some (.slice A ys.length a):=by simp
 have s0:(w.alloc (.cells #[.slice A ys.length a] 26)).heap.size=w.heap.size+1:=by simp
 have W0E:∃W0,(w.alloc (.cells #[.slice A ys.length a] 26))=W0:=⟨_,rfl⟩
 have MC:=Lib.hid (fun W (hb:Below w.heap.size w W)=>cpMake_any A ys.length a ys W (hA.below hb) rfl hz)
 have hcl:=canR_len ys
 have S0:=Lib.hid (show setOk ys=decide (canR ys=ys) from rfl)
 generalize canR ys=xs at *
 have S1:=Lib.hid (sameR_len (xs:=xs) (ys:=ys))
 have S2:=Lib.hid (fun k h1 h2 h=>sameR_ne (xs:=xs) (ys:=ys) (k:=k) h1 h2 h)
 have S3:=Lib.hid (sameR_eq (xs:=xs) (ys:=ys))
 generalize decide (xs=ys)=R at *
 generalize setOk ys=R' at *
 obtain rfl:=S0.out
 have HA:=Lib.hid (fun W (hb:Below w.heap.size w W)=>hA.below hb)
 clear hA
 go_enter Tryz.func141,Tryz.ntmps141
 go_wp2_with fail
 obtain ⟨W0,hW0⟩:=W0E
 rw [hW0] at B0 k0 s0 ⊢
 clear hW0
 have hx0:w.heap.size < W0.heap.size:=by omega
 with_reducible refine (MC.out W0 B0).mono ?_
 rintro e W1 ⟨E,d,rfl,hd,hE,hb1⟩
 have HE:=Lib.hid hE
 have f0:=(hb1.cell (p:=⟨w.heap.size,0,none⟩) hx0).trans k0
 have hx1:w.heap.size < W1.heap.size:=by have:=hb1.size;omega
 have hxn:¬w.heap.size=W1.heap.size:=by omega
 have Bm:Below W1.heap.size W1 (W1.alloc (.cells #[.slice E xs.length d] 26)):=(Below.refl _ _).alloc (Nat.le_refl _) _
 have m0:(W1.alloc (.cells #[.slice E xs.length d] 26)).cell? ⟨W1.heap.size,0,none⟩=some (.slice E xs.length d):=by simp
 have g0:=(Bm.cell (p:=⟨w.heap.size,0,none⟩) hx1).trans f0
 have sm:(W1.alloc (.cells #[.slice E xs.length d] 26)).heap.size=W1.heap.size+1:=by simp
 have hb2:=B0.trans (hb1.mono B0.size)
 have hb3:=hb2.trans (Bm.mono hb2.size)
 have HE2:=Lib.hid (HE.out.below Bm)
 have W2E:∃W2,W1.alloc (.cells #[.slice E xs.length d] 26)=W2:=⟨_,rfl⟩
 clear MC hE HE k0
 by_cases hl:xs.length=ys.length
 rotate_left
 ·obtain rfl:=S1.out hl
  have q1:((xs.length:Int) != (ys.length:Int))=true:=by simp;omega
  go_wp2_with fail
  go_ret
  exact ⟨rfl,hb3⟩
 have q1:((xs.length:Int) != (ys.length:Int))=false:=by simp;omega
 have hle:xs.length≤ys.length:=by omega
 have S3':=Lib.hid (S3.out hl)
 clear hl S1 S3
 go_wp2_with fail
 obtain ⟨W2,hW2⟩:=W2E
 rw [hW2] at Bm m0 g0 sm hb3 HE2 ⊢
 clear hW2 q1 f0
 have hy0:w.heap.size < W2.heap.size:=by omega
 have G0:=Lib.hid g0
 clear g0 m0
 go_loopw [19] (fun u wr=>∃i:Nat,i≤xs.length∧u=.int .i64 i∧(∀t,(h1:t < xs.length)→(h2:t < ys.length)→t < i→xs[t]=ys[t])∧Below W2.heap.size W2 wr) (fun u _=>xs.length - (intOf u).toNat)
 case atStart=>exact ⟨0,Nat.zero_le _,rfl,fun t _ _ h=>by omega,Below.refl _ _⟩
 case round=>
  obtain ⟨i,hi,rfl,hno,hbr⟩:=hrel
  have HNO:=Lib.hid hno
  clear hno
  have f0:=(hbr.cell (p:=⟨w.heap.size,0,none⟩) hy0).trans G0.out
  have hyr:w.heap.size < wr.heap.size:=by have:=hbr.size;omega
  have hyn:¬w.heap.size=wr.heap.size:=by omega
  have hbw:=hb3.trans (hbr.mono hb3.size)
  by_cases hlt:i < xs.length
  ·have hlt2:i < ys.length:=by omega
   obtain ⟨b1,o1,rfl,hbl,hcell⟩:=(HE2.out.below hbr).at hlt
   obtain ⟨c1,c2⟩:=hcell i hlt
   obtain ⟨b2,o2,rfl,hbl2,hcell2⟩:=(HA.out wr hbw).at hlt2
   obtain ⟨d1,d2⟩:=hcell2 i hlt2
   have HY:=Lib.hid (fun h=>S2.out i hlt hlt2 h)
   have HN:=Lib.hid (fun (h:xs[i]=ys[i])=>show ∀t,(h1:t < xs.length)→(h2:t < ys.length)→t < i+1→xs[t]=ys[t] from fun t h1 h2 ht=>by
    by_cases e:t < i
    ·exact HNO.out t h1 h2 e
    ·obtain rfl:t=i:=by omega
     exact h)
   clear hcell hcell2
   generalize xs[i]=x at *
   generalize ys[i]=y at *
   obtain ⟨xl,xh⟩:=x
   obtain ⟨yl,yh⟩:=y
   dsimp only at *
   have n1:¬b1=wr.heap.size:=by omega
   have n2:¬b2=wr.heap.size:=by omega
   have i1:(0:Int)≤(i:Int):=by omega
   have i2:(i:Int) < (xs.length:Int):=by omega
   have i3:((i:Int)).toNat=i:=by omega
   have i4:(i:Int) < (ys.length:Int):=by omega
   have Bx:Below wr.heap.size wr (wr.alloc (.cells #[.int .i64 xl,.int .i64 xh] 179)):=(Below.refl _ _).alloc (Nat.le_refl _) _
   have x0:(wr.alloc (.cells #[.int .i64 xl,.int .i64 xh] 179)).cell? ⟨wr.heap.size,0,none⟩=some (.int .i64 xl):=by simp
   have x1:(wr.alloc (.cells #[.int .i64 xl,.int .i64 xh] 179)).cell? ⟨wr.heap.size,1,none⟩=some (.int .i64 xh):=by simp
   have e0:=(Bx.cell (p:=⟨w.heap.size,0,none⟩) hyr).trans f0
   have e1:=(Bx.cell (p:=⟨b2,o2+i*2,none⟩) hbl2).trans d1
   have e2:=(Bx.cell (p:=⟨b2,o2+i*2+1,none⟩) hbl2).trans d2
   have hb5:=hbr.trans (Bx.mono hbr.size)
   have WxE:∃Wx,wr.alloc (.cells #[.int .i64 xl,.int .i64 xh] 179)=Wx:=⟨_,rfl⟩
   clear f0 d1 d2
   go_wp2_with fail
   obtain ⟨Wx,hWx⟩:=WxE
   rw [hWx] at Bx x0 x1 e0 e1 e2 hb5 ⊢
   clear hWx c1 c2
   by_cases he:(⟨xl,xh⟩:Rg)=⟨yl,yh⟩
   ·have HQ:=Lib.hid (HN.out he)
    have NR1:∀W,(binOp .neq 179 (.agg #[.int .i64 xl,.int .i64 xh]) (.agg #[.int .i64 yl,.int .i64 yh])).run Tryz.prog W=.ok (.bool false) W:=fun W=>by rw [neq_rg,he];simp
    clear HY HN he
    go_quiet (fail)
    go_wp2_with fail
    go_roundw
    case rel=>exact ⟨i+1,by omega,by go_num,HQ.out,below_drewN hb5 _⟩
    case measure=>simp [intOf];omega
   ·obtain rfl:=HY.out he
    have NR1:∀W,(binOp .neq 179 (.agg #[.int .i64 xl,.int .i64 xh]) (.agg #[.int .i64 yl,.int .i64 yh])).run Tryz.prog W=.ok (.bool true) W:=fun W=>by rw [neq_rg,decide_eq_false he];rfl
    clear HY HN he
    go_quiet (fail)
    go_wp2_with fail
    go_ret
    exact ⟨rfl,hb3.trans ((below_drewN hb5 _).mono hb3.size)⟩
  ·obtain rfl:=S3'.out (fun t h1 h2=>HNO.out t h1 h2 (by omega))
   go_wp2_with fail
   go_ret
   exact ⟨rfl,hbw⟩
end Go.Proofs.YtkhmjidaeliccaaGreatDoor
namespace Go.Proofs.YtkhmjidaeliccaaGreatDoor
open Go.RowKit Go.Maps Go.WideMaps
structure NrmAt (w:World) (A0:Option Addr) (n0:Nat) (A1:Option Addr) (n1:Nat) (A2:Option Addr) (n2:Nat) (x:Nrm):Prop where
 s0:Spans w A0 x.cls
 s1:Mps w A1 x.dec
 s2:Rgs w A2 x.exc
 l0:x.cls.length=n0
 l1:x.dec.length=n1
 l2:x.exc.length=n2
theorem NrmAt.below {w w':World} {A0:Option Addr} {n0:Nat} {A1:Option Addr} {n1:Nat} {A2:Option Addr} {n2:Nat} {x:Nrm} (h:NrmAt w A0 n0 A1 n1 A2 n2 x) (hb:Below w.heap.size w w'):NrmAt w' A0 n0 A1 n1 A2 n2 x:=
 ⟨h.s0.below hb,h.s1.below hb,h.s2.below hb,h.l0,h.l1,h.l2⟩
structure NrmSz (x:Nrm):Prop where
 z0:x.cls.length≤1048576
 z1:MpsSz x.dec
 z2:x.exc.length≤12
theorem dCheck_any (A0:Option Addr) (n0 k0:Nat) (A1:Option Addr) (n1 k1:Nat) (A2:Option Addr) (n2 k2:Nat) (x:Nrm) (w:World) (hN:NrmAt w A0 n0 A1 n1 A2 n2 x) (hz:NrmSz x) (hL:Laid w) :
  Calls Tryz.prog 84 #[.agg #[.slice A0 n0 k0,.slice A1 n1 k1,.slice A2 n2 k2]] w (RetInt (nErr x) w):=by
 obtain ⟨ss,ms,rs⟩:=x
 obtain ⟨hS,hM,hR,rfl,rfl,rfl⟩:=hN
 dsimp only at *
 have z0:ss.length≤1048576:=hz.z0
 have z1:ms.length≤1048576:=hz.z1.n
 have CC:=Lib.hid (fun W (hb:Below w.heap.size w W)=>Check_any A0 ss.length k0 ss W (hS.below hb) rfl (by omega) (hL.below hb))
 have MC:=Lib.hid (fun W (hb:Below w.heap.size w W)=>mapCheck_any A1 ms.length k1 ms W (hM.below hb) rfl hz.z1)
 have VC:=Lib.hid (fun W (hb:Below w.heap.size w W)=>cpValidS_any A2 rs.length k2 rs W (hR.below hb) rfl hz.z2)
 have KC:=Lib.hid (fun c W=>Kind_any c W)
 have RC:=Lib.hid (fun A nt kt text W (hb:Below w.heap.size w W) (hT:Ints W A text) (hnt:text.length=nt) (hbt:nt≤1048576)=>Runs_any A0 ss.length k0 ss A nt kt text W (hS.below hb) hT hnt rfl hbt (by omega) (hL.below hb))
 have ME:=Lib.hid (fun W (hb:Below w.heap.size w W) (hst:StF ms) (hco:CodesOk ms) (hh:NoHg ms)=>measure_any A0 ss.length k0 A1 ms.length k1 A2 rs.length k2 ms W (hM.below hb) rfl hst hco hh z1)
 have N0:=Lib.hid (fun h=>nErr_c (x:=⟨ss,ms,rs⟩) h)
 have N1:=Lib.hid (fun h1 h2=>nErr_m (x:=⟨ss,ms,rs⟩) h1 h2)
 have N2:=Lib.hid (fun h1 h2 h3=>nErr_s (x:=⟨ss,ms,rs⟩) h1 h2 h3)
 have N3:=Lib.hid (fun (c:Ck3 ⟨ss,ms,rs⟩) h=>c.twice h)
 have N4:=Lib.hid (fun (c:Ck4 ⟨ss,ms,rs⟩) h=>c.kind h)
 have N5:=Lib.hid (fun (c:Ck5 ⟨ss,ms,rs⟩) h=>c.data h)
 have N6:=Lib.hid (fun (c:Ck6 ⟨ss,ms,rs⟩)=>c.rest)
 dsimp only at N0 N1 N2 N3 N4 N5 N6
 generalize nErr ⟨ss,ms,rs⟩=r at *
 have HM:=Lib.hid hM
 clear hM hS hR hz hL
 have B0:Below w.heap.size w (w.alloc (.cells #[.slice A0 ss.length k0,.slice A1 ms.length k1,.slice A2 rs.length k2] 28)):=(Below.refl _ _).alloc (Nat.le_refl _) _
 have X0:Box (w.alloc (.cells #[.slice A0 ss.length k0,.slice A1 ms.length k1,.slice A2 rs.length k2] 28)) w.heap.size 28 [.slice A0 ss.length k0,.slice A1 ms.length k1,.slice A2 rs.length k2]:=Box.new _ _ _ rfl
 have W0E:∃W0,(w.alloc (.cells #[.slice A0 ss.length k0,.slice A1 ms.length k1,.slice A2 rs.length k2] 28))=W0:=⟨_,rfl⟩
 go_enter Tryz.func84,Tryz.ntmps84
 go_wp2_with fail
 obtain ⟨W0,hW0⟩:=W0E
 rw [hW0] at B0 X0 ⊢
 clear hW0
 have s0:w.heap.size < W0.heap.size:=X0.lt
 have Q:=Lib.hid (fun W (hb:Below W0.heap.size W0 W)=>show W.cell? ⟨w.heap.size,0,none⟩=some (.slice A0 ss.length k0)∧W.cell? ⟨w.heap.size,1,none⟩=some (.slice A1 ms.length k1)∧W.cell? ⟨w.heap.size,2,none⟩=some (.slice A2 rs.length k2) from
  have X:=X0.below hb s0
  ⟨X.cell rfl,X.cell rfl,X.cell rfl⟩)
 have BB:=Lib.hid (fun W (hb:Below W0.heap.size W0 W)=>B0.trans (hb.mono B0.size))
 clear X0
 with_reducible refine (CC.out _ B0).mono ?_
 rintro e W1 ⟨rfl,hb1⟩
 obtain ⟨q0,q1,q2⟩:=Q.out W1 hb1
 generalize hc:chk ss=c at *
 have HC:=Lib.hid hc
 clear hc CC
 by_cases h0:¬c=0
 ·go_wp2_with fail
  go_ret
  exact ⟨ret_int (N0.out h0).symm,BB.out _ hb1⟩
 replace h0:=Decidable.not_not.1 h0
 subst h0
 clear N0
 go_wp2_with fail
 with_reducible refine (MC.out _ (BB.out _ hb1)).mono ?_
 rintro e W2 ⟨rfl,hb2⟩
 replace hb2:=hb1.trans (hb2.mono hb1.size)
 clear q0 q1 q2 hb1 MC
 obtain ⟨q0,q1,q2⟩:=Q.out W2 hb2
 generalize hc:mapErr ms=c at *
 have HMC:=Lib.hid hc
 clear hc
 by_cases h0:¬c=0
 ·go_wp2_with fail
  go_ret
  exact ⟨ret_int (N1.out (by trivial) h0).symm,BB.out _ hb2⟩
 replace h0:=Decidable.not_not.1 h0
 subst h0
 clear N1
 go_wp2_with fail
 with_reducible refine (VC.out _ (BB.out _ hb2)).mono ?_
 rintro e W3 ⟨rfl,hb3⟩
 replace hb3:=hb2.trans (hb3.mono hb2.size)
 clear q0 q1 q2 hb2 VC
 obtain ⟨q0,q1,q2⟩:=Q.out W3 hb3
 generalize hc:setOk rs=c at *
 have HSC:=Lib.hid hc
 clear hc
 cases c with
 | false=>
  go_wp2_with fail
  go_ret
  exact ⟨ret_int (N2.out (by trivial) (by trivial) (by trivial)).symm,BB.out _ hb3⟩
 | true=>
 have C3:=Lib.hid (show Ck3 ⟨ss,ms,rs⟩ from ⟨HC.out,HMC.out,HSC.out⟩)
 clear N2 HC HSC
 go_wp2_with fail
 clear q0 q1 q2
 go_loopw [5] (fun u wr=>∃i:Nat,i≤ms.length∧u=.int .i64 ((i:Int)+1)∧(∀t,(ht:t+1 < ms.length)→t < i→¬ms[t+1].frm=ms[t].frm)∧Below W0.heap.size W0 wr) (fun u _=>ms.length+1 - (intOf u).toNat)
 case atStart=>exact ⟨0,Nat.zero_le _,rfl,fun t _ h=>absurd h (Nat.not_lt_zero _),hb3⟩
 case round=>
  obtain ⟨i,hi,rfl,h1,hb⟩:=hrel
  have H1:=Lib.hid h1
  clear h1
  obtain ⟨q0,q1,q2⟩:=Q.out wr hb
  by_cases hlt:i+1 < ms.length
  ·obtain ⟨b,o,rfl,_,hcell⟩:=(HM.out.below (BB.out _ hb)).at hlt
   obtain ⟨E,d,c1,c2,c3,_,_⟩:=hcell i (by omega)
   obtain ⟨E',d',c1',c2',c3',_,_⟩:=hcell (i+1) hlt
   clear hcell
   have hi0:i < ms.length:=by omega
   have HS:=Lib.hid (fun (h:ms[i+1].frm=ms[i].frm)=>stB_no hi0 hlt (Nat.lt_succ_self i) h)
   have HN:=Lib.hid (fun (h:¬ms[i+1].frm=ms[i].frm)=>show ∀t,(ht:t+1 < ms.length)→t < i+1→¬ms[t+1].frm=ms[t].frm from fun t ht g=>by
    by_cases e:t=i
    ·subst e;exact h
    ·exact H1.out t ht (by omega))
   generalize ms[i].frm=f at *
   generalize ms[i].toq.length=tl at *
   generalize ms[i].tag=tg at *
   generalize ms[i+1].frm=f' at *
   generalize ms[i+1].toq.length=tl' at *
   generalize ms[i+1].tag=tg' at *
   clear HM
   by_cases heq:f'=f
   ·have HR:=Lib.hid (N3.out C3.out (HS.out heq))
    go_wp2_with fail
    go_region
    all_goals
     go_wp2_with fail
     go_ret
     exact ⟨ret_int HR.out.symm,BB.out _ hb.drew⟩
   ·have HR:=Lib.hid (HN.out heq)
    go_wp2_with fail
    go_region
    all_goals
     go_wp2_with fail
     go_roundw
     case rel=>exact ⟨i+1,by omega,by go_num,HR.out,hb.drew⟩
     case measure=>simp [intOf];omega
  ·have hst:=Lib.hid (show stB ms=true from stB_of HMC.out (fun k hk=>H1.out k hk (by omega)))
   have C4:=Lib.hid (show Ck4 ⟨ss,ms,rs⟩ from ⟨C3.out,hst.out⟩)
   clear N3 C3 H1 hst
   go_wp2_with fail
   clear q0 q1 q2
   go_loopw [53] (fun u wr=>∃i:Nat,i≤ms.length∧u=.int .i64 i∧(∀t,(ht:t < ms.length)→t < i→kindB ms[t]=false)∧Below W0.heap.size W0 wr) (fun u _=>ms.length - (intOf u).toNat)
   case atStart=>exact ⟨0,Nat.zero_le _,rfl,fun t _ h=>absurd h (Nat.not_lt_zero _),hb⟩
   case round=>
    clear hb
    obtain ⟨i,hi,rfl,hno,hb⟩:=hrel
    have HNO:=Lib.hid hno
    clear hno
    obtain ⟨q0,q1,q2⟩:=Q.out wr hb
    by_cases hlt:i < ms.length
    ·obtain ⟨b1,o1,rfl,hbl,hcell⟩:=(HM.out.below (BB.out _ hb)).at hlt
     obtain ⟨C,cc,c0,c1,c2,hcc,hC⟩:=hcell i hlt
     have HB:=Lib.hid (fun h=>N4.out C4.out (anyT hlt h))
     have HN:=Lib.hid (fun h=>all_up (P:=fun m=>kindB m=false) hlt HNO.out h)
     clear hcell hC
     generalize ms[i]=mi at *
     have K1:=Lib.hid (fun (h:¬mi.tag.size=0)=>show kindB mi=false from by simp [kindB,h])
     have K2:=Lib.hid (fun (h:mi.toq.length=1)=>show kindB mi=false from by simp [kindB,h])
     have K3:=Lib.hid (fun (h:mi.toq.length=2)=>show kindB mi=false from by simp [kindB,h])
     have K4:=Lib.hid (fun (h:mi.tag.size=0) (h1:¬mi.toq.length=1) (h2:¬mi.toq.length=2)=>show kindB mi=true from by simp [kindB,h,h1,h2])
     generalize kindB mi=kb at *
     obtain ⟨mf,mt,mg⟩:=mi
     dsimp only at *
     clear HM
     have hb2:=hb.trans (((Below.refl wr.heap.size wr).alloc (Nat.le_refl _) (.cells #[.int .i64 mf,.slice C mt.length cc,.string mg] 154)).mono hb.size)
     by_cases hg:mg.size=0
     ·have g0:mg.toList=[]:=str_nil hg
      by_cases h1:mt.length=1
      ·have HQ:=Lib.hid (HN.out (K2.out h1))
       have d1:(mt.length:Int)=1:=by omega
       clear h1
       go_wp2_with fail
       go_roundw
       case rel=>exact ⟨i+1,by omega,by go_num,HQ.out,hb2⟩
       case measure=>simp [intOf];omega
      ·have d1:((mt.length:Int) != 1)=true:=by simp;omega
       by_cases h2:mt.length=2
       ·have HQ:=Lib.hid (HN.out (K3.out h2))
        have d2:((mt.length:Int) != 2)=false:=by simp;omega
        have hb2':=Lib.hid hb2
        clear h2
        go_wp2_with fail
        go_roundw
        case rel=>exact ⟨i+1,by omega,by go_num,HQ.out,hb2⟩
        case measure=>simp [intOf];omega
       ·have HR:=Lib.hid (HB.out (K4.out hg h1 h2))
        have d2:((mt.length:Int) != 2)=true:=by simp;omega
        go_wp2_with fail
        go_ret
        exact ⟨ret_int HR.out.symm,BB.out _ hb2⟩
     ·have g0:¬mg.toList=[]:=str_cons hg
      have g1:mg.toList.isEmpty=false:=by simpa using g0
      have HQ:=Lib.hid (HN.out (K1.out hg))
      go_wp2_with fail
      go_roundw
      case rel=>exact ⟨i+1,by omega,by go_num,HQ.out,hb2⟩
      case measure=>simp [intOf];omega
    ·have C5:=Lib.hid (show Ck5 ⟨ss,ms,rs⟩ from ⟨C4.out,show ms.any kindB=false from anyF (fun t ht=>HNO.out t ht (by omega))⟩)
     have C4':=Lib.hid (show Ck4 ⟨ss,ms,rs⟩ from C4.out)
     clear C4 N4 HNO
     have N5':=Lib.hid (fun h=>N5.out C5.out h)
     clear N5
     go_wp2_with fail
     clear q0 q1 q2
     have B1:W0.heap.size≤W0.heap.size:=Nat.le_refl _
     go_loopw [8,76] (fun v u wr=>∃(i c:Nat) (B:Option Addr),i≤ms.length∧u=.int .i64 i∧v=.slice B (taggedM (ms.take i)).length c∧wr.ownsRow W0.heap.size 3 1 (.slice B (taggedM (ms.take i)).length c) (taggedM (ms.take i)).length ((taggedM (ms.take i)).map (Value.int .i64))∧
      (∀t,(ht:t < ms.length)→t < i→Hg.kind ms[t].frm=0)∧Below W0.heap.size W0 wr) (fun _ u _=>ms.length - (intOf u).toNat)
     case atStart=>exact ⟨0,0,none,Nat.zero_le _,rfl,rfl,World.ownsRow_nil _ _ _ _,fun t _ h=>absurd h (Nat.not_lt_zero _),hb⟩
     case round=>
      clear hb
      obtain ⟨i,c,B,hi,rfl,rfl,hown,hno,hb⟩:=hrel
      have HNO:=Lib.hid hno
      have HOWN:=Lib.hid hown
      clear hno hown
      obtain ⟨q0,q1,q2⟩:=Q.out wr hb
      by_cases hlt:i < ms.length
      ·obtain ⟨b1,o1,rfl,hbl,hcell⟩:=(HM.out.below (BB.out _ hb)).at hlt
       obtain ⟨C,cc,c0,c1,c2,hcc,hC⟩:=hcell i hlt
       have HB:=Lib.hid (fun h=>N5'.out (datB_kind hlt h))
       have HN:=Lib.hid (fun h=>all_up (P:=fun m=>Hg.kind m.frm=0) hlt HNO.out h)
       have HT:=Lib.hid (taggedM_take hlt)
       have hTL:=taggedM_len (ms.take i)
       rw [List.length_take] at hTL
       clear hcell hC
       generalize ms[i]=mi at *
       obtain ⟨mf,mt,mg⟩:=mi
       dsimp only at *
       clear HM
       have hb2:=hb.trans (((Below.refl wr.heap.size wr).alloc (Nat.le_refl _) (.cells #[.int .i64 mf,.slice C mt.length cc,.string mg] 154)).mono hb.size)
       have HOWNa:=Lib.hid (own_keep HOWN.out ((Below.refl wr.heap.size wr).alloc (Nat.le_refl _) (.cells #[.int .i64 mf,.slice C mt.length cc,.string mg] 154)))
       generalize hka:Hg.kind mf=ka at *
       have HK:=Lib.hid hka
       clear hka
       have KF:=Lib.hid (KC.out mf)
       rw [HK.out] at KF
       by_cases hk0:ka=0
       ·have HQ:=Lib.hid (HN.out hk0)
        subst hk0
        by_cases hg:mg.size=0
        ·have g0:mg.toList=[]:=str_nil hg
         have hT:=HT.out
         rw [if_pos hg,List.append_nil] at hT
         have HT2:=Lib.hid hT
         clear hT
         go_wp2_with (go_at_call 142;refine (KF.out _).mono ?_;rintro e w' ⟨rfl,rfl⟩)
         go_roundw
         case rel=>exact ⟨i+1,c,B,by omega,by go_num,by rw [HT2.out],by rw [HT2.out];exact HOWNa.out,HQ.out,hb2⟩
         case measure=>simp [intOf];omega
        ·have g0:¬mg.toList=[]:=str_cons hg
         have g1:mg.toList.isEmpty=false:=by simpa using g0
         have hT:=HT.out
         rw [if_neg hg] at hT
         have HT2:=Lib.hid hT
         clear hT
         go_wp2_with (first | (go_at_call 142;refine (KF.out _).mono ?_;rintro e w' ⟨rfl,rfl⟩) | (at_builtin;(refine wpList_app _ _ 33 3 (.int .i64 0) 1 8 rfl rfl Tryz.underlying33 info_int rfl (by decide) (by decide) rfl (HOWNa.out.alloc _) rfl (Sl_new (wr.alloc (.cells #[.int .i64 mf,.slice C mt.length cc,.string mg] 154)) [.int .i64 mf] 3 (by simp)) (by simp) (oneCell_ints [mf]) (by omega) (by have:=hb2.size;simp at this ⊢;omega) ?_);intro B1 c1' w1 hown1 hc1' hb1 hg1 hB1))
         have hb3:=hb2.trans ((((Below.refl _ _).alloc (Nat.le_refl _) _).mono hb2.size).trans hb1)
         go_roundw
         case rel=>
          refine ⟨i+1,c1',B1,by omega,by go_num,?_,?_,HQ.out,hb3⟩
          ·rw [HT2.out,List.length_append];rfl
          ·rw [HT2.out,List.length_append,List.map_append];exact hown1
         case measure=>simp [intOf];omega
       ·have HR:=Lib.hid (HB.out hk0)
        go_wp2_with (go_at_call 142;refine (KF.out _).mono ?_;rintro e w' ⟨rfl,rfl⟩)
        go_ret
        exact ⟨ret_int HR.out.symm,BB.out _ hb2⟩
      ·obtain rfl:i=ms.length:=by omega
       have hT:taggedM (ms.take ms.length)=taggedM ms:=by rw [List.take_length]
       have hTL:=taggedM_len ms
       have HI:Ints wr B (taggedM ms):=by rw [hT] at HOWN;exact Sl.of_own HOWN.out
       rw [hT]
       have HA:=Lib.hid (fun (h:rns (clz ss) (taggedM ms) 0 none=[])=>show Ck6 ⟨ss,ms,rs⟩ from ⟨C5.out,show ms.any (datB ss)=false from datB_of (fun t ht=>HNO.out t ht ht) h⟩)
       have HD:=Lib.hid (fun (h:¬rns (clz ss) (taggedM ms) 0 none=[])=>N5'.out (datB_yes h))
       have RR:=Lib.hid (RC.out B (taggedM ms).length c (taggedM ms) wr (BB.out _ hb) HI rfl (by omega))
       clear HI HOWN hT
       generalize taggedM ms=tg at *
       generalize rns (clz ss) tg 0 none=rr at *
       go_wp2_with fail
       with_reducible refine RR.out.mono ?_
       rintro e W4 ⟨A4,c4,rfl,hc4,hA4,hb4⟩
       replace hb4:=hb.trans (hb4.mono hb.size)
       clear q0 q1 q2
       obtain ⟨q0,q1,q2⟩:=Q.out W4 hb4
       by_cases hr0:rr=[]
       ·have C6:=Lib.hid (HA.out hr0)
        have hl:rr.length=0:=by rw [hr0];rfl
        have MM:=Lib.hid (ME.out W4 (BB.out _ hb4) (StF_of C4'.out.t) (mapErr_codes C4'.out.m) (NoHg_of C6.out.d))
        have FIN:=Lib.hid (fun cyc lng (h:MeasOk ms cyc lng)=>show r=if cyc=true then 12 else if lng=true then 13 else 0 from by
         have h1:=h.cyc (StF_of C4'.out.t) (NoHg_of C6.out.d)
         rw [N6.out C6.out]
         cases he:endB ms with
         | false=>rw [he] at h1;subst h1;rfl
         | true=>rw [he] at h1;subst h1;rw [h.lng (StF_of C4'.out.t) (NoHg_of C6.out.d) he];simp)
        clear hr0
        rw [hl]
        go_wp2_with fail
        with_reducible refine MM.out.mono ?_
        rintro e W5 ⟨cyc,lng,rfl,hok,hb5⟩
        replace hb5:=hb4.trans (hb5.mono hb4.size)
        have HF:=Lib.hid (FIN.out cyc lng hok)
        clear q0 q1 q2 hok FIN MM
        cases cyc with
        | true=>
         go_wp2_with fail
         go_ret
         exact ⟨ret_int HF.out.symm,BB.out _ hb5⟩
        | false=>
         cases lng with
         | true=>
          go_wp2_with fail
          go_ret
          exact ⟨ret_int HF.out.symm,BB.out _ hb5⟩
         | false=>
          go_wp2_with fail
          go_ret
          exact ⟨ret_int HF.out.symm,BB.out _ hb5⟩
       ·have HR:=Lib.hid (HD.out hr0)
        have hl:0 < rr.length:=List.length_pos_iff.2 hr0
        have hl2:decide ((0:Int) < (rr.length:Int))=true:=by simp;omega
        go_wp2_with fail
        go_ret
        exact ⟨ret_int HR.out.symm,BB.out _ hb4⟩
end Go.Proofs.YtkhmjidaeliccaaGreatDoor
namespace Go.Proofs.YtkhmjidaeliccaaGreatDoor
open Go.RowKit
theorem flatK_set {α:Type} (enc:α→List Value) (k:Nat) (hk:∀x,(enc x).length=k):∀(xs:List α) (i j:Nat) (v:Value) (y:α) (hi:i < xs.length),j < k→enc y=(enc xs[i]).set j v→(flatK enc xs).set (i*k+j) v=flatK enc (xs.set i y)
 | [],i,_,_,_,hi,_,_=>absurd hi (Nat.not_lt_zero _)
 | x::xs,0,j,v,y,_,hj,he=>by
  have e1:flatK enc (x::xs)=enc x++flatK enc xs:=by simp [flatK]
  have e2:flatK enc ((x::xs).set 0 y)=enc y++flatK enc xs:=by simp [flatK]
  rw [e1,e2,he,Nat.zero_mul,Nat.zero_add,List.set_append_left _ _ (by rw [hk];exact hj)]
  rfl
 | x::xs,i+1,j,v,y,hi,hj,he=>by
  have e1:flatK enc (x::xs)=enc x++flatK enc xs:=by simp [flatK]
  have e2:flatK enc ((x::xs).set (i+1) y)=enc x++flatK enc (xs.set i y):=by simp [flatK]
  have hi':i < xs.length:=by simpa using hi
  rw [e1,e2,List.set_append_right _ _ (by rw [hk,Nat.add_mul];omega),hk,show (i+1)*k+j - k=i*k+j by rw [Nat.add_mul,Nat.one_mul];omega]
  rw [flatK_set enc k hk xs i j v y hi' hj (by simpa using he)]
theorem zip_set {α β:Type}:∀(ms:List α) (vs:List β) (i:Nat) (v:β) (hi:i < ms.length),(ms.zip vs).set i (ms[i],v)=ms.zip (vs.set i v)
 | [],_,i,_,hi=>absurd hi (Nat.not_lt_zero _)
 | _::_,[],_,_,_=>by simp
 | m::ms,u::vs,0,v,_=>by simp
 | m::ms,u::vs,i+1,v,hi=>by simp [zip_set ms vs i v (by simpa using hi)]
def IntsAp (B:Option Addr) (z:Nat) (w:World) (C:Option Addr) (zs:List Int):Prop:=Ints w C zs∧(zs≠[]→∀q,blk C=some q→blk B≠some q∧q≠z)
theorem Sl.stored {w:World} {C:Option Addr} {cs:List Value} (h:Sl w C cs) (p:Addr) (hp:cs≠[]→∀q,blk C=some q→p.block≠q) (v:Value):Sl (w.setCell p v) C cs:=fun hne=>by
 obtain ⟨b,o,rfl,hc⟩:=h hne
 refine ⟨b,o,rfl,fun j u hu=>?_⟩
 have hn:=hp hne b rfl
 rw [World.cell?_of_block (Below.heap_setCell w p v b (fun e=>hn e.symm))]
 exact hc j u hu
theorem IntsAp.below {w w':World} {z:Nat} {B C:Option Addr} {zs:List Int} (h:IntsAp B z w C zs) (hb:Below w.heap.size w w'):IntsAp B z w' C zs:=⟨h.1.below hb,h.2⟩
theorem IntsAp.stored {w:World} {z:Nat} {B C:Option Addr} {zs:List Int} (h:IntsAp B z w C zs) (p:Addr) (hp:blk B=some p.block∨p.block=z) (v:Value):IntsAp B z (w.setCell p v) C zs:=
 ⟨Sl.stored h.1 p (fun hne q hq e=>by
  have h2:=h.2 (by rintro rfl;exact hne rfl) q hq
  rcases hp with g | g
  ·exact h2.1 (by rw [g,e])
  ·exact h2.2 (by rw [←e,g])) v,h.2⟩
theorem sl_lt {w:World} {C:Option Addr} {cs:List Value} (h:Sl w C cs) (hne:cs≠[]) {q:Nat} (hq:blk C=some q):q < w.heap.size:=by
 obtain ⟨b,o,rfl,hc⟩:=h hne
 have hl:0 < cs.length:=List.length_pos_iff.2 hne
 have h1:=hc 0 cs[0] (List.getElem?_eq_getElem hl)
 have:=World.block_lt_of_cell? w _ h1
 have e:b=q:=by injection hq
 dsimp only at this
 omega
theorem ints_ne {zs:List Int} (h:zs≠[]):zs.map (Value.int .i64)≠[]:=by simpa using h
theorem own_blk {w:World} {base:Nat} {e:TypeId} {size n c:Nat} {A:Option Addr} {xs:List Value} (h:w.ownsRow base e size (.slice A n c) n xs) {q:Nat} (hq:blk A=some q):base≤q∧q < w.heap.size:=h.lt q (by rw [ownBlock_blk];exact hq)
theorem own_at {w:World} {base:Nat} {e:TypeId} {size n c:Nat} {A:Option Addr} {xs:List Value} (h:w.ownsRow base e size (.slice A n c) n xs) (hn:0 < n):∃g,A=some ⟨g,0,none⟩∧base≤g∧g < w.heap.size:=by
 rcases h.2 with ⟨_,h0⟩ | ⟨g,cap,cur,hv,h1,h2,_⟩
 ·omega
 ·injection hv with hA _ _
  exact ⟨g,hA,h1,(own_blk h (by rw [hA];rfl)).2⟩
theorem own_z {w:World} {base z size n c:Nat} {e:TypeId} {B:Option Addr} {cs:List Value} (h:w.ownsRow base e size (.slice B n c) n cs) (hz:z < base) (p:Addr) (hp:p.block=z) (v:Value):(w.setCell p v).ownsRow base e size (.slice B n c) n cs:=
 ownsRow_setCell_below h (by omega) v
structure MpsIn (w:World) (base z:Nat) (B:Option Addr) (cap:Nat) (ms:List Mp):Prop where
 ex:∃vs:List Value,vs.length=ms.length∧w.ownsRow base 154 3 (.slice B ms.length cap) ms.length (flatK mpC (ms.zip vs))∧∀i,(hi:i < ms.length)→(hv:i < vs.length)→∃C c,vs[i]=.slice C ms[i].toq.length c∧ms[i].toq.length≤c∧IntsAp B z w C ms[i].toq
theorem mps_raw {w:World} {A:Option Addr} {ms:List Mp} (h:Mps w A ms):∃cs,Sl w A cs∧cs.length=ms.length*3∧(∀u ∈ cs,u.oneCell'=true)∧
  ∀base z B cap w',Below w.heap.size w w'→w.heap.size≤base→w.heap.size≤z→w'.ownsRow base 154 3 (.slice B ms.length cap) ms.length cs→MpsIn w' base z B cap ms:=by
 obtain ⟨vs,h1,h2,h3⟩:=h
 have hzl:(ms.zip vs).length=ms.length:=by rw [List.length_zip];omega
 refine ⟨flatK mpC (ms.zip vs),h2,by rw [flatK_len mpC 3 (fun _=>rfl),hzl],?_,fun base z B cap w' hb hbs hzs ho=>⟨vs,h1,ho,fun i hi hv=>?_⟩⟩
 ·intro u hu
  obtain ⟨p,hp,hg⟩:=List.mem_flatMap.1 hu
  obtain ⟨j,hj,rfl⟩:=List.getElem_of_mem hp
  simp only [mpC,List.mem_cons,List.not_mem_nil,or_false] at hg
  have hj':j < ms.length:=by omega
  rcases hg with rfl | rfl | rfl
  ·rfl
  ·obtain ⟨C,c,e,_⟩:=h3 j hj' (by omega)
   rw [show (ms.zip vs)[j].2=vs[j]'(by omega) from by rw [List.getElem_zip],e]
   rfl
  ·rfl
 ·obtain ⟨C,c,e1,e2,e3⟩:=h3 i hi hv
  refine ⟨C,c,e1,e2,e3.below hb,fun hne q hq=>?_⟩
  have h1:=sl_lt e3 (ints_ne hne) hq
  refine ⟨fun e=>?_,by omega⟩
  have:=(own_blk ho e).1
  omega
section
variable {w w':World} {base z:Nat} {B:Option Addr} {cap:Nat} {ms:List Mp}
theorem MpsIn.below (h:MpsIn w base z B cap ms) (hb:Below w.heap.size w w'):MpsIn w' base z B cap ms:=by
 obtain ⟨vs,h1,h2,h3⟩:=h.ex
 refine ⟨vs,h1,own_keep h2 hb,fun i hi hv=>?_⟩
 obtain ⟨C,c,e1,e2,e3⟩:=h3 i hi hv
 exact ⟨C,c,e1,e2,e3.below hb⟩
theorem MpsIn.is (h:MpsIn w base z B cap ms):Mps w B ms:=by
 obtain ⟨vs,h1,h2,h3⟩:=h.ex
 refine ⟨vs,h1,Sl.of_own h2,fun i hi hv=>?_⟩
 obtain ⟨C,c,e1,e2,e3⟩:=h3 i hi hv
 exact ⟨C,c,e1,e2,e3.1⟩
theorem MpsIn.at (h:MpsIn w base z B cap ms) {i:Nat} (hi:i < ms.length):∃g C c,B=some ⟨g,0,none⟩∧base≤g∧g < w.heap.size∧w.cell? ⟨g,i*3,none⟩=some (.int .i64 ms[i].frm)∧w.cell? ⟨g,i*3+1,none⟩=some (.slice C ms[i].toq.length c)∧w.cell? ⟨g,i*3+2,none⟩=some (.string ms[i].tag)∧w.frozen? ⟨g,i*3+1,none⟩=false∧Ints w C ms[i].toq:=by
 obtain ⟨vs,h1,h2,h3⟩:=h.ex
 obtain ⟨g,rfl,hg1,hg2⟩:=own_at h2 (by omega)
 obtain ⟨C,c,e1,e2,e3⟩:=h3 i hi (by omega)
 have hzl:(ms.zip vs).length=ms.length:=by rw [List.length_zip];omega
 have hzi:i < (ms.zip vs).length:=by omega
 have ezi:(ms.zip vs)[i]=(ms[i],vs[i]'(by omega)):=List.getElem_zip
 have gt:=fun j (hj:j < 3)=>(h2.cellAt (i*3+j) (by omega)).trans (flatK_get mpC 3 (fun _=>rfl) (ms.zip vs) i j hzi hj)
 refine ⟨g,C,c,rfl,hg1,hg2,(gt 0 (by omega)).trans (by rw [ezi];rfl),(gt 1 (by omega)).trans (by rw [ezi,e1];rfl),(gt 2 (by omega)).trans (by rw [ezi];rfl),h2.frozenAt _,e3.1⟩
theorem MpsIn.put {g:Nat} (h:MpsIn w base z (some ⟨g,0,none⟩) cap ms) {i:Nat} (hi:i < ms.length) {C:Option Addr} {c:Nat} (hc:ms[i].toq.length≤c) (hC:Ints w C ms[i].toq) (hap:ms[i].toq≠[]→∀q,blk C=some q→g≠q∧q≠z) :
  MpsIn (w.setCell ⟨g,i*3+1,none⟩ (.slice C ms[i].toq.length c)) base z (some ⟨g,0,none⟩) cap ms:=by
 obtain ⟨vs,h1,h2,h3⟩:=h.ex
 have hzi:i < (ms.zip vs).length:=by rw [List.length_zip];omega
 have ezi:(ms.zip vs)[i]=(ms[i],vs[i]'(by omega)):=List.getElem_zip
 refine ⟨vs.set i (.slice C ms[i].toq.length c),by simpa using h1,?_,fun j hj hv=>?_⟩
 ·have:=(h2.stored (i*3+1) (.slice C ms[i].toq.length c)).1
  rw [flatK_set mpC 3 (fun _=>rfl) (ms.zip vs) i 1 _ (ms[i],.slice C ms[i].toq.length c) hzi (by omega) (by rw [ezi];rfl),zip_set ms vs i _ hi] at this
  exact this
 ·have hIC:IntsAp (some ⟨g,0,none⟩) z w C ms[i].toq:=⟨hC,fun hne q hq=>⟨fun e=>(hap hne q hq).1 (Option.some.inj (show some g=some q from e)),(hap hne q hq).2⟩⟩
  by_cases e:i=j
  ·subst e
   exact ⟨C,c,by rw [List.getElem_set_self],hc,hIC.stored ⟨g,i*3+1,none⟩ (.inl rfl) _⟩
  ·obtain ⟨C',c',e1,e2,e3⟩:=h3 j hj (by omega)
   exact ⟨C',c',by rw [List.getElem_set_ne e,e1],e2,e3.stored ⟨g,i*3+1,none⟩ (.inl rfl) _⟩
theorem MpsIn.off (h:MpsIn w base z B cap ms) (hz:z < base) (p:Addr) (hp:p.block=z) (v:Value):MpsIn (w.setCell p v) base z B cap ms:=by
 obtain ⟨vs,h1,h2,h3⟩:=h.ex
 refine ⟨vs,h1,own_z h2 hz p hp v,fun i hi hv=>?_⟩
 obtain ⟨C,c,e1,e2,e3⟩:=h3 i hi hv
 exact ⟨C,c,e1,e2,e3.stored p (.inr hp) v⟩
end
def EltsAp (B:Option Addr) (z:Nat) (w:World) (C:Option Addr) (es:List Elt):Prop:=Elts w C es∧(es≠[]→∀q,blk C=some q→blk B≠some q∧q≠z)
theorem elts_ne {es:List Elt} (h:es≠[]):flatK Elt.cells es≠[]:=by
 intro e
 have:=congrArg List.length e
 rw [flatK_len Elt.cells 4 (fun _=>rfl)] at this
 have:=List.length_pos_iff.2 h
 simp at *
 omega
theorem EltsAp.below {w w':World} {z:Nat} {B C:Option Addr} {es:List Elt} (h:EltsAp B z w C es) (hb:Below w.heap.size w w'):EltsAp B z w' C es:=⟨h.1.below hb,h.2⟩
theorem EltsAp.stored {w:World} {z:Nat} {B C:Option Addr} {es:List Elt} (h:EltsAp B z w C es) (p:Addr) (hp:blk B=some p.block∨p.block=z) (v:Value):EltsAp B z (w.setCell p v) C es:=
 ⟨Sl.stored h.1 p (fun hne q hq e=>by
  have h2:=h.2 (by rintro rfl;exact hne rfl) q hq
  rcases hp with g | g
  ·exact h2.1 (by rw [g,e])
  ·exact h2.2 (by rw [←e,g])) v,h.2⟩
def enC (v:Value × Value):List Value:=[v.1,v.2]
structure EntsIn (w:World) (base z:Nat) (B:Option Addr) (cap:Nat) (xs:List Ent):Prop where
 ex:∃vs:List (Value × Value),vs.length=xs.length∧w.ownsRow base 75 2 (.slice B xs.length cap) xs.length (flatK enC vs)∧∀i,(hi:i < xs.length)→(hv:i < vs.length)→∃C c E d,vs[i]=(.slice C xs[i].codes.length c,.slice E xs[i].elems.length d)∧IntsAp B z w C xs[i].codes∧EltsAp B z w E xs[i].elems
theorem ents_raw {w:World} {A:Option Addr} {xs:List Ent} (h:Ents w A xs):∃cs,Sl w A cs∧cs.length=xs.length*2∧(∀u ∈ cs,u.oneCell'=true)∧
  ∀base z B cap w',Below w.heap.size w w'→w.heap.size≤base→w.heap.size≤z→w'.ownsRow base 75 2 (.slice B xs.length cap) xs.length cs→EntsIn w' base z B cap xs:=by
 obtain ⟨vs,h1,h2,h3⟩:=h
 refine ⟨flatK enC vs,h2,by rw [flatK_len enC 2 (fun _=>rfl),h1],?_,fun base z B cap w' hb hbs hzs ho=>⟨vs,h1,ho,fun i hi hv=>?_⟩⟩
 ·intro u hu
  obtain ⟨p,hp,hg⟩:=List.mem_flatMap.1 hu
  obtain ⟨j,hj,rfl⟩:=List.getElem_of_mem hp
  obtain ⟨C,c,E,d,e,_⟩:=(h3 j (by omega) hj).ex
  simp only [enC,List.mem_cons,List.not_mem_nil,or_false] at hg
  rcases hg with rfl | rfl
  ·rw [e];rfl
  ·rw [e];rfl
 ·obtain ⟨C,c,E,d,e1,e2,e3⟩:=(h3 i hi hv).ex
  refine ⟨C,c,E,d,e1,⟨e2.below hb,fun hne q hq=>⟨fun e=>?_,?_⟩⟩,⟨e3.below hb,fun hne q hq=>⟨fun e=>?_,?_⟩⟩⟩
  ·have:=sl_lt e2 (ints_ne hne) hq
   have:=(own_blk ho e).1
   omega
  ·have:=sl_lt e2 (ints_ne hne) hq
   omega
  ·have:=sl_lt e3 (elts_ne hne) hq
   have:=(own_blk ho e).1
   omega
  ·have:=sl_lt e3 (elts_ne hne) hq
   omega
section
variable {w w':World} {base z:Nat} {B:Option Addr} {cap:Nat} {xs:List Ent}
theorem EntsIn.below (h:EntsIn w base z B cap xs) (hb:Below w.heap.size w w'):EntsIn w' base z B cap xs:=by
 obtain ⟨vs,h1,h2,h3⟩:=h.ex
 refine ⟨vs,h1,own_keep h2 hb,fun i hi hv=>?_⟩
 obtain ⟨C,c,E,d,e1,e2,e3⟩:=h3 i hi hv
 exact ⟨C,c,E,d,e1,e2.below hb,e3.below hb⟩
theorem EntsIn.is (h:EntsIn w base z B cap xs):Ents w B xs:=by
 obtain ⟨vs,h1,h2,h3⟩:=h.ex
 refine ⟨vs,h1,Sl.of_own h2,fun i hi hv=>?_⟩
 obtain ⟨C,c,E,d,e1,e2,e3⟩:=h3 i hi hv
 exact ⟨C,c,E,d,e1,e2.1,e3.1⟩
theorem EntsIn.at (h:EntsIn w base z B cap xs) {i:Nat} (hi:i < xs.length):∃g C c E d,B=some ⟨g,0,none⟩∧base≤g∧g < w.heap.size∧w.cell? ⟨g,i*2,none⟩=some (.slice C xs[i].codes.length c)∧w.cell? ⟨g,i*2+1,none⟩=some (.slice E xs[i].elems.length d)∧w.frozen? ⟨g,i*2,none⟩=false∧w.frozen? ⟨g,i*2+1,none⟩=false∧Ints w C xs[i].codes∧Elts w E xs[i].elems:=by
 obtain ⟨vs,h1,h2,h3⟩:=h.ex
 obtain ⟨g,rfl,hg1,hg2⟩:=own_at h2 (by omega)
 obtain ⟨C,c,E,d,e1,e2,e3⟩:=h3 i hi (by omega)
 have hzi:i < vs.length:=by omega
 have gt:=fun j (hj:j < 2)=>(h2.cellAt (i*2+j) (by omega)).trans (flatK_get enC 2 (fun _=>rfl) vs i j hzi hj)
 exact ⟨g,C,c,E,d,rfl,hg1,hg2,(gt 0 (by omega)).trans (by rw [e1];rfl),(gt 1 (by omega)).trans (by rw [e1];rfl),h2.frozenAt _,h2.frozenAt _,e2.1,e3.1⟩
theorem EntsIn.put {g:Nat} (h:EntsIn w base z (some ⟨g,0,none⟩) cap xs) {i:Nat} (hi:i < xs.length) {C:Option Addr} {c:Nat} {E:Option Addr} {d:Nat} (hC:Ints w C xs[i].codes) (hap:xs[i].codes≠[]→∀q,blk C=some q→g≠q∧q≠z) (hE:Elts w E xs[i].elems) (hape:xs[i].elems≠[]→∀q,blk E=some q→g≠q∧q≠z) :
  EntsIn ((w.setCell ⟨g,i*2,none⟩ (.slice C xs[i].codes.length c)).setCell ⟨g,i*2+1,none⟩ (.slice E xs[i].elems.length d)) base z (some ⟨g,0,none⟩) cap xs:=by
 obtain ⟨vs,h1,h2,h3⟩:=h.ex
 have hzi:i < vs.length:=by omega
 refine ⟨(vs.set i (.slice C xs[i].codes.length c,vs[i].2)).set i (.slice C xs[i].codes.length c,.slice E xs[i].elems.length d),by simpa using h1,?_,fun j hj hv=>?_⟩
 ·have t1:=(h2.stored (i*2+0) (.slice C xs[i].codes.length c)).1
  rw [flatK_set enC 2 (fun _=>rfl) vs i 0 _ (.slice C xs[i].codes.length c,vs[i].2) hzi (by omega) rfl] at t1
  have t2:=(t1.stored (i*2+1) (.slice E xs[i].elems.length d)).1
  rw [flatK_set enC 2 (fun _=>rfl) (vs.set i (.slice C xs[i].codes.length c,vs[i].2)) i 1 _ (.slice C xs[i].codes.length c,.slice E xs[i].elems.length d) (by simpa using hzi) (by omega) (by rw [List.getElem_set_self];rfl)] at t2
  exact t2
 ·have hIC:IntsAp (some ⟨g,0,none⟩) z w C xs[i].codes:=⟨hC,fun hne q hq=>⟨fun e=>(hap hne q hq).1 (Option.some.inj (show some g=some q from e)),(hap hne q hq).2⟩⟩
  have hIE:EltsAp (some ⟨g,0,none⟩) z w E xs[i].elems:=⟨hE,fun hne q hq=>⟨fun e=>(hape hne q hq).1 (Option.some.inj (show some g=some q from e)),(hape hne q hq).2⟩⟩
  by_cases e:i=j
  ·subst e
   exact ⟨C,c,E,d,by rw [List.getElem_set_self],(hIC.stored ⟨g,i*2,none⟩ (.inl rfl) _).stored ⟨g,i*2+1,none⟩ (.inl rfl) _,(hIE.stored ⟨g,i*2,none⟩ (.inl rfl) _).stored ⟨g,i*2+1,none⟩ (.inl rfl) _⟩
  ·obtain ⟨C',c',E',d',e1,e2,e3⟩:=h3 j hj (by omega)
   exact ⟨C',c',E',d',by rw [List.getElem_set_ne e,List.getElem_set_ne e,e1],(e2.stored ⟨g,i*2,none⟩ (.inl rfl) _).stored ⟨g,i*2+1,none⟩ (.inl rfl) _,(e3.stored ⟨g,i*2,none⟩ (.inl rfl) _).stored ⟨g,i*2+1,none⟩ (.inl rfl) _⟩
theorem EntsIn.off (h:EntsIn w base z B cap xs) (hz:z < base) (p:Addr) (hp:p.block=z) (v:Value):EntsIn (w.setCell p v) base z B cap xs:=by
 obtain ⟨vs,h1,h2,h3⟩:=h.ex
 refine ⟨vs,h1,own_z h2 hz p hp v,fun i hi hv=>?_⟩
 obtain ⟨C,c,E,d,e1,e2,e3⟩:=h3 i hi hv
 exact ⟨C,c,E,d,e1,e2.stored p (.inr hp) v,e3.stored p (.inr hp) v⟩
end
end Go.Proofs.YtkhmjidaeliccaaGreatDoor
namespace Go.Proofs.YtkhmjidaeliccaaGreatDoor
open Go.RowKit Go.Maps Go.WideMaps
def MapC {κ:Type} (P:Program) (k:TypeId) (kl:κ→Lit) (ok:κ→Prop) (w:World) (b n:Nat) (f:κ→Option Value) (sz:Nat):Prop:=
 ∃D:DataW Value,w.ownsMap P k elemV b n D∧(∀x,ok x→Maps.has D (kl x)=(f x).isSome∧∀z,D.atKey (kl x) (.held z)=.held ((f x).getD z))∧Maps.size D=sz
section
variable {κ:Type} {P:Program} {k:TypeId} {kl:κ→Lit} {ok:κ→Prop} {w w':World} {b n sz:Nat} {f:κ→Option Value}
theorem MapC.is (h:MapC P k kl ok w b n f sz):MapIs P k kl ok w b n f:=by obtain ⟨D,h1,h2,_⟩:=h;exact ⟨D,h1,h2⟩
theorem MapC.made (P:Program) (k:TypeId) (kl:κ→Lit) (ok:κ→Prop) (w:World):MapC P k kl ok (w.alloc (.map #[] 0)) w.heap.size 0 (fun _=>none) 0:=
 ⟨.map [],World.ownsMap_made w P k elemV,fun _ _=>⟨rfl,fun _=>rfl⟩,rfl⟩
theorem MapC.lt (h:MapC P k kl ok w b n f sz):b < w.heap.size:=h.is.lt
theorem MapC.kept {row:Option Nat} (h:MapC P k kl ok w b n f sz) (hg:w.grownBy w' row) (hne:some b≠row):MapC P k kl ok w' b n f sz:=by
 obtain ⟨D,h1,h2⟩:=h
 exact ⟨D,h1.kept hg hne,h2⟩
theorem MapC.below (h:MapC P k kl ok w b n f sz) (hb:Below w.heap.size w w'):MapC P k kl ok w' b n f sz:=
 h.kept (row:=none) ⟨hb.os,hb.tape,hb.output,hb.size,fun k hk _=>hb.block k hk⟩ (by simp)
theorem MapC.put [DecidableEq κ] {t e:TypeId} (h:MapC P k kl ok w b n f sz) (K:Keyed P k) (ht:P.underlying t=some (.map k e)) (hn:n < maxLen) {key v:Value} {x:κ} (hx:ok x) (hkey:keyOf P k key=some (kl x))
  (hinj:∀y,ok y→kl y=kl x→y=x) :
  ∃w',(Instr.mapUpdate t (.map (some b)) key v).run P w=.ok () w'∧MapC P k kl ok w' b (n+1) (fun y=>if y=x then some v else f y) (if (f x).isSome=true then sz else sz+1)∧w.grownBy w' (some b):=by
 obtain ⟨D,h1,h2,h3⟩:=h
 obtain ⟨w',hrun,r1,r2⟩:=h1.update K ht hn hkey (val:=v) (d:=.held v) (ps:=[]) rfl
 refine ⟨w',hrun,⟨_,r1,fun y hy=>?_,?_⟩,r2⟩
 ·dsimp only
  by_cases e:y=x
  ·subst e
   rw [if_pos rfl]
   exact ⟨by rw [has_put_same h1.isMap (K.key hkey)];rfl,fun z=>atKey_put_same h1.isMap (K.key hkey) _ _⟩
  ·rw [if_neg e]
   have hne:kl y≠kl x:=fun e'=>e (hinj y hy e')
   rw [has_put_other hne]
   exact ⟨(h2 y hy).1,fun z=>(atKey_put_other hne _ _).trans ((h2 y hy).2 z)⟩
 ·rw [size_put (h1.tidy K),(h2 x hx).1,h3]
theorem MapC.drop [DecidableEq κ] {t e:TypeId} (h:MapC P k kl ok w b n f sz) (K:Keyed P k) (ht:P.underlying t=some (.map k e)) {key:Value} {x:κ} (hx:ok x) (hkey:keyOf P k key=some (kl x)) (hinj:∀y,ok y→kl y=kl x→y=x) (ty:TypeId) :
  ∃w',(Builtin.delete_ #[t,k] ty #[.map (some b),key]).run P w=.ok (.tuple #[]) w'∧MapC P k kl ok w' b n (fun y=>if y=x then none else f y) (sz - if (f x).isSome=true then 1 else 0)∧w.grownBy w' (some b):=by
 obtain ⟨D,h1,h2,h3⟩:=h
 obtain ⟨w',hrun,r1,r2⟩:=h1.drop K ht hkey ty
 refine ⟨w',hrun,⟨_,r1,fun y hy=>?_,?_⟩,r2.grown⟩
 ·dsimp only
  by_cases e:y=x
  ·subst e
   rw [if_pos rfl]
   exact ⟨has_del_same,fun z=>atKey_del_same _⟩
  ·rw [if_neg e]
   have hne:kl y≠kl x:=fun e'=>e (hinj y hy e')
   rw [has_del_other hne]
   exact ⟨(h2 y hy).1,fun z=>(atKey_del_other hne _).trans ((h2 y hy).2 z)⟩
 ·have h4:=size_del (k:=kl x) (h1.tidy K)
  rw [(h2 x hx).1,h3] at h4
  omega
theorem MapC.len {t e:TypeId} (h:MapC P k kl ok w b n f sz) (ht:P.underlying t=some (.map k e)) (ty:TypeId):(Builtin.len_ #[t] ty #[.map (some b)]).run P w=.ok (.int .i64 sz) w:=by
 obtain ⟨D,h1,_,h3⟩:=h
 rw [h1.len ht ty,h3]
end
section
variable {κ:Type} {P:Program} {w:World} {ops:Array Oper} {rest:List Oper} {o:Oper} {a:Act} {Q:Exit→Act→World→Prop} {md:Region.Mode} {S:World→Prop}
variable {k:TypeId} {kl:κ→Lit} {ok:κ→Prop} {b n sz:Nat} {f:κ→Option Value}
end
end Go.Proofs.YtkhmjidaeliccaaGreatDoor
namespace Go.Proofs.YtkhmjidaeliccaaGreatDoor
open Go.RowKit Go.Maps Go.WideMaps
end Go.Proofs.YtkhmjidaeliccaaGreatDoor
namespace Go.Proofs.YtkhmjidaeliccaaGreatDoor.Can
section
variable {cl:Int→Int}
end
end Go.Proofs.YtkhmjidaeliccaaGreatDoor.Can
namespace Go.Proofs.YtkhmjidaeliccaaGreatDoor
end Go.Proofs.YtkhmjidaeliccaaGreatDoor
namespace Go.Proofs.YtkhmjidaeliccaaGreatDoor.Cps
open Go.Proofs.YtkhmjidaeliccaaGreatDoor
structure CSt where
 pre:List Int
 st:Option Int
 bt:List Int
def CSt.out (s:CSt):List Int:=s.pre++(s.st.toList++s.bt)
def s0:CSt:=⟨[],none,[]⟩
section
variable (cl:Int→Int) (pr:Int→Int→Option Int)
def free (s:CSt) (c:Int):Bool:=match s.bt.getLast? with | none=>true | some b=>decide (cl b < cl c)
def put (s:CSt) (c:Int):CSt:=if cl c=0 then ⟨s.out,some c,[]⟩ else ⟨s.pre,s.st,s.bt++[c]⟩
def join (s:CSt) (c:Int):Option Int:=match s.st with | some L=>if free cl s c=true then pr L c else none | none=>none
def step (s:CSt) (c:Int):CSt:=match join cl pr s c with | some p=>⟨s.pre,some p,s.bt⟩ | none=>put cl s c
def run (s:CSt) (t:List Int):CSt:=t.foldl (step cl pr) s
def text (t:List Int):List Int:=(run cl pr s0 t).out
end
section
variable {cl:Int→Int} {pr:Int→Int→Option Int}
theorem put_out (s:CSt) (c:Int):(put cl s c).out=s.out++[c]:=by
 unfold put
 split <;> simp [CSt.out]
theorem join_some {s:CSt} {c p:Int} (h:join cl pr s c=some p):∃L,s.st=some L∧free cl s c=true∧pr L c=some p:=by
 unfold join at h
 split at h
 ·next L hL=>
  split at h
  ·next hf=>exact ⟨L,hL,hf,h⟩
  ·cases h
 ·cases h
theorem step_some {s:CSt} {c p:Int} (h:join cl pr s c=some p):step cl pr s c=⟨s.pre,some p,s.bt⟩:=by unfold step;rw [h]
theorem step_none {s:CSt} {c:Int} (h:join cl pr s c=none):step cl pr s c=put cl s c:=by unfold step;rw [h]
end
section
variable {cl:Int→Int} {pr:Int→Int→Option Int} {D:Int→List Int}
theorem inv_move (c:Int) (q:List Int) (hc:cl c≠0) (h:∀y ∈ q,cl y≠0∧cl y≠cl c):Can.Inv cl (c::q) (q++[c]):=by
 induction q with
 | nil=>exact Can.Inv.refl _
 | cons y r ih=>
  have hy:=h y (by simp)
  exact (Can.Inv.swap r hc hy.1 (fun e=>hy.2 e.symm)).trans ((ih (fun z hz=>h z (by simp [hz]))).cons y)
structure Und (cl:Int→Int) (D:Int→List Int) (u:List Int) (s:CSt):Prop where
 inv:Can.Inv cl (s.out.flatMap D) u
 bts:∀b ∈ s.bt,D b=[b]∧cl b≠0
 pw:s.bt.Pairwise (fun x y=>cl x≤cl y)
 top:∀b ∈ s.bt,∃x,u.getLast?=some x∧cl b≤cl x
theorem flat_self {l:List Int} (h:∀b ∈ l,D b=[b]):l.flatMap D=l:=by
 induction l with
 | nil=>rfl
 | cons b l ih=>rw [List.flatMap_cons,h b (by simp),ih (fun x hx=>h x (by simp [hx]))];rfl
theorem last_le {l:List Int} (hp:l.Pairwise (fun x y=>cl x≤cl y)) {b:Int} (hb:l.getLast?=some b):∀x ∈ l,cl x≤cl b:=by
 obtain ⟨r,rfl⟩:∃r,l=r++[b]:=by
  cases hl:l with
  | nil=>rw [hl] at hb;cases hb
  | cons x y=>
   rw [hl] at hb
   refine ⟨(x::y).dropLast,?_⟩
   have h1:(x::y).getLast (by simp)=b:=by rw [List.getLast?_eq_some_getLast (by simp)] at hb;injection hb
   rw [←h1,List.dropLast_concat_getLast]
 intro x hx
 rcases List.mem_append.1 hx with hx | hx
 ·exact (List.pairwise_append.1 hp).2.2 x hx b (by simp)
 ·simp at hx;subst hx;omega
theorem Und.step (hcl:∀x,0≤cl x) (hD:∀L c p,pr L c=some p→D p=D L++D c) {u:List Int} {s:CSt} {c:Int} (h:Und cl D u s) (hc:D c=[c]) (hok:cl c≠0→∀x,u.getLast?=some x→cl x≤cl c):Und cl D (u++[c]) (step cl pr s c):=by
 have hlast:(u++[c]).getLast?=some c:=by simp
 have hlt:cl c≠0→∀b ∈ s.bt,cl b≤cl c:=fun h0 b hb=>by
  obtain ⟨x,h1,h2⟩:=h.top b hb
  have:=hok h0 x h1
  omega
 cases hj:join cl pr s c with
 | none=>
  rw [step_none hj]
  have hi:Can.Inv cl ((put cl s c).out.flatMap D) (u++[c]):=by
   rw [put_out,List.flatMap_append]
   have:[c].flatMap D=[c]:=by simp [hc]
   rw [this]
   exact h.inv.append (Can.Inv.refl _)
  by_cases h0:cl c=0
  ·have e:(put cl s c).bt=[]:=by unfold put;rw [if_pos h0]
   exact ⟨hi,by rw [e];simp,by rw [e];simp,by rw [e];simp⟩
  ·have e:(put cl s c).bt=s.bt++[c]:=by unfold put;rw [if_neg h0]
   refine ⟨hi,?_,?_,?_⟩ <;> rw [e]
   ·intro b hb
    rcases List.mem_append.1 hb with hb | hb
    ·exact h.bts b hb
    ·simp at hb;subst hb;exact ⟨hc,h0⟩
   ·rw [List.pairwise_append]
    exact ⟨h.pw,by simp,fun a ha b hb=>by simp at hb;subst hb;exact hlt h0 a ha⟩
   ·intro b hb
    refine ⟨c,hlast,?_⟩
    rcases List.mem_append.1 hb with hb | hb
    ·exact hlt h0 b hb
    ·simp at hb;subst hb;omega
 | some p=>
  obtain ⟨L,h1,h2,h3⟩:=join_some hj
  rw [step_some hj]
  have hDp:=hD L c p h3
  rw [hc] at hDp
  have hall:∀b ∈ s.bt,cl b < cl c:=by
   intro b hb
   unfold free at h2
   cases hl:s.bt.getLast? with
   | none=>rw [List.getLast?_eq_none_iff] at hl;rw [hl] at hb;cases hb
   | some y=>
    rw [hl] at h2
    have h4:cl y < cl c:=by simpa using h2
    have:=last_le h.pw hl b hb
    omega
  refine ⟨?_,h.bts,h.pw,fun b hb=>⟨c,hlast,by have:=hall b hb;omega⟩⟩
  have e1:(CSt.out ⟨s.pre,some p,s.bt⟩).flatMap D=s.pre.flatMap D++(D L++(c::s.bt)):=by
   simp [CSt.out,hDp,flat_self (fun b hb=>(h.bts b hb).1)]
  have e2:s.out.flatMap D++[c]=s.pre.flatMap D++(D L++(s.bt++[c])):=by
   simp [CSt.out,h1,flat_self (fun b hb=>(h.bts b hb).1)]
  rw [e1]
  have hmv:Can.Inv cl (c::s.bt) (s.bt++[c]):=by
   by_cases hb:s.bt=[]
   ·rw [hb];exact Can.Inv.refl _
   ·obtain ⟨y,hy⟩:=List.exists_mem_of_ne_nil _ hb
    have h5:=hall y hy
    have h6:=hcl y
    exact inv_move c _ (by omega) (fun z hz=>⟨(h.bts z hz).2,by have:=hall z hz;omega⟩)
  refine ((Can.Inv.refl (cl:=cl) (s.pre.flatMap D)).append ((Can.Inv.refl (cl:=cl) (D L)).append hmv)).trans ?_
  rw [←e2]
  exact h.inv.append (Can.Inv.refl _)
end
end Go.Proofs.YtkhmjidaeliccaaGreatDoor.Cps
namespace Go.Proofs.YtkhmjidaeliccaaGreatDoor
open Go.RowKit
def usN (x:Nrm):Nrm:=if nErr x=0 then x else ⟨[],[],[]⟩
structure NOk (x:Nrm):Prop where
 st:StF x.dec
 hg:NoHg x.dec
 co:CodesOk x.dec
 en:endB x.dec=true
 lo:longB x.dec=false
 kd:∀m ∈ x.dec,m.tag.size=0→m.toq.length=1∨m.toq.length=2
theorem usN_ok (x:Nrm):NOk (usN x):=by
 unfold usN
 split
 ·next h=>
  obtain ⟨c,h1,h2⟩:=nErr_ck6 h
  refine ⟨StF_of c.t,NoHg_of c.d,mapErr_codes c.m,h1,h2,fun m hm ht=>?_⟩
  have:=List.any_eq_false.1 c.k m hm
  unfold kindB at this
  simp [ht] at this
  omega
 ·exact ⟨fun i j hi=>by simp at hi,fun i hi=>by simp at hi,fun i hi=>by simp at hi,rfl,rfl,fun m hm=>by simp at hm⟩
section
variable {x:Nrm}
end
end Go.Proofs.YtkhmjidaeliccaaGreatDoor
namespace Go.Proofs.YtkhmjidaeliccaaGreatDoor
open Go.RowKit Go.Maps Go.WideMaps
theorem results_nrm {fn:Func} (hr:fn.results=#[.cell 2 28]) (tmps:Array Value) (w:World) {b:Nat} {v0 v1 v2:Value} (ha:tmps.getD 2 undef=.pointer (some ⟨b,0,none⟩))
  (c0:w.cell? ⟨b,0,none⟩=some v0) (c1:w.cell? ⟨b,1,none⟩=some v1) (c2:w.cell? ⟨b,2,none⟩=some v2) :
  (results fn tmps).run Tryz.prog w=.ok (.agg #[v0,v1,v2]) w:=by
 unfold results
 rw [hr]
 simp only [ha,List.mapM_toArray,List.mapM_cons,List.mapM_nil,asAddr]
 go_simp
theorem NrmAt.empty (w:World):NrmAt w none 0 none 0 none 0 ⟨[],[],[]⟩:=⟨Sl.nil _ _,Mps.nil _ _,Sl.nil _ _,rfl,rfl,rfl⟩
theorem usN_bad {x:Nrm} (h:¬nErr x=0):usN x=⟨[],[],[]⟩:=if_neg h
theorem usN_good {x:Nrm} (h:nErr x=0):usN x=x:=if_pos h
def usV (x:Nrm) (A0:Option Addr) (k0:Nat) (A1:Option Addr) (k1:Nat) (A2:Option Addr) (k2:Nat):Value:=if nErr x=0 then .agg #[.slice A0 x.cls.length k0,.slice A1 x.dec.length k1,.slice A2 x.exc.length k2] else .agg #[.slice none 0 0,.slice none 0 0,.slice none 0 0]
theorem usV_bad {x:Nrm} (A0:Option Addr) (k0:Nat) (A1:Option Addr) (k1:Nat) (A2:Option Addr) (k2:Nat) (h:¬nErr x=0):usV x A0 k0 A1 k1 A2 k2=.agg #[.slice none 0 0,.slice none 0 0,.slice none 0 0]:=if_neg h
theorem usV_good {x:Nrm} (A0:Option Addr) (k0:Nat) (A1:Option Addr) (k1:Nat) (A2:Option Addr) (k2:Nat) (h:nErr x=0):usV x A0 k0 A1 k1 A2 k2=.agg #[.slice A0 x.cls.length k0,.slice A1 x.dec.length k1,.slice A2 x.exc.length k2]:=if_pos h
theorem usV_at {w:World} {A0:Option Addr} {n0:Nat} {A1:Option Addr} {n1:Nat} {A2:Option Addr} {n2:Nat} {x:Nrm} (h:NrmAt w A0 n0 A1 n1 A2 n2 x) (k0 k1 k2:Nat):∃B0 c0 B1 c1 B2 c2,usV x A0 k0 A1 k1 A2 k2=.agg #[.slice B0 (usN x).cls.length c0,.slice B1 (usN x).dec.length c1,.slice B2 (usN x).exc.length c2]∧
  ∀W,Below w.heap.size w W→NrmAt W B0 (usN x).cls.length B1 (usN x).dec.length B2 (usN x).exc.length (usN x):=by
 by_cases hc:nErr x=0
 ·rw [usN_good hc,usV_good _ _ _ _ _ _ hc]
  exact ⟨_,_,_,_,_,_,rfl,fun W hb=>⟨h.s0.below hb,h.s1.below hb,h.s2.below hb,rfl,rfl,rfl⟩⟩
 ·rw [usN_bad hc,usV_bad _ _ _ _ _ _ hc]
  exact ⟨none,0,none,0,none,0,rfl,fun W _=>NrmAt.empty W⟩
theorem NrmSz.us {x:Nrm} (h:NrmSz x):NrmSz (usN x):=by
 unfold usN
 split
 ·exact h
 ·exact ⟨by simp,⟨by simp,fun i hi=>by simp at hi⟩,by simp⟩
end Go.Proofs.YtkhmjidaeliccaaGreatDoor
namespace Go.Proofs.YtkhmjidaeliccaaGreatDoor
open Go.RowKit
theorem RetOwnI.hg {zs:List Int} {w w':World} {e:Ending} (h:RetOwnI zs w e w'):RetHg zs w e w':=by
 obtain ⟨A,c,he,ho,hb⟩:=h
 refine ⟨A,c,he,?_,Sl.of_own ho,hb⟩
 obtain ⟨_,_,hv,hc⟩:=own_form ho
 injection hv with _ _ hv
 subst hv
 exact hc
end Go.Proofs.YtkhmjidaeliccaaGreatDoor
namespace Go.Proofs.YtkhmjidaeliccaaGreatDoor
open Go.RowKit Go.Maps Go.WideMaps
def flM (x:Nrm) (compat:Bool) (t:List Int):List Int:=t.flatMap (dcM x.dec compat)
theorem flM_len {x:Nrm} (h:NOk x) (compat:Bool) (t:List Int):(flM x compat t).length≤64*t.length:=by
 unfold flM
 induction t with
 | nil=>simp
 | cons c t ih=>have:=dcM_len h.st h.hg h.en h.lo compat c;rw [List.flatMap_cons,List.length_append,List.length_cons];omega
theorem onM_codes {ms:List Mp} (hc:CodesOk ms) {compat:Bool} {c:Int} {toq:List Int} (h:onM ms compat c=some toq):∀e ∈ toq,iok e:=by
 intro e he
 unfold onM at h
 split at h
 ·next h4=>
  injection h with h
  subst h
  exact iok_code ((decomp_kids h4).2 e he).1
 ·cases hf:fndM ms compat c with
  | none=>rw [hf] at h;cases h
  | some m=>
   rw [hf] at h
   obtain ⟨hm,_⟩:=fndM_at hf
   simp only [Option.map_some,Option.some.injEq] at h
   rw [toM_at hm] at h
   subst h
   exact iok_code ((hc m hm).2.2 e he)
theorem full_iok {ms:List Mp} (hc:CodesOk ms) {compat:Bool} {c:Int} {l:List Int} (h:Full (onM ms compat) c l):iok c→∀e ∈ l,iok e:=by
 induction h with
 | leaf h=>intro h1 e he;simp at he;subst he;exact h1
 | @node c toq vs h1 h2 _ ih=>
  intro _ e he
  obtain ⟨v,hv,he⟩:=List.mem_flatten.1 he
  obtain ⟨i,hi,rfl⟩:=List.getElem_of_mem hv
  exact ih i (by omega) hi (onM_codes hc h1 _ (List.getElem_mem (by omega))) e he
theorem fl_facts {x:Nrm} (h:NOk x) (compat:Bool) {t:List Int} (ht:∀c ∈ t,iok c):(∀c ∈ Can.srt (clz x.cls) (flM x compat t),iok c∧dcM x.dec compat c=[c])∧Can.Ok (clz x.cls) (Can.srt (clz x.cls) (flM x compat t)):=by
 refine ⟨fun c hc=>?_,Can.srt_ok _⟩
 have hm:=(Can.srt_perm (flM x compat t)).mem_iff.1 hc
 unfold flM at hm
 obtain ⟨e,he,hce⟩:=List.mem_flatMap.1 hm
 exact ⟨full_iok h.co (dcM_full h.st h.hg h.en compat e) (ht e he) c hce,dcM_elem h.st h.hg h.en compat hce⟩
end Go.Proofs.YtkhmjidaeliccaaGreatDoor
