/- Texts that are merged into one file: RDCheck, OCanonB, CpsText, CpsPlain, NormUs, ORefSort, RefText, ExpA. -/
import Derived.Test.YtijgbonhjcblcaaGreatDoorM02
import Derived.Test.YtijgbonhjcblcaaGreatDoorM03
import Derived.Test.YtijgbonhjcblcaaGreatDoorM04
import Derived.Test.YtijgbonhjcblcaaGreatDoorM05
import Derived.Test.YtijgbonhjcblcaaGreatDoorM06
import Derived.Test.YtijgbonhjcblcaaGreatDoorM07
import Derived.Test.YtijgbonhjcblcaaGreatDoorM09
import Derived.Test.YtijgbonhjcblcaaGreatDoorM10
import Derived.Test.YtijgbonhjcblcaaGreatDoorM12
import Derived.Test.YtijgbonhjcblcaaGreatDoorM13
import Derived.Test.YtijgbonhjcblcaaGreatDoorM16
set_option maxRecDepth 100000
set_option maxHeartbeats 51200000
namespace Go.Proofs.YtijgbonhjcblcaaGreatDoor
open Go.RowKit Go.Maps Go.WideMaps
theorem fndV_le {ms:List Mp} {c:Int} {j:Nat} (hj:j < ms.length) (h:ms[j].frm=c):0≤fndV ms true c∧fndV ms true c≤j:=by
 unfold fndV
 cases hf:fndM ms true c with
 | none=>exact absurd hf (by
   unfold fndM
   rw [List.findIdx?_eq_none_iff]
   intro g
   have:=g _ (List.getElem_mem hj)
   simp [h] at this)
 | some i=>
  refine ⟨by dsimp only;omega,?_⟩
  unfold fndM at hf
  rw [List.findIdx?_eq_some_iff_getElem] at hf
  obtain ⟨hi,_,h3⟩:=hf
  dsimp only
  rcases Nat.lt_or_ge j i with g | g
  ·have:=h3 j g;simp [h] at this
  ·omega
theorem stB_found {ms:List Mp} {i:Nat} (hi:i < ms.length) (h:fndV ms true ms[i].frm < i):stB ms=false:=by
 rcases fndV_cases ms true ms[i].frm with ⟨h1,h2⟩ | ⟨m,hm,h1,h2⟩
 ·have:=(fndV_le hi rfl).1;omega
 ·obtain ⟨_,g,_⟩:=fndM_at h1
  exact stB_no hm hi (by omega) g.symm
theorem stB_notfound {ms:List Mp} (h:mapErr ms=0) (hno:∀t,(ht:t < ms.length)→¬fndV ms true ms[t].frm < t):stB ms=true:=
 stB_of h (fun k hk g=>by
  have h1:=hno (k+1) hk
  have h2:=(fndV_le (j:=k) (c:=ms[k+1].frm) (by omega) g.symm).2
  omega)
theorem rdCheck_any (A0:Option Addr) (n0 k0:Nat) (A1:Option Addr) (n1 k1:Nat) (A2:Option Addr) (n2 k2:Nat) (x:Nrm) (w:World) (hN:NrmAt w A0 n0 A1 n1 A2 n2 x) (hz:NrmSz x) :
  Calls Tryz.prog 14 #[.agg #[.slice A0 n0 k0,.slice A1 n1 k1,.slice A2 n2 k2]] w (RetInt (nErr x) w):=by
 obtain ⟨ss,ms,rs⟩:=x
 obtain ⟨hS,hM,hR,rfl,rfl,rfl⟩:=hN
 dsimp only at *
 have z0:ss.length≤1048576:=hz.z0
 have z1:ms.length≤1048576:=hz.z1.n
 have ze:=Lib.hid hz.z1.e
 have z2:rs.length≤12:=hz.z2
 have CC:=Lib.hid (fun W (hb:Below w.heap.size w W)=>refCheck_any A0 ss.length k0 ss W (hS.below hb) rfl (by omega))
 have MC:=Lib.hid (fun W (hb:Below w.heap.size w W)=>refMapCheck_any A1 ms.length k1 ms W (hM.below hb) rfl hz.z1)
 have VC:=Lib.hid (fun W (hb:Below w.heap.size w W)=>refSetValid_any A2 rs.length k2 rs W (hR.below hb) rfl (by omega))
 have KC:=Lib.hid (fun c W=>refKind_any c W)
 have CLC:=Lib.hid (fun c W (hb:Below w.heap.size w W)=>refClass_any A0 ss.length k0 ss c W (hS.below hb) rfl (by omega))
 have FC:=Lib.hid (fun c W (hb:Below w.heap.size w W)=>find_any A1 ms.length k1 ms c true W (hM.below hb) rfl z1)
 have EC:=Lib.hid (fun W (hb:Below w.heap.size w W)=>ends_any A1 ms.length k1 ms W (hM.below hb) rfl z1 (fun i hi=>(ze.out i hi).1))
 have LC:=Lib.hid (fun b W (hb:Below w.heap.size w W)=>lengths_any A1 ms.length k1 ms b W (hM.below hb) rfl z1 (fun i hi=>(ze.out i hi).1))
 have N0:=Lib.hid (fun h=>nErr_c (x:=⟨ss,ms,rs⟩) h)
 have N1:=Lib.hid (fun h1 h2=>nErr_m (x:=⟨ss,ms,rs⟩) h1 h2)
 have N2:=Lib.hid (fun h1 h2 h3=>nErr_s (x:=⟨ss,ms,rs⟩) h1 h2 h3)
 have N3:=Lib.hid (fun (c:Ck3 ⟨ss,ms,rs⟩) h=>c.twice h)
 have N4:=Lib.hid (fun (c:Ck4 ⟨ss,ms,rs⟩) h=>c.kind h)
 have N5:=Lib.hid (fun (c:Ck5 ⟨ss,ms,rs⟩) h=>c.data h)
 have N6:=Lib.hid (fun (c:Ck6 ⟨ss,ms,rs⟩)=>c.rest)
 dsimp only at N0 N1 N2 N3 N4 N5 N6
 generalize nErr ⟨ss,ms,rs⟩=r at *
 have HM:=Lib.hid hM
 clear hM hS hR hz ze
 have B0:Below w.heap.size w (w.alloc (.cells #[.slice A0 ss.length k0,.slice A1 ms.length k1,.slice A2 rs.length k2] 28)):=(Below.refl _ _).alloc (Nat.le_refl _) _
 have X0:Box (w.alloc (.cells #[.slice A0 ss.length k0,.slice A1 ms.length k1,.slice A2 rs.length k2] 28)) w.heap.size 28 [.slice A0 ss.length k0,.slice A1 ms.length k1,.slice A2 rs.length k2]:=Box.new _ _ _ rfl
 have W0E:∃W0,(w.alloc (.cells #[.slice A0 ss.length k0,.slice A1 ms.length k1,.slice A2 rs.length k2] 28))=W0:=⟨_,rfl⟩
 go_enter Tryz.func14,Tryz.ntmps14
 go_wp2_with fail
 obtain ⟨W0,hW0⟩:=W0E
 rw [hW0] at B0 X0 ⊢
 clear hW0
 have s0:w.heap.size < W0.heap.size:=X0.lt
 have Q:=Lib.hid (fun W (hb:Below W0.heap.size W0 W)=>show W.cell? ⟨w.heap.size,0,none⟩=some (.slice A0 ss.length k0)∧W.cell? ⟨w.heap.size,1,none⟩=some (.slice A1 ms.length k1)∧W.cell? ⟨w.heap.size,2,none⟩=some (.slice A2 rs.length k2) from
  have X:=X0.below hb s0
  ⟨X.cell rfl,X.cell rfl,X.cell rfl⟩)
 have BB:=Lib.hid (fun W (hb:Below W0.heap.size W0 W)=>B0.trans (hb.mono B0.size))
 clear X0
 with_reducible refine (CC.out _ B0).mono ?_
 rintro e W1 ⟨rfl,hb1⟩
 obtain ⟨q0,q1,q2⟩:=Q.out W1 hb1
 generalize hc:chk ss=c at *
 have HC:=Lib.hid hc
 clear hc CC
 by_cases h0:¬c=0
 ·go_wp2_with fail
  go_ret
  exact ⟨ret_int (N0.out h0).symm,BB.out _ hb1⟩
 replace h0:=Decidable.not_not.1 h0
 subst h0
 clear N0
 go_wp2_with fail
 with_reducible refine (MC.out _ (BB.out _ hb1)).mono ?_
 rintro e W2 ⟨rfl,hb2⟩
 replace hb2:=hb1.trans (hb2.mono hb1.size)
 clear q0 q1 q2 hb1 MC
 obtain ⟨q0,q1,q2⟩:=Q.out W2 hb2
 generalize hc:mapErr ms=c at *
 have HMC:=Lib.hid hc
 clear hc
 by_cases h0:¬c=0
 ·go_wp2_with fail
  go_ret
  exact ⟨ret_int (N1.out (by trivial) h0).symm,BB.out _ hb2⟩
 replace h0:=Decidable.not_not.1 h0
 subst h0
 clear N1
 go_wp2_with fail
 with_reducible refine (VC.out _ (BB.out _ hb2)).mono ?_
 rintro e W3 ⟨rfl,hb3⟩
 replace hb3:=hb2.trans (hb3.mono hb2.size)
 clear q0 q1 q2 hb2 VC
 obtain ⟨q0,q1,q2⟩:=Q.out W3 hb3
 generalize hc:setOk rs=c at *
 have HSC:=Lib.hid hc
 clear hc
 cases c with
 | false=>
  go_wp2_with fail
  go_ret
  exact ⟨ret_int (N2.out (by trivial) (by trivial) (by trivial)).symm,BB.out _ hb3⟩
 | true=>
 have C3:=Lib.hid (show Ck3 ⟨ss,ms,rs⟩ from ⟨HC.out,HMC.out,HSC.out⟩)
 clear N2 HC HSC
 go_wp2_with fail
 clear q0 q1 q2
 go_loopw [6] (fun u wr=>∃i:Nat,i≤ms.length∧u=.int .i64 i∧(∀t,(ht:t < ms.length)→t < i→¬fndV ms true ms[t].frm < t)∧Below W0.heap.size W0 wr) (fun u _=>ms.length - (intOf u).toNat)
 case atStart=>exact ⟨0,Nat.zero_le _,rfl,fun t _ h=>absurd h (Nat.not_lt_zero _),hb3⟩
 case round=>
  obtain ⟨i,hi,rfl,h1,hb⟩:=hrel
  have H1:=Lib.hid h1
  clear h1
  by_cases hlt:i < ms.length
  ·obtain ⟨b,o,rfl,_,hcell⟩:=(HM.out.below (BB.out _ hb)).at hlt
   obtain ⟨E,d,c1,c2,c3,_,_⟩:=hcell i hlt
   clear hcell
   have HS:=Lib.hid (fun h=>stB_found hlt h)
   have HN:=Lib.hid (fun (h:¬fndV ms true ms[i].frm < i)=>show ∀t,(ht:t < ms.length)→t < i+1→¬fndV ms true ms[t].frm < t from fun t ht g=>by
    by_cases e:t=i
    ·subst e;exact h
    ·exact H1.out t ht (by omega))
   have FZ:=Lib.hid (FC.out ms[i].frm wr (BB.out _ hb))
   generalize fndV ms true ms[i].frm=fv at *
   generalize ms[i].frm=f at *
   generalize ms[i].to.length=tl at *
   generalize ms[i].tag=tg at *
   clear HM
   by_cases heq:fv < i
   ·have HR:=Lib.hid (N3.out C3.out (HS.out heq))
    go_wp2_with fail
    with_reducible refine FZ.out.mono ?_
    rintro e W4 ⟨rfl,rfl⟩
    go_wp2_with fail
    go_ret
    exact ⟨ret_int HR.out.symm,BB.out _ hb⟩
   ·have HR:=Lib.hid (HN.out heq)
    go_wp2_with fail
    with_reducible refine FZ.out.mono ?_
    rintro e W4 ⟨rfl,rfl⟩
    go_wp2_with fail
    go_roundw
    case rel=>exact ⟨i+1,by omega,by go_num,fun t ht h=>by have:=HR.out t ht h;omega,hb⟩
    case measure=>simp [intOf];omega
  ·have hst:=Lib.hid (show stB ms=true from stB_notfound HMC.out (fun t ht=>H1.out t ht (by omega)))
   have C4:=Lib.hid (show Ck4 ⟨ss,ms,rs⟩ from ⟨C3.out,hst.out⟩)
   clear N3 C3 H1 hst FC
   go_wp2_with fail
   go_loopw [7] (fun u wr=>∃i:Nat,i≤ms.length∧u=.int .i64 i∧(∀t,(ht:t < ms.length)→t < i→kindB ms[t]=false)∧Below W0.heap.size W0 wr) (fun u _=>ms.length - (intOf u).toNat)
   case atStart=>exact ⟨0,Nat.zero_le _,rfl,fun t _ h=>absurd h (Nat.not_lt_zero _),hb⟩
   case round=>
    clear hb
    obtain ⟨i,hi,rfl,hno,hb⟩:=hrel
    have HNO:=Lib.hid hno
    clear hno
    by_cases hlt:i < ms.length
    ·obtain ⟨b1,o1,rfl,hbl,hcell⟩:=(HM.out.below (BB.out _ hb)).at hlt
     obtain ⟨C,cc,c0,c1,c2,hcc,hC⟩:=hcell i hlt
     have HB:=Lib.hid (fun h=>N4.out C4.out (anyT hlt h))
     have HN:=Lib.hid (fun h=>all_up (P:=fun m=>kindB m=false) hlt HNO.out h)
     clear hcell hC
     generalize ms[i]=mi at *
     have K1:=Lib.hid (fun (h:¬mi.tag.size=0)=>show kindB mi=false from by simp [kindB,h])
     have K2:=Lib.hid (fun (h:mi.to.length=1)=>show kindB mi=false from by simp [kindB,h])
     have K3:=Lib.hid (fun (h:mi.to.length=2)=>show kindB mi=false from by simp [kindB,h])
     have K4:=Lib.hid (fun (h:mi.tag.size=0) (h1:¬mi.to.length=1) (h2:¬mi.to.length=2)=>show kindB mi=true from by simp [kindB,h,h1,h2])
     generalize kindB mi=kb at *
     obtain ⟨mf,mt,mg⟩:=mi
     dsimp only at *
     clear HM
     by_cases hg:mg.size=0
     ·have g0:mg.toList=[]:=str_nil hg
      by_cases h1:mt.length=1
      ·have HQ:=Lib.hid (HN.out (K2.out h1))
       have d1:((mt.length:Int) != 1)=false:=by simp;omega
       clear h1
       go_wp2_with fail
       go_roundw
       case rel=>exact ⟨i+1,by omega,by go_num,HQ.out,hb⟩
       case measure=>simp [intOf];omega
      ·have d1:((mt.length:Int) != 1)=true:=by simp;omega
       by_cases h2:mt.length=2
       ·have HQ:=Lib.hid (HN.out (K3.out h2))
        have d2:((mt.length:Int) != 2)=false:=by simp;omega
        clear h1 h2
        go_wp2_with fail
        go_roundw
        case rel=>exact ⟨i+1,by omega,by go_num,HQ.out,hb⟩
        case measure=>simp [intOf];omega
       ·have HR:=Lib.hid (HB.out (K4.out hg h1 h2))
        have d2:((mt.length:Int) != 2)=true:=by simp;omega
        go_wp2_with fail
        go_ret
        exact ⟨ret_int HR.out.symm,BB.out _ hb⟩
     ·have g0:¬mg.toList=[]:=str_cons hg
      have g1:mg.toList.isEmpty=false:=by simpa using g0
      have HQ:=Lib.hid (HN.out (K1.out hg))
      go_wp2_with fail
      go_roundw
      case rel=>exact ⟨i+1,by omega,by go_num,HQ.out,hb⟩
      case measure=>simp [intOf];omega
    ·have C5:=Lib.hid (show Ck5 ⟨ss,ms,rs⟩ from ⟨C4.out,show ms.any kindB=false from anyF (fun t ht=>HNO.out t ht (by omega))⟩)
     clear C4 N4 HNO
     go_wp2_with fail
     go_loopw [8] (fun u wr=>∃i:Nat,i≤ms.length∧u=.int .i64 i∧(∀t,(ht:t < ms.length)→t < i→datB ss ms[t]=false)∧Below W0.heap.size W0 wr) (fun u _=>ms.length - (intOf u).toNat)
     case atStart=>exact ⟨0,Nat.zero_le _,rfl,fun t _ h=>absurd h (Nat.not_lt_zero _),hb⟩
     case round=>
      clear hb
      obtain ⟨i,hi,rfl,hno,hb⟩:=hrel
      have HNO:=Lib.hid hno
      clear hno
      by_cases hlt:i < ms.length
      ·obtain ⟨b1,o1,rfl,hbl,hcell⟩:=(HM.out.below (BB.out _ hb)).at hlt
       obtain ⟨C,cc,c0,c1,c2,hcc,hC⟩:=hcell i hlt
       have HB:=Lib.hid (fun h=>N5.out C5.out (anyT hlt h))
       have HN:=Lib.hid (fun h=>all_up (P:=fun m=>datB ss m=false) hlt HNO.out h)
       clear hcell hC
       generalize ms[i]=mi at *
       have K1:=Lib.hid (fun (h:¬Hg.kind mi.frm=0)=>show datB ss mi=true from by simp [datB,h])
       have K2:=Lib.hid (fun (h:Hg.kind mi.frm=0) (h2:mi.tag.size=0)=>show datB ss mi=false from by simp [datB,h,h2])
       have K3:=Lib.hid (fun (h:Hg.kind mi.frm=0) (h3:clz ss mi.frm=0)=>show datB ss mi=false from by simp [datB,h,h3])
       have K4:=Lib.hid (fun (h2:¬mi.tag.size=0) (h3:¬clz ss mi.frm=0)=>show datB ss mi=true from by unfold datB;simp only [h2,h3,not_false_eq_true,decide_true,Bool.and_self,Bool.or_true])
       generalize datB ss mi=kb at *
       obtain ⟨mf,mt,mg⟩:=mi
       dsimp only at *
       clear HM
       have hlt':wr.heap.size=wr.heap.size:=rfl
       obtain ⟨q0,_,_⟩:=Q.out wr hb
       have SH:=Lib.hid (fun W' (hb':Below wr.heap.size wr W')=>show W'.cell? ⟨w.heap.size,0,none⟩=some (.slice A0 ss.length k0)∧W'.cell? ⟨b1,o1+i*3,none⟩=some (.int .i64 mf)∧W'.cell? ⟨b1,o1+i*3+2,none⟩=some (.string mg)∧Below wr.heap.size wr W' from ⟨(hb'.cell (World.block_lt_of_cell? _ _ q0)).trans q0,(hb'.cell (World.block_lt_of_cell? _ _ c0)).trans c0,(hb'.cell (World.block_lt_of_cell? _ _ c2)).trans c2,hb'⟩)
       have KF:=Lib.hid (fun W' (hb':Below wr.heap.size wr W')=>(KC.out mf W').mono (R':=fun e W'=>e=.returned (.int .i64 (Hg.kind mf))∧(W'.cell? ⟨w.heap.size,0,none⟩=some (.slice A0 ss.length k0)∧W'.cell? ⟨b1,o1+i*3,none⟩=some (.int .i64 mf)∧W'.cell? ⟨b1,o1+i*3+2,none⟩=some (.string mg)∧Below wr.heap.size wr W')) (fun e W'' hh=>⟨hh.1,hh.2 ▸ SH.out W' hb'⟩))
       have CF:=Lib.hid (fun W' (hb':Below wr.heap.size wr W')=>(CLC.out mf W' (BB.out _ (hb.trans (hb'.mono hb.size)))).mono (R':=fun e W'=>e=.returned (.int .i64 (clz ss mf))∧(W'.cell? ⟨w.heap.size,0,none⟩=some (.slice A0 ss.length k0)∧W'.cell? ⟨b1,o1+i*3,none⟩=some (.int .i64 mf)∧W'.cell? ⟨b1,o1+i*3+2,none⟩=some (.string mg)∧Below wr.heap.size wr W')) (fun e W'' hh=>⟨hh.1,SH.out W'' (hb'.trans (hh.2.mono hb'.size))⟩))
       clear q0 c1
       generalize hka:Hg.kind mf=ka at *
       generalize hcl:clz ss mf=cl at *
       clear hka hcl
       by_cases hk0:ka=0
       ·subst hk0
        by_cases hg:mg.size=0
        ·have g0:mg.toList=[]:=str_nil hg
         have HQ:=Lib.hid (HN.out (K2.out rfl hg))
         go_wp2_with fail
         refine wp_region_held_drew (S:=fun W'=>W'.cell? ⟨w.heap.size,0,none⟩=some (.slice A0 ss.length k0)∧W'.cell? ⟨b1,o1+i*3,none⟩=some (.int .i64 mf)∧W'.cell? ⟨b1,o1+i*3+2,none⟩=some (.string mg)∧Below wr.heap.size wr W') (by kernel_rfl) (SH.out _ ((Below.refl _ _).drew)) (fun hHeld=>?_)
         refine tK 0 83 ?_
         refine tK 1 84 ?_
         refine tK 2 85 ?_
         refine tK 3 86 ?_
         refine tK 4 87 ?_
         refine qK 5 88 (KF.out _ hHeld.2.2.2) ?_
         clear hHeld
         intro W5 hHeld
         refine tK 6 89 ?_
         refine tK 7 90 ?_
         refine tK 8 91 ?_
         refine tK 9 92 ?_
         refine tK 10 93 ?_
         refine tK 11 94 ?_
         refine tK 12 95 ?_
         refine tK 13 96 ?_
         refine tK 14 97 ?_
         refine anyH_skip (i:=15) (some 98) rfl rfl (by kernel_rfl) (by kernel_rfl) (by kernel_rfl) (fun _ _ _ h=>h) (by rfl) (by assumption) ?_
         try simp only [Act.put,List.setIfInBounds_toArray,List.set_cons_zero,List.set_cons_succ]
         refine anyH_skip (i:=16) (some 99) rfl rfl (by kernel_rfl) (by kernel_rfl) (by kernel_rfl) (fun _ _ _ h=>h) (by rfl) (by assumption) ?_
         try simp only [Act.put,List.setIfInBounds_toArray,List.set_cons_zero,List.set_cons_succ]
         refine anyH_skip (i:=17) (some 100) rfl rfl (by kernel_rfl) (by kernel_rfl) (by kernel_rfl) (fun _ _ _ h=>h) (by rfl) (by assumption) ?_
         try simp only [Act.put,List.setIfInBounds_toArray,List.set_cons_zero,List.set_cons_succ]
         refine anyH_skip (i:=18) (some 101) rfl rfl (by kernel_rfl) (by kernel_rfl) (by kernel_rfl) (fun _ _ _ h=>h) (by rfl) (by assumption) ?_
         try simp only [Act.put,List.setIfInBounds_toArray,List.set_cons_zero,List.set_cons_succ]
         refine anyH_skip (i:=19) (some 102) rfl rfl (by kernel_rfl) (by kernel_rfl) (by kernel_rfl) (fun _ _ _ h=>h) (by rfl) (by assumption) ?_
         try simp only [Act.put,List.setIfInBounds_toArray,List.set_cons_zero,List.set_cons_succ]
         refine anyH_skip (i:=20) (some 103) rfl rfl (by kernel_rfl) (by kernel_rfl) (by kernel_rfl) (fun _ _ _ h=>h) (by rfl) (by assumption) ?_
         try simp only [Act.put,List.setIfInBounds_toArray,List.set_cons_zero,List.set_cons_succ]
         refine anyH_skip (i:=21) (some 104) rfl rfl (by kernel_rfl) (by kernel_rfl) (by kernel_rfl) (fun _ _ _ h=>h) (by rfl) (by assumption) ?_
         try simp only [Act.put,List.setIfInBounds_toArray,List.set_cons_zero,List.set_cons_succ]
         refine anyH_skip (i:=22) (some 105) rfl rfl (by kernel_rfl) (by kernel_rfl) (by kernel_rfl) (fun _ _ _ h=>h) (by rfl) (by assumption) ?_
         try simp only [Act.put,List.setIfInBounds_toArray,List.set_cons_zero,List.set_cons_succ]
         refine anyH_skip (i:=23) (some 106) rfl rfl (by kernel_rfl) (by kernel_rfl) (by kernel_rfl) (fun _ _ _ h=>h) (by rfl) (by assumption) ?_
         try simp only [Act.put,List.setIfInBounds_toArray,List.set_cons_zero,List.set_cons_succ]
         refine tK 24 107 ?_
         refine tK 25 108 ?_
         refine wpAnyH_done (by kernel_rfl) ?_ _
         have hb9:=hb.trans (hHeld.2.2.2.mono hb.size)
         clear hHeld SH KF CF
         go_wp2_with fail
         go_roundw
         case rel=>exact ⟨i+1,by omega,by go_num,HQ.out,hb9⟩
         case measure=>simp [intOf];omega
        ·have g0:¬mg.toList=[]:=str_cons hg
         have g1:mg.toList.isEmpty=false:=by simpa using g0
         by_cases hc0:cl=0
         ·have HQ:=Lib.hid (HN.out (K3.out rfl hc0))
          subst hc0
          go_wp2_with fail
          refine wp_region_held_drew (S:=fun W'=>W'.cell? ⟨w.heap.size,0,none⟩=some (.slice A0 ss.length k0)∧W'.cell? ⟨b1,o1+i*3,none⟩=some (.int .i64 mf)∧W'.cell? ⟨b1,o1+i*3+2,none⟩=some (.string mg)∧Below wr.heap.size wr W') (by kernel_rfl) (SH.out _ ((Below.refl _ _).drew)) (fun hHeld=>?_)
          refine tK 0 83 ?_
          refine tK 1 84 ?_
          refine tK 2 85 ?_
          refine tK 3 86 ?_
          refine tK 4 87 ?_
          refine qK 5 88 (KF.out _ hHeld.2.2.2) ?_
          clear hHeld
          intro W5 hHeld
          refine tK 6 89 ?_
          refine tK 7 90 ?_
          refine tK 8 91 ?_
          refine tK 9 92 ?_
          refine tK 10 93 ?_
          refine tK 11 94 ?_
          refine tK 12 95 ?_
          refine tK 13 96 ?_
          refine tK 14 97 ?_
          refine tK 15 98 ?_
          refine tK 16 99 ?_
          refine tK 17 100 ?_
          refine tK 18 101 ?_
          refine tK 19 102 ?_
          refine tK 20 103 ?_
          refine tK 21 104 ?_
          refine qK 22 105 (CF.out _ hHeld.2.2.2) ?_
          clear hHeld
          intro W6 hHeld
          refine tK 23 106 ?_
          refine tK 24 107 ?_
          refine tK 25 108 ?_
          refine wpAnyH_done (by kernel_rfl) ?_ _
          have hb9:=hb.trans (hHeld.2.2.2.mono hb.size)
          clear hHeld SH KF CF
          go_wp2_with fail
          go_roundw
          case rel=>exact ⟨i+1,by omega,by go_num,HQ.out,hb9⟩
          case measure=>simp [intOf];omega
         ·have HR:=Lib.hid (HB.out (K4.out hg hc0))
          have hc1:(cl != 0)=true:=by simpa using hc0
          go_wp2_with fail
          refine wp_region_held_drew (S:=fun W'=>W'.cell? ⟨w.heap.size,0,none⟩=some (.slice A0 ss.length k0)∧W'.cell? ⟨b1,o1+i*3,none⟩=some (.int .i64 mf)∧W'.cell? ⟨b1,o1+i*3+2,none⟩=some (.string mg)∧Below wr.heap.size wr W') (by kernel_rfl) (SH.out _ ((Below.refl _ _).drew)) (fun hHeld=>?_)
          refine tK 0 83 ?_
          refine tK 1 84 ?_
          refine tK 2 85 ?_
          refine tK 3 86 ?_
          refine tK 4 87 ?_
          refine qK 5 88 (KF.out _ hHeld.2.2.2) ?_
          clear hHeld
          intro W5 hHeld
          refine tK 6 89 ?_
          refine tK 7 90 ?_
          refine tK 8 91 ?_
          refine tK 9 92 ?_
          refine tK 10 93 ?_
          refine tK 11 94 ?_
          refine tK 12 95 ?_
          refine tK 13 96 ?_
          refine tK 14 97 ?_
          refine tK 15 98 ?_
          refine tK 16 99 ?_
          refine tK 17 100 ?_
          refine tK 18 101 ?_
          refine tK 19 102 ?_
          refine tK 20 103 ?_
          refine tK 21 104 ?_
          refine qK 22 105 (CF.out _ hHeld.2.2.2) ?_
          clear hHeld
          intro W6 hHeld
          refine tK 23 106 ?_
          refine tK 24 107 ?_
          refine tK 25 108 ?_
          refine wpAnyH_done (by kernel_rfl) ?_ _
          have hb9:=hb.trans (hHeld.2.2.2.mono hb.size)
          clear hHeld SH KF CF
          go_wp2_with fail
          go_ret
          exact ⟨ret_int HR.out.symm,BB.out _ hb9⟩
       ·have HR:=Lib.hid (HB.out (K1.out hk0))
        have hk1:(ka != 0)=true:=by simpa using hk0
        go_wp2_with fail
        refine wp_region_held_drew (S:=fun W'=>W'.cell? ⟨w.heap.size,0,none⟩=some (.slice A0 ss.length k0)∧W'.cell? ⟨b1,o1+i*3,none⟩=some (.int .i64 mf)∧W'.cell? ⟨b1,o1+i*3+2,none⟩=some (.string mg)∧Below wr.heap.size wr W') (by kernel_rfl) (SH.out _ ((Below.refl _ _).drew)) (fun hHeld=>?_)
        refine tK 0 83 ?_
        refine tK 1 84 ?_
        refine tK 2 85 ?_
        refine tK 3 86 ?_
        refine tK 4 87 ?_
        refine qK 5 88 (KF.out _ hHeld.2.2.2) ?_
        clear hHeld
        intro W5 hHeld
        refine tK 6 89 ?_
        refine tK 7 90 ?_
        refine anyH_skip (i:=8) (some 91) rfl rfl (by kernel_rfl) (by kernel_rfl) (by kernel_rfl) (fun _ _ _ h=>h) (by rfl) (by assumption) ?_
        try simp only [Act.put,List.setIfInBounds_toArray,List.set_cons_zero,List.set_cons_succ]
        refine anyH_skip (i:=9) (some 92) rfl rfl (by kernel_rfl) (by kernel_rfl) (by kernel_rfl) (fun _ _ _ h=>h) (by rfl) (by assumption) ?_
        try simp only [Act.put,List.setIfInBounds_toArray,List.set_cons_zero,List.set_cons_succ]
        refine anyH_skip (i:=10) (some 93) rfl rfl (by kernel_rfl) (by kernel_rfl) (by kernel_rfl) (fun _ _ _ h=>h) (by rfl) (by assumption) ?_
        try simp only [Act.put,List.setIfInBounds_toArray,List.set_cons_zero,List.set_cons_succ]
        refine anyH_skip (i:=11) (some 94) rfl rfl (by kernel_rfl) (by kernel_rfl) (by kernel_rfl) (fun _ _ _ h=>h) (by rfl) (by assumption) ?_
        try simp only [Act.put,List.setIfInBounds_toArray,List.set_cons_zero,List.set_cons_succ]
        refine anyH_skip (i:=12) (some 95) rfl rfl (by kernel_rfl) (by kernel_rfl) (by kernel_rfl) (fun _ _ _ h=>h) (by rfl) (by assumption) ?_
        try simp only [Act.put,List.setIfInBounds_toArray,List.set_cons_zero,List.set_cons_succ]
        refine anyH_skip (i:=13) (some 96) rfl rfl (by kernel_rfl) (by kernel_rfl) (by kernel_rfl) (fun _ _ _ h=>h) (by rfl) (by assumption) ?_
        try simp only [Act.put,List.setIfInBounds_toArray,List.set_cons_zero,List.set_cons_succ]
        refine anyH_skip (i:=14) (some 97) rfl rfl (by kernel_rfl) (by kernel_rfl) (by kernel_rfl) (fun _ _ _ h=>h) (by rfl) (by assumption) ?_
        try simp only [Act.put,List.setIfInBounds_toArray,List.set_cons_zero,List.set_cons_succ]
        refine anyH_skip (i:=15) (some 98) rfl rfl (by kernel_rfl) (by kernel_rfl) (by kernel_rfl) (fun _ _ _ h=>h) (by rfl) (by assumption) ?_
        try simp only [Act.put,List.setIfInBounds_toArray,List.set_cons_zero,List.set_cons_succ]
        refine anyH_skip (i:=16) (some 99) rfl rfl (by kernel_rfl) (by kernel_rfl) (by kernel_rfl) (fun _ _ _ h=>h) (by rfl) (by assumption) ?_
        try simp only [Act.put,List.setIfInBounds_toArray,List.set_cons_zero,List.set_cons_succ]
        refine anyH_skip (i:=17) (some 100) rfl rfl (by kernel_rfl) (by kernel_rfl) (by kernel_rfl) (fun _ _ _ h=>h) (by rfl) (by assumption) ?_
        try simp only [Act.put,List.setIfInBounds_toArray,List.set_cons_zero,List.set_cons_succ]
        refine anyH_skip (i:=18) (some 101) rfl rfl (by kernel_rfl) (by kernel_rfl) (by kernel_rfl) (fun _ _ _ h=>h) (by rfl) (by assumption) ?_
        try simp only [Act.put,List.setIfInBounds_toArray,List.set_cons_zero,List.set_cons_succ]
        refine anyH_skip (i:=19) (some 102) rfl rfl (by kernel_rfl) (by kernel_rfl) (by kernel_rfl) (fun _ _ _ h=>h) (by rfl) (by assumption) ?_
        try simp only [Act.put,List.setIfInBounds_toArray,List.set_cons_zero,List.set_cons_succ]
        refine anyH_skip (i:=20) (some 103) rfl rfl (by kernel_rfl) (by kernel_rfl) (by kernel_rfl) (fun _ _ _ h=>h) (by rfl) (by assumption) ?_
        try simp only [Act.put,List.setIfInBounds_toArray,List.set_cons_zero,List.set_cons_succ]
        refine anyH_skip (i:=21) (some 104) rfl rfl (by kernel_rfl) (by kernel_rfl) (by kernel_rfl) (fun _ _ _ h=>h) (by rfl) (by assumption) ?_
        try simp only [Act.put,List.setIfInBounds_toArray,List.set_cons_zero,List.set_cons_succ]
        refine anyH_skip (i:=22) (some 105) rfl rfl (by kernel_rfl) (by kernel_rfl) (by kernel_rfl) (fun _ _ _ h=>h) (by rfl) (by assumption) ?_
        try simp only [Act.put,List.setIfInBounds_toArray,List.set_cons_zero,List.set_cons_succ]
        refine anyH_skip (i:=23) (some 106) rfl rfl (by kernel_rfl) (by kernel_rfl) (by kernel_rfl) (fun _ _ _ h=>h) (by rfl) (by assumption) ?_
        try simp only [Act.put,List.setIfInBounds_toArray,List.set_cons_zero,List.set_cons_succ]
        refine anyH_skip (i:=24) (some 107) rfl rfl (by kernel_rfl) (by kernel_rfl) (by kernel_rfl) (fun _ _ _ h=>h) (by rfl) (by assumption) ?_
        try simp only [Act.put,List.setIfInBounds_toArray,List.set_cons_zero,List.set_cons_succ]
        refine tK 25 108 ?_
        refine wpAnyH_done (by kernel_rfl) ?_ _
        have hb9:=hb.trans (hHeld.2.2.2.mono hb.size)
        clear hHeld SH KF CF
        go_wp2_with fail
        go_ret
        exact ⟨ret_int HR.out.symm,BB.out _ hb9⟩
      ·have C6:=Lib.hid (show Ck6 ⟨ss,ms,rs⟩ from ⟨C5.out,show ms.any (datB ss)=false from anyF (fun t ht=>HNO.out t ht (by omega))⟩)
       have HFI:=Lib.hid (N6.out C6.out)
       clear C5 N5 HNO C6 N6
       have E9:=Lib.hid (fun W (hb:Below W0.heap.size W0 W)=>EC.out W (BB.out _ hb))
       have L9:=Lib.hid (fun b W (hb:Below W0.heap.size W0 W)=>LC.out b W (BB.out _ hb))
       clear EC LC KC CLC HM
       have HTL:=Lib.hid (rnds_ok ms.length (toM ms) (fndM ms true) ms.length).1
       have HEB:=Lib.hid (show endB ms=(rnds ms.length (toM ms) (fndM ms true) ms.length).all id from rfl)
       have HLL:=Lib.hid (fun b=>(lnds_ok ms b ms.length).1)
       have HLB:=Lib.hid (show longB ms=(List.range ms.length).any (fun i=>decide (64 < (lensM ms false).getD i 0) || decide (64 < (lensM ms true).getD i 0)) from rfl)
       generalize rnds ms.length (toM ms) (fndM ms true) ms.length=T at *
       have hl0:(lensM ms false).length=ms.length:=HLL.out false
       have hl1:(lensM ms true).length=ms.length:=HLL.out true
       generalize hln0:lensM ms false=l0 at *
       generalize hln1:lensM ms true=l1 at *
       have HL0:=Lib.hid hl0;have HL1:=Lib.hid hl1;have HN0:=Lib.hid hln0;have HN1:=Lib.hid hln1
       clear hl0 hl1 hln0 hln1 HLL
       go_wp2_with fail
       with_reducible refine (E9.out _ hb).mono ?_
       rintro e W4 ⟨A4,c4,rfl,hc4,hA4,hb4⟩
       replace hb4:=hb.trans (hb4.mono hb.size)
       have htl:=HTL.out
       have HA4:=Lib.hid hA4
       clear hA4 E9
       go_wp2_with fail
       go_loop [10] (fun u=>∃i:Nat,i≤ms.length∧u=.int .i64 i∧(∀t,(ht:t < T.length)→t < i→T[t]=true)) (fun u=>ms.length - (intOf u).toNat)
       case atStart=>exact ⟨0,Nat.zero_le _,rfl,fun t _ h=>absurd h (Nat.not_lt_zero _)⟩
       case round=>
        obtain ⟨i,hi,rfl,hno⟩:=hrel
        have HNO:=Lib.hid hno
        clear hno
        by_cases hlt:i < ms.length
        ·obtain ⟨b4,o4,rfl,hcell⟩:=HA4.out.at (k:=i) (by simp [htl,hlt])
         have c0:=hcell i (.bool (T[i]'(by omega))) (by simp [htl,hlt])
         have HB:=Lib.hid (fun (h:T[i]'(by omega)=false)=>show r=12 from by
          rw [HFI.out,if_pos]
          rw [HEB.out]
          rw [←Bool.not_eq_true,List.all_eq_true]
          intro g
          have:=g _ (List.getElem_mem (show i < T.length by omega))
          rw [id,h] at this
          cases this)
         have hiT:i < T.length:=by omega
         have HN:=Lib.hid (fun (h:T[i]'(by omega)=true)=>all_up (P:=fun b=>b=true) hiT HNO.out h)
         clear hcell
         generalize T[i]'(by omega)=tb at *
         cases tb with
         | true=>
          have HQ:=Lib.hid (HN.out rfl)
          go_wp2_with fail
          go_round
          case rel=>exact ⟨i+1,by omega,by go_num,HQ.out⟩
          case measure=>simp [intOf];omega
         | false=>
          have HR:=Lib.hid (HB.out rfl)
          go_wp2_with fail
          go_ret
          exact ⟨ret_int HR.out.symm,BB.out _ hb4⟩
        ·have HEN:=Lib.hid (show endB ms=true from by
          rw [HEB.out,List.all_eq_true]
          intro b hb
          obtain ⟨t,ht,rfl⟩:=List.getElem_of_mem hb
          exact HNO.out t ht (by omega))
         have HFJ:=Lib.hid (show r=if longB ms=true then 13 else 0 from by rw [HFI.out,if_neg (by rw [HEN.out];simp)])
         clear HFI HEN HEB HNO
         go_wp2_with fail
         with_reducible refine (L9.out false _ hb4).mono ?_
         rintro e W5 ⟨A5,c5,rfl,hc5,hA5,hb5⟩
         rw [HN0.out] at hA5 hc5 ⊢
         have h5:=hb4.trans (hb5.mono hb4.size)
         have HA5:=Lib.hid hA5
         clear hA5 hb5
         go_wp2_with fail
         with_reducible refine (L9.out true _ h5).mono ?_
         rintro e W6 ⟨A6,c6,rfl,hc6,hA6,hb6⟩
         rw [HN1.out] at hA6 hc6 ⊢
         have h6:=h5.trans (hb6.mono h5.size)
         have HA5':=Lib.hid (HA5.out.below hb6)
         have HA6:=Lib.hid hA6
         have e5:=HL0.out
         have e6:=HL1.out
         clear hA6 hb6 HA5 L9
         go_wp2_with fail
         go_loop [13] (fun u=>∃i:Nat,i≤ms.length∧u=.int .i64 i∧(∀t,t < ms.length→t < i→¬64 < l0.getD t 0∧¬64 < l1.getD t 0)) (fun u=>ms.length - (intOf u).toNat)
         case atStart=>exact ⟨0,Nat.zero_le _,rfl,fun t _ h=>absurd h (Nat.not_lt_zero _)⟩
         case round=>
          obtain ⟨i,hi,rfl,hno⟩:=hrel
          have HNO:=Lib.hid hno
          clear hno
          by_cases hlt:i < ms.length
          ·obtain ⟨b5,o5,rfl,hcell5⟩:=HA5'.out.at (k:=i) (by omega)
           obtain ⟨b6,o6,rfl,hcell6⟩:=HA6.out.at (k:=i) (by omega)
           have c0:=hcell5 i (by omega)
           have c1:=hcell6 i (by omega)
           have g0:l0.getD i 0=l0[i]'(by omega):=by simp [List.getD,e5,hlt]
           have g1:l1.getD i 0=l1[i]'(by omega):=by simp [List.getD,e6,hlt]
           have HB:=Lib.hid (fun (h:64 < l0.getD i 0∨64 < l1.getD i 0)=>show r=13 from by
            rw [HFJ.out,if_pos]
            rw [HLB.out,List.any_eq_true]
            exact ⟨i,List.mem_range.2 hlt,by rw [Bool.or_eq_true,decide_eq_true_eq,decide_eq_true_eq];exact h⟩)
           have HN:=Lib.hid (fun (h:¬64 < l0.getD i 0∧¬64 < l1.getD i 0)=>show ∀t,t < ms.length→t < i+1→¬64 < l0.getD t 0∧¬64 < l1.getD t 0 from fun t ht g=>by
            by_cases e:t=i
            ·subst e;exact h
            ·exact HNO.out t ht (by omega))
           rw [g0,g1] at HB HN
           clear hcell5 hcell6 g0 g1
           generalize l0[i]'(by omega)=x0 at *
           generalize l1[i]'(by omega)=x1 at *
           by_cases h0:64 < x0
           ·have HR:=Lib.hid (HB.out (.inl h0))
            go_wp2_with fail
            go_ret
            exact ⟨ret_int HR.out.symm,BB.out _ h6⟩
           ·by_cases h1:64 < x1
            ·have HR:=Lib.hid (HB.out (.inr h1))
             go_wp2_with fail
             go_ret
             exact ⟨ret_int HR.out.symm,BB.out _ h6⟩
            ·have HQ:=Lib.hid (HN.out ⟨h0,h1⟩)
             go_wp2_with fail
             go_round
             case rel=>exact ⟨i+1,by omega,by go_num,HQ.out⟩
             case measure=>simp [intOf];omega
          ·have HR:=Lib.hid (show r=0 from by
            rw [HFJ.out,if_neg]
            rw [HLB.out,Bool.not_eq_true,List.any_eq_false]
            intro t ht
            have h1:=List.mem_range.1 ht
            obtain ⟨g1,g2⟩:=HNO.out t h1 (by omega)
            rw [Bool.or_eq_true,decide_eq_true_eq,decide_eq_true_eq]
            omega)
           go_wp2_with fail
           go_ret
           exact ⟨ret_int HR.out.symm,BB.out _ h6⟩
end Go.Proofs.YtijgbonhjcblcaaGreatDoor
namespace Go.Proofs.YtijgbonhjcblcaaGreatDoor.Can
section
variable {cl:Int→Int}
end
end Go.Proofs.YtijgbonhjcblcaaGreatDoor.Can
namespace Go.Proofs.YtijgbonhjcblcaaGreatDoor
end Go.Proofs.YtijgbonhjcblcaaGreatDoor
namespace Go.Proofs.YtijgbonhjcblcaaGreatDoor.Cps
open Go.Proofs.YtijgbonhjcblcaaGreatDoor
structure CSt where
 pre:List Int
 st:Option Int
 bt:List Int
def CSt.out (s:CSt):List Int:=s.pre++(s.st.toList++s.bt)
def s0:CSt:=⟨[],none,[]⟩
section
variable (cl:Int→Int) (pr:Int→Int→Option Int)
def free (s:CSt) (c:Int):Bool:=match s.bt.getLast? with | none=>true | some b=>decide (cl b < cl c)
def put (s:CSt) (c:Int):CSt:=if cl c=0 then ⟨s.out,some c,[]⟩ else ⟨s.pre,s.st,s.bt++[c]⟩
def join (s:CSt) (c:Int):Option Int:=match s.st with | some L=>if free cl s c=true then pr L c else none | none=>none
def step (s:CSt) (c:Int):CSt:=match join cl pr s c with | some p=>⟨s.pre,some p,s.bt⟩ | none=>put cl s c
def run (s:CSt) (t:List Int):CSt:=t.foldl (step cl pr) s
def text (t:List Int):List Int:=(run cl pr s0 t).out
end
section
variable {cl:Int→Int} {pr:Int→Int→Option Int}
theorem put_out (s:CSt) (c:Int):(put cl s c).out=s.out++[c]:=by
 unfold put
 split <;> simp [CSt.out]
theorem join_some {s:CSt} {c p:Int} (h:join cl pr s c=some p):∃L,s.st=some L∧free cl s c=true∧pr L c=some p:=by
 unfold join at h
 split at h
 ·next L hL=>
  split at h
  ·next hf=>exact ⟨L,hL,hf,h⟩
  ·cases h
 ·cases h
theorem step_some {s:CSt} {c p:Int} (h:join cl pr s c=some p):step cl pr s c=⟨s.pre,some p,s.bt⟩:=by unfold step;rw [h]
theorem step_none {s:CSt} {c:Int} (h:join cl pr s c=none):step cl pr s c=put cl s c:=by unfold step;rw [h]
end
section
variable {cl:Int→Int} {pr:Int→Int→Option Int} {D:Int→List Int}
theorem inv_move (c:Int) (q:List Int) (hc:cl c≠0) (h:∀y ∈ q,cl y≠0∧cl y≠cl c):Can.Inv cl (c::q) (q++[c]):=by
 induction q with
 | nil=>exact Can.Inv.refl _
 | cons y r ih=>
  have hy:=h y (by simp)
  exact (Can.Inv.swap r hc hy.1 (fun e=>hy.2 e.symm)).trans ((ih (fun z hz=>h z (by simp [hz]))).cons y)
structure Und (cl:Int→Int) (D:Int→List Int) (u:List Int) (s:CSt):Prop where
 inv:Can.Inv cl (s.out.flatMap D) u
 bts:∀b ∈ s.bt,D b=[b]∧cl b≠0
 pw:s.bt.Pairwise (fun x y=>cl x≤cl y)
 top:∀b ∈ s.bt,∃x,u.getLast?=some x∧cl b≤cl x
theorem flat_self {l:List Int} (h:∀b ∈ l,D b=[b]):l.flatMap D=l:=by
 induction l with
 | nil=>rfl
 | cons b l ih=>rw [List.flatMap_cons,h b (by simp),ih (fun x hx=>h x (by simp [hx]))];rfl
theorem last_le {l:List Int} (hp:l.Pairwise (fun x y=>cl x≤cl y)) {b:Int} (hb:l.getLast?=some b):∀x ∈ l,cl x≤cl b:=by
 obtain ⟨r,rfl⟩:∃r,l=r++[b]:=by
  cases hl:l with
  | nil=>rw [hl] at hb;cases hb
  | cons x y=>
   rw [hl] at hb
   refine ⟨(x::y).dropLast,?_⟩
   have h1:(x::y).getLast (by simp)=b:=by rw [List.getLast?_eq_some_getLast (by simp)] at hb;injection hb
   rw [←h1,List.dropLast_concat_getLast]
 intro x hx
 rcases List.mem_append.1 hx with hx | hx
 ·exact (List.pairwise_append.1 hp).2.2 x hx b (by simp)
 ·simp at hx;subst hx;omega
theorem Und.step (hcl:∀x,0≤cl x) (hD:∀L c p,pr L c=some p→D p=D L++D c) {u:List Int} {s:CSt} {c:Int} (h:Und cl D u s) (hc:D c=[c]) (hok:cl c≠0→∀x,u.getLast?=some x→cl x≤cl c):Und cl D (u++[c]) (step cl pr s c):=by
 have hlast:(u++[c]).getLast?=some c:=by simp
 have hlt:cl c≠0→∀b ∈ s.bt,cl b≤cl c:=fun h0 b hb=>by
  obtain ⟨x,h1,h2⟩:=h.top b hb
  have:=hok h0 x h1
  omega
 cases hj:join cl pr s c with
 | none=>
  rw [step_none hj]
  have hi:Can.Inv cl ((put cl s c).out.flatMap D) (u++[c]):=by
   rw [put_out,List.flatMap_append]
   have:[c].flatMap D=[c]:=by simp [hc]
   rw [this]
   exact h.inv.append (Can.Inv.refl _)
  by_cases h0:cl c=0
  ·have e:(put cl s c).bt=[]:=by unfold put;rw [if_pos h0]
   exact ⟨hi,by rw [e];simp,by rw [e];simp,by rw [e];simp⟩
  ·have e:(put cl s c).bt=s.bt++[c]:=by unfold put;rw [if_neg h0]
   refine ⟨hi,?_,?_,?_⟩ <;> rw [e]
   ·intro b hb
    rcases List.mem_append.1 hb with hb | hb
    ·exact h.bts b hb
    ·simp at hb;subst hb;exact ⟨hc,h0⟩
   ·rw [List.pairwise_append]
    exact ⟨h.pw,by simp,fun a ha b hb=>by simp at hb;subst hb;exact hlt h0 a ha⟩
   ·intro b hb
    refine ⟨c,hlast,?_⟩
    rcases List.mem_append.1 hb with hb | hb
    ·exact hlt h0 b hb
    ·simp at hb;subst hb;omega
 | some p=>
  obtain ⟨L,h1,h2,h3⟩:=join_some hj
  rw [step_some hj]
  have hDp:=hD L c p h3
  rw [hc] at hDp
  have hall:∀b ∈ s.bt,cl b < cl c:=by
   intro b hb
   unfold free at h2
   cases hl:s.bt.getLast? with
   | none=>rw [List.getLast?_eq_none_iff] at hl;rw [hl] at hb;cases hb
   | some y=>
    rw [hl] at h2
    have h4:cl y < cl c:=by simpa using h2
    have:=last_le h.pw hl b hb
    omega
  refine ⟨?_,h.bts,h.pw,fun b hb=>⟨c,hlast,by have:=hall b hb;omega⟩⟩
  have e1:(CSt.out ⟨s.pre,some p,s.bt⟩).flatMap D=s.pre.flatMap D++(D L++(c::s.bt)):=by
   simp [CSt.out,hDp,flat_self (fun b hb=>(h.bts b hb).1)]
  have e2:s.out.flatMap D++[c]=s.pre.flatMap D++(D L++(s.bt++[c])):=by
   simp [CSt.out,h1,flat_self (fun b hb=>(h.bts b hb).1)]
  rw [e1]
  have hmv:Can.Inv cl (c::s.bt) (s.bt++[c]):=by
   by_cases hb:s.bt=[]
   ·rw [hb];exact Can.Inv.refl _
   ·obtain ⟨y,hy⟩:=List.exists_mem_of_ne_nil _ hb
    have h5:=hall y hy
    have h6:=hcl y
    exact inv_move c _ (by omega) (fun z hz=>⟨(h.bts z hz).2,by have:=hall z hz;omega⟩)
  refine ((Can.Inv.refl (cl:=cl) (s.pre.flatMap D)).append ((Can.Inv.refl (cl:=cl) (D L)).append hmv)).trans ?_
  rw [←e2]
  exact h.inv.append (Can.Inv.refl _)
end
end Go.Proofs.YtijgbonhjcblcaaGreatDoor.Cps
namespace Go.Proofs.YtijgbonhjcblcaaGreatDoor
open Go.RowKit
def usN (x:Nrm):Nrm:=if nErr x=0 then x else ⟨[],[],[]⟩
structure NOk (x:Nrm):Prop where
 st:StF x.dec
 hg:NoHg x.dec
 co:CodesOk x.dec
 en:endB x.dec=true
 lo:longB x.dec=false
 kd:∀m ∈ x.dec,m.tag.size=0→m.to.length=1∨m.to.length=2
theorem usN_ok (x:Nrm):NOk (usN x):=by
 unfold usN
 split
 ·next h=>
  obtain ⟨c,h1,h2⟩:=nErr_ck6 h
  refine ⟨StF_of c.t,NoHg_of c.d,mapErr_codes c.m,h1,h2,fun m hm ht=>?_⟩
  have:=List.any_eq_false.1 c.k m hm
  unfold kindB at this
  simp [ht] at this
  omega
 ·exact ⟨fun i j hi=>by simp at hi,fun i hi=>by simp at hi,fun i hi=>by simp at hi,rfl,rfl,fun m hm=>by simp at hm⟩
section
variable {x:Nrm}
end
def befT (x y:Int × Int × Int):Prop:=x.1 < y.1∨(x.1=y.1∧x.2.1 < y.2.1)
theorem befT_irrefl (x:Int × Int × Int):¬befT x x:=by rintro (h | ⟨_,h⟩) <;> omega
theorem befT_trans {x y z:Int × Int × Int} (h:befT x y) (g:befT y z):befT x z:=by
 unfold befT at *
 omega
theorem asc_unique:∀{L M:List (Int × Int × Int)},L.Pairwise befT→M.Pairwise befT→(∀t,t ∈ L ↔ t ∈ M)→L=M
 | [],[],_,_,_=>rfl
 | [],y::M,_,_,h=>by have:=(h y).2 (by simp);cases this
 | x::L,[],_,_,h=>by have:=(h x).1 (by simp);cases this
 | x::L,y::M,hL,hM,h=>by
  rw [List.pairwise_cons] at hL hM
  have hxy:x=y:=by
   rcases List.mem_cons.1 ((h x).1 (by simp)) with e | e
   ·exact e
   ·rcases List.mem_cons.1 ((h y).2 (by simp)) with e' | e'
    ·exact e'.symm
    ·exact absurd (befT_trans (hM.1 x e) (hL.1 y e')) (befT_irrefl _)
  subst hxy
  rw [asc_unique hL.2 hM.2 (fun t=>?_)]
  have:=h t
  simp only [List.mem_cons] at this
  constructor
  ·intro ht
   rcases this.1 (.inr ht) with e | e
   ·subst e;exact absurd (hL.1 t ht) (befT_irrefl _)
   ·exact e
  ·intro ht
   rcases this.2 (.inr ht) with e | e
   ·subst e;exact absurd (hM.1 t ht) (befT_irrefl _)
   ·exact e
end Go.Proofs.YtijgbonhjcblcaaGreatDoor
namespace Go.Proofs.YtijgbonhjcblcaaGreatDoor
open Go.RowKit Go.Maps Go.WideMaps
def RetNrm (x:Nrm) (w:World) (e:Ending) (w':World):Prop:=∃A0 k0 A1 k1 A2 k2,e=.returned (.agg #[.slice A0 x.cls.length k0,.slice A1 x.dec.length k1,.slice A2 x.exc.length k2])∧NrmAt w' A0 x.cls.length A1 x.dec.length A2 x.exc.length x∧Below w.heap.size w w'
theorem results_nrm {fn:Func} (hr:fn.results=#[.cell 2 28]) (tmps:Array Value) (w:World) {b:Nat} {v0 v1 v2:Value} (ha:tmps.getD 2 undef=.pointer (some ⟨b,0,none⟩))
  (c0:w.cell? ⟨b,0,none⟩=some v0) (c1:w.cell? ⟨b,1,none⟩=some v1) (c2:w.cell? ⟨b,2,none⟩=some v2) :
  (results fn tmps).run Tryz.prog w=.ok (.agg #[v0,v1,v2]) w:=by
 unfold results
 rw [hr]
 simp only [ha,List.mapM_toArray,List.mapM_cons,List.mapM_nil,asAddr]
 go_simp
theorem NrmAt.empty (w:World):NrmAt w none 0 none 0 none 0 ⟨[],[],[]⟩:=⟨Sl.nil _ _,Mps.nil _ _,Sl.nil _ _,rfl,rfl,rfl⟩
theorem usN_bad {x:Nrm} (h:¬nErr x=0):usN x=⟨[],[],[]⟩:=if_neg h
theorem usN_good {x:Nrm} (h:nErr x=0):usN x=x:=if_pos h
def usV (x:Nrm) (A0:Option Addr) (k0:Nat) (A1:Option Addr) (k1:Nat) (A2:Option Addr) (k2:Nat):Value:=if nErr x=0 then .agg #[.slice A0 x.cls.length k0,.slice A1 x.dec.length k1,.slice A2 x.exc.length k2] else .agg #[.slice none 0 0,.slice none 0 0,.slice none 0 0]
theorem usV_bad {x:Nrm} (A0:Option Addr) (k0:Nat) (A1:Option Addr) (k1:Nat) (A2:Option Addr) (k2:Nat) (h:¬nErr x=0):usV x A0 k0 A1 k1 A2 k2=.agg #[.slice none 0 0,.slice none 0 0,.slice none 0 0]:=if_neg h
theorem usV_good {x:Nrm} (A0:Option Addr) (k0:Nat) (A1:Option Addr) (k1:Nat) (A2:Option Addr) (k2:Nat) (h:nErr x=0):usV x A0 k0 A1 k1 A2 k2=.agg #[.slice A0 x.cls.length k0,.slice A1 x.dec.length k1,.slice A2 x.exc.length k2]:=if_pos h
theorem usV_at {w:World} {A0:Option Addr} {n0:Nat} {A1:Option Addr} {n1:Nat} {A2:Option Addr} {n2:Nat} {x:Nrm} (h:NrmAt w A0 n0 A1 n1 A2 n2 x) (k0 k1 k2:Nat):∃B0 c0 B1 c1 B2 c2,usV x A0 k0 A1 k1 A2 k2=.agg #[.slice B0 (usN x).cls.length c0,.slice B1 (usN x).dec.length c1,.slice B2 (usN x).exc.length c2]∧
  ∀W,Below w.heap.size w W→NrmAt W B0 (usN x).cls.length B1 (usN x).dec.length B2 (usN x).exc.length (usN x):=by
 by_cases hc:nErr x=0
 ·rw [usN_good hc,usV_good _ _ _ _ _ _ hc]
  exact ⟨_,_,_,_,_,_,rfl,fun W hb=>⟨h.s0.below hb,h.s1.below hb,h.s2.below hb,rfl,rfl,rfl⟩⟩
 ·rw [usN_bad hc,usV_bad _ _ _ _ _ _ hc]
  exact ⟨none,0,none,0,none,0,rfl,fun W _=>NrmAt.empty W⟩
theorem NrmSz.us {x:Nrm} (h:NrmSz x):NrmSz (usN x):=by
 unfold usN
 split
 ·exact h
 ·exact ⟨by simp,⟨by simp,fun i hi=>by simp at hi⟩,by simp⟩
end Go.Proofs.YtijgbonhjcblcaaGreatDoor
namespace Go.Proofs.YtijgbonhjcblcaaGreatDoor
open Go.RowKit
theorem RetOwnI.hg {zs:List Int} {w w':World} {e:Ending} (h:RetOwnI zs w e w'):RetHg zs w e w':=by
 obtain ⟨A,c,he,ho,hb⟩:=h
 refine ⟨A,c,he,?_,Sl.of_own ho,hb⟩
 obtain ⟨_,_,hv,hc⟩:=own_form ho
 injection hv with _ _ hv
 subst hv
 exact hc
end Go.Proofs.YtijgbonhjcblcaaGreatDoor
namespace Go.Proofs.YtijgbonhjcblcaaGreatDoor
open Go.RowKit Go.Maps Go.WideMaps
def flM (x:Nrm) (compat:Bool) (t:List Int):List Int:=t.flatMap (dcM x.dec compat)
theorem flM_len {x:Nrm} (h:NOk x) (compat:Bool) (t:List Int):(flM x compat t).length≤64*t.length:=by
 unfold flM
 induction t with
 | nil=>simp
 | cons c t ih=>have:=dcM_len h.st h.hg h.en h.lo compat c;rw [List.flatMap_cons,List.length_append,List.length_cons];omega
theorem onM_codes {ms:List Mp} (hc:CodesOk ms) {compat:Bool} {c:Int} {to:List Int} (h:onM ms compat c=some to):∀e ∈ to,iok e:=by
 intro e he
 unfold onM at h
 split at h
 ·next h4=>
  injection h with h
  subst h
  exact iok_code ((decomp_kids h4).2 e he).1
 ·cases hf:fndM ms compat c with
  | none=>rw [hf] at h;cases h
  | some m=>
   rw [hf] at h
   obtain ⟨hm,_⟩:=fndM_at hf
   simp only [Option.map_some,Option.some.injEq] at h
   rw [toM_at hm] at h
   subst h
   exact iok_code ((hc m hm).2.2 e he)
theorem full_iok {ms:List Mp} (hc:CodesOk ms) {compat:Bool} {c:Int} {l:List Int} (h:Full (onM ms compat) c l):iok c→∀e ∈ l,iok e:=by
 induction h with
 | leaf h=>intro h1 e he;simp at he;subst he;exact h1
 | @node c to vs h1 h2 _ ih=>
  intro _ e he
  obtain ⟨v,hv,he⟩:=List.mem_flatten.1 he
  obtain ⟨i,hi,rfl⟩:=List.getElem_of_mem hv
  exact ih i (by omega) hi (onM_codes hc h1 _ (List.getElem_mem (by omega))) e he
theorem fl_facts {x:Nrm} (h:NOk x) (compat:Bool) {t:List Int} (ht:∀c ∈ t,iok c):(∀c ∈ Can.srt (clz x.cls) (flM x compat t),iok c∧dcM x.dec compat c=[c])∧Can.Ok (clz x.cls) (Can.srt (clz x.cls) (flM x compat t)):=by
 refine ⟨fun c hc=>?_,Can.srt_ok _⟩
 have hm:=(Can.srt_perm (flM x compat t)).mem_iff.1 hc
 unfold flM at hm
 obtain ⟨e,he,hce⟩:=List.mem_flatMap.1 hm
 exact ⟨full_iok h.co (dcM_full h.st h.hg h.en compat e) (ht e he) c hce,dcM_elem h.st h.hg h.en compat hce⟩
end Go.Proofs.YtijgbonhjcblcaaGreatDoor
namespace Go.Proofs.YtijgbonhjcblcaaGreatDoor
open Go.RowKit Go.Maps Go.WideMaps
def mkF (f:Int→Option Value):Int→Option Int:=fun c=>(f c).map (fun _=>0)
theorem mkF_none {f:Int→Option Value} {c:Int}:mkF f c=none ↔ f c=none:=by unfold mkF;cases f c <;> simp
theorem mkF_put (f:Int→Option Value) (c:Int) (v:Value):mkF (fun y=>if y=c then some v else f y)=putM (mkF f) c 0:=by
 funext x
 unfold mkF putM
 by_cases e:x=c
 ·simp [e]
 ·simp [e]
theorem grown_belowB {a w w':World} {r:Option Nat} {B:Nat} (h:a.grownBy w r) (g:Below B w w') (hB:a.heap.size≤B):a.grownBy w' r:=
 ⟨g.os.trans h.os,g.tape.trans h.tape,g.output.trans h.output,Nat.le_trans h.size g.size,fun k hk hne=>(g.block k (Nat.lt_of_lt_of_le hk hB)).trans (h.block k hk hne)⟩
theorem Sl.grownM {W W':World} {U:Nat} {A:Option Addr} {cs:List Value} (h:Sl W A cs) (hg:W.grownBy W' (some U)) (hU:∀o,W.cell? ⟨U,o,none⟩=none):Sl W' A cs:=by
 intro hne
 obtain ⟨b,o,rfl,hc⟩:=h hne
 refine ⟨b,o,rfl,fun j u hu=>?_⟩
 have h1:=hc j u hu
 have hq:b≠U:=fun e=>by rw [e,hU] at h1;cases h1
 exact (World.cell?_of_block (hg.block b (World.block_lt_of_cell? W _ h1) (fun e=>hq (by injection e)))).trans h1
theorem Full.noway {on:Int→Option (List Int)} {c:Int} {l:List Int} (h:Full on c l):¬Path on c c:=by
 have key:∀{c l},Full on c l→∀d,Path on c d→¬Path on d c:=by
  intro c l h
  induction h with
  | leaf h=>
   intro d p _
   rcases p.head with ⟨to,h1,_⟩ | ⟨x,⟨to,h1,_⟩,_⟩
   ·rw [h] at h1;cases h1
   ·rw [h] at h1;cases h1
  | @node c to vs h1 h2 h3 ih=>
   have step:∀x,Edge on c x→∀y,Path on x y→¬Path on y x:=fun x ⟨to',g1,g2⟩ y=>by
    rw [h1] at g1
    injection g1 with g1
    subst g1
    obtain ⟨i,hi,rfl⟩:=List.getElem_of_mem g2
    exact ih i hi (by omega) y
   intro d p q
   rcases p.head with e | ⟨x,e,p2⟩
   ·have q2:Path on d d:=by
     rcases q.head with e2 | ⟨y,e2,q3⟩
     ·exact .more (.one e2) e
     ·exact .more q e
    exact step d e d q2 q2
   ·have q3:Path on d x:=.more q e
    exact step x e d p2 q3
 intro p
 exact key h c p p
def uM (ms:List Mp):List Int:=fsM ms++(List.range 11172).map (fun i:Nat=>44032+(i:Int))
theorem uM_len (ms:List Mp):(uM ms).length=ms.length+11172:=by unfold uM fsM;simp
theorem onM_uM {ms:List Mp} {b:Bool} {c:Int} {to:List Int} (h:onM ms b c=some to):c ∈ uM ms:=by
 unfold uM
 rw [List.mem_append]
 unfold onM at h
 split at h
 ·next h4=>
  right
  have hr:44032≤c∧c≤55203:=by
   have h5:=(Hg.kind_range c).2
   by_cases h44:Hg.kind c=4
   ·have:=kind_is4 h44;omega
   ·have:=kind_is5 (show Hg.kind c=5 by omega);omega
  exact List.mem_map.2 ⟨(c - 44032).toNat,List.mem_range.2 (by omega),by omega⟩
 ·left
  cases hf:fndM ms b c with
  | none=>rw [hf] at h;cases h
  | some i=>
   obtain ⟨hi,h1,_⟩:=fndM_at hf
   exact List.mem_map.2 ⟨ms[i],List.getElem_mem hi,h1⟩
structure XM (A0:Option Addr) (n0 k0:Nat) (A1:Option Addr) (n1 k1:Nat) (A2:Option Addr) (n2 k2:Nat) (ms:List Mp) (compat:Bool) (s:Nat) (w:World) (n:Nat) (f:Int→Option Value):Prop where
 bN:Box w s 28 [.slice A0 n0 k0,.slice A1 n1 k1,.slice A2 n2 k2]
 bB:Box w (s+1) 4 [.bool compat]
 mp:MapI w (s+2) n f
 bM:Box w (s+3) 163 [.map (some (s+2))]
 bX:Box w (s+4) 120 [.func (.func 117) #[] #[.pointer (some ⟨s+3,0,none⟩),.pointer (some ⟨s,0,none⟩),.pointer (some ⟨s+1,0,none⟩),.pointer (some ⟨s+4,0,none⟩)]]
 fd:∀c v,f c=some v→∃E d l,v=.slice E l.length d∧l.length≤d∧Full (onM ms compat) c l∧Ints w E l
section
variable {A0:Option Addr} {n0 k0:Nat} {A1:Option Addr} {n1 k1:Nat} {A2:Option Addr} {n2 k2:Nat} {ms:List Mp} {compat:Bool} {s:Nat} {w w':World} {n:Nat} {f:Int→Option Value}
theorem XM.below (h:XM A0 n0 k0 A1 n1 k1 A2 n2 k2 ms compat s w n f) (hb:Below w.heap.size w w'):XM A0 n0 k0 A1 n1 k1 A2 n2 k2 ms compat s w' n f:=
 ⟨h.bN.below hb h.bN.lt,h.bB.below hb h.bB.lt,h.mp.below hb,h.bM.below hb h.bM.lt,h.bX.below hb h.bX.lt,fun c v e=>by
  obtain ⟨E,d,l,h1,h2,h3,h4⟩:=h.fd c v e
  exact ⟨E,d,l,h1,h2,h3,h4.below hb⟩⟩
theorem XM.belowB {B:Nat} (h:XM A0 n0 k0 A1 n1 k1 A2 n2 k2 ms compat s w n f) (hb:Below B w w') (hB:s+4 < B) (hfd:∀c v,f c=some v→∃E d l,v=.slice E l.length d∧l.length≤d∧Full (onM ms compat) c l∧Ints w' E l):XM A0 n0 k0 A1 n1 k1 A2 n2 k2 ms compat s w' n f:=
 ⟨h.bN.below hb (by omega),h.bB.below hb (by omega),by
  obtain ⟨D,⟨es,clock,g1,g2⟩,g3⟩:=h.mp
  exact ⟨D,⟨es,clock,(hb.block _ (by omega)).trans g1,g2⟩,g3⟩,h.bM.below hb (by omega),h.bX.below hb (by omega),hfd⟩
theorem XM.put (h:XM A0 n0 k0 A1 n1 k1 A2 n2 k2 ms compat s w n f) {m:Nat} {c:Int} {E:Option Addr} {d:Nat} {l:List Int} (hm:MapI w' (s+2) m (fun y=>if y=c then some (.slice E l.length d) else f y)) (hg:w.grownBy w' (some (s+2)))
  (hd:l.length≤d) (hf:Full (onM ms compat) c l) (hE:Ints w E l):XM A0 n0 k0 A1 n1 k1 A2 n2 k2 ms compat s w' m (fun y=>if y=c then some (.slice E l.length d) else f y):=by
 refine ⟨h.bN.grown hg (by simp),h.bB.grown hg (by simp),hm,h.bM.grown hg (by simp),h.bX.grown hg (by simp),fun x v e=>?_⟩
 by_cases hx:x=c
 ·rw [if_pos hx] at e
  injection e with e
  subst hx
  exact ⟨E,d,l,e.symm,hd,hf,Sl.grownM hE hg h.mp.nocell⟩
 ·rw [if_neg hx] at e
  obtain ⟨E',d',l',h1,h2,h3,h4⟩:=h.fd x v e
  exact ⟨E',d',l',h1,h2,h3,Sl.grownM h4 hg h.mp.nocell⟩
end
structure XRet (A0:Option Addr) (n0 k0:Nat) (A1:Option Addr) (n1 k1:Nat) (A2:Option Addr) (n2 k2:Nat) (ms:List Mp) (compat:Bool) (s:Nat) (c:Int) (l:List Int) (w:World) (n:Nat) (f:Int→Option Value) (E:Option Addr) (w':World) (n':Nat) (f':Int→Option Value):Prop where
 ints:Ints w' E l
 st:XM A0 n0 k0 A1 n1 k1 A2 n2 k2 ms compat s w' n' f'
 gr:w.grownBy w' (some (s+2))
 pot:n'+unmarked (uM ms) (mkF f')≤n+unmarked (uM ms) (mkF f)
 fr:∀x E' m d,f' x=some (.slice E' m d)→f x=some (.slice E' m d)∨m=0∨∀b o,E'=some ⟨b,o,none⟩→w.heap.size≤b
 mks:∀x,f' x≠none→f x≠none∨x=c∨Path (onM ms compat) c x
def XRetE (A0:Option Addr) (n0 k0:Nat) (A1:Option Addr) (n1 k1:Nat) (A2:Option Addr) (n2 k2:Nat) (ms:List Mp) (compat:Bool) (s:Nat) (c:Int) (l:List Int) (w:World) (n:Nat) (f:Int→Option Value) (e:Ending) (w':World):Prop:=
 ∃E d n' f',e=.returned (.slice E l.length d)∧l.length≤d∧XRet A0 n0 k0 A1 n1 k1 A2 n2 k2 ms compat s c l w n f E w' n' f'
def XOk (A0:Option Addr) (n0 k0:Nat) (A1:Option Addr) (n1 k1:Nat) (A2:Option Addr) (n2 k2:Nat) (ms:List Mp) (compat:Bool) (s:Nat) (w0:World) (c:Int) (l:List Int):Prop:=
 iok c→l.length≤4096→∀(w:World) (n:Nat) (f:Int→Option Value),XM A0 n0 k0 A1 n1 k1 A2 n2 k2 ms compat s w n f→Below s w0 w→n+unmarked (uM ms) (mkF f)≤1000000000→
  Calls Tryz.prog 117 #[.int .i64 c,.pointer (some ⟨s+3,0,none⟩),.pointer (some ⟨s,0,none⟩),.pointer (some ⟨s+1,0,none⟩),.pointer (some ⟨s+4,0,none⟩)] w
   (XRetE A0 n0 k0 A1 n1 k1 A2 n2 k2 ms compat s c l w n f)
def Apart (f:Int→Option Value) (B:Option Addr):Prop:=∀x E m d b o b' o',f x=some (.slice E m d)→E=some ⟨b,o,none⟩→B=some ⟨b',o',none⟩→m=0∨b≠b'
section
variable {A0:Option Addr} {n0 k0:Nat} {A1:Option Addr} {n1 k1:Nat} {A2:Option Addr} {n2 k2:Nat} {ms:List Mp} {compat:Bool} {s:Nat} {w w':World} {n:Nat} {f:Int→Option Value}
theorem XM.app (h:XM A0 n0 k0 A1 n1 k1 A2 n2 k2 ms compat s w n f) {base m k:Nat} {ty:TypeId} {B:Option Addr} {xs:List Value} (ho:w.ownsRow base ty 1 (.slice B m k) m xs) (hap:Apart f B) (hg:w.grownBy w' (Value.ownBlock (.slice B m k))) (hb:Below base w w') (hB:s+4 < base):XM A0 n0 k0 A1 n1 k1 A2 n2 k2 ms compat s w' n f:=by
 refine h.belowB hb hB fun c v e=>?_
 obtain ⟨E,d,l,h1,h2,h3,h4⟩:=h.fd c v e
 refine ⟨E,d,l,h1,h2,h3,fun hne=>?_⟩
 obtain ⟨b,o,rfl,hc⟩:=h4 hne
 refine ⟨b,o,rfl,fun j u hu=>?_⟩
 have hlt:=World.block_lt_of_cell? w _ (hc j u hu)
 refine (World.cell?_of_block (hg.block b hlt ?_)).trans (hc j u hu)
 intro e2
 cases B with
 | none=>simp [Value.ownBlock] at e2
 | some a=>
  obtain ⟨g,cap,cur,hv⟩:∃g cap cur,(Value.slice (some a) m k)=.slice (some ⟨g,0,none⟩) m cap∧w.heap[g]?=some (.cells cur ty (0,0)):=by
   rcases ho.2 with ⟨hv,_⟩ | ⟨g,cap,cur,hv,_,hg2,_⟩
   ·cases hv
   ·exact ⟨g,cap,cur,hv,hg2⟩
  have hv1:=hv.1
  injection hv1 with hv1
  injection hv1 with hv1
  subst hv1
  simp only [Value.ownBlock,Option.some.injEq] at e2
  subst h1
  rcases hap c _ _ _ b o g 0 e rfl rfl with h0 | h0
  ·have:l=[]:=List.eq_nil_of_length_eq_zero h0
   subst this
   exact hne rfl
  ·exact h0 e2
theorem XM.apart_new (h:XM A0 n0 k0 A1 n1 k1 A2 n2 k2 ms compat s w n f):Apart f (some ⟨w.heap.size,0,none⟩):=by
 intro x E m d b o b' o' e hE hB
 obtain ⟨E2,d2,l,h1,h2,h3,h4⟩:=h.fd x _ e
 injection h1 with g1 g2 g3
 subst g1;subst g2
 by_cases h0:l=[]
 ·left;rw [h0];rfl
 ·right
  obtain ⟨b2,o2,hA,hc⟩:=h4 (by simpa using h0)
  rw [hE] at hA
  injection hA with hA
  injection hA with i1 i2
  subst i1;subst i2
  injection hB with hB
  injection hB with j1 j2
  obtain ⟨y,r,rfl⟩:∃y r,l=y::r:=by cases l with | nil=>exact absurd rfl h0 | cons y r=>exact ⟨y,r,rfl⟩
  have:=World.block_lt_of_cell? w _ (hc 0 _ rfl)
  simp at this
  omega
theorem Apart.nil (f:Int→Option Value):Apart f none:=by intro _ _ _ _ _ _ _ _ _ _ h;cases h
end
theorem zero_intsM (w:World):(zeroValue 37).run Tryz.prog w=.ok (.slice none 0 0) w:=by kernel_rfl
end Go.Proofs.YtijgbonhjcblcaaGreatDoor
