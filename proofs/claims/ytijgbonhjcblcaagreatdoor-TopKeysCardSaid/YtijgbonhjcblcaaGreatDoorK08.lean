/- Texts that are merged into one file: DCheck, OpenNorm, CkGroups, RefGroups, CkEntry, Compare, CkColl. -/
import Derived.Test.YtijgbonhjcblcaaGreatDoorK01
import Derived.Test.YtijgbonhjcblcaaGreatDoorK02
import Derived.Test.YtijgbonhjcblcaaGreatDoorK04
import Derived.Test.YtijgbonhjcblcaaGreatDoorK06
import Derived.Test.YtijgbonhjcblcaaGreatDoorK07
import Derived.BigQuiet
import Derived.Test.YtijgbonhjcblcaaGreatDoorRows
import Derived.Deep.Slices
import Derived.Deep.DeepHandedRow
import Derived.Lib.LaidTab
import Derived.IntWalk
import Derived.WalkSpells
import Derived.Outline
import Derived.Test.YtijgbonhjcblcaaGreatDoorProg
import Derived.Deep.QuietTactic
set_option maxRecDepth 100000
set_option maxHeartbeats 51200000
namespace Go.Proofs.YtijgbonhjcblcaaGreatDoor
open Go.RowKit Go.Maps Go.WideMaps
structure NrmAt (w:World) (A0:Option Addr) (n0:Nat) (A1:Option Addr) (n1:Nat) (A2:Option Addr) (n2:Nat) (x:Nrm):Prop where
 s0:Spans w A0 x.cls
 s1:Mps w A1 x.dec
 s2:Rgs w A2 x.exc
 l0:x.cls.length=n0
 l1:x.dec.length=n1
 l2:x.exc.length=n2
theorem NrmAt.below {w w':World} {A0:Option Addr} {n0:Nat} {A1:Option Addr} {n1:Nat} {A2:Option Addr} {n2:Nat} {x:Nrm} (h:NrmAt w A0 n0 A1 n1 A2 n2 x) (hb:Below w.heap.size w w'):NrmAt w' A0 n0 A1 n1 A2 n2 x:=
 ⟨h.s0.below hb,h.s1.below hb,h.s2.below hb,h.l0,h.l1,h.l2⟩
structure NrmSz (x:Nrm):Prop where
 z0:x.cls.length≤1048576
 z1:MpsSz x.dec
 z2:x.exc.length≤12
theorem dCheck_any (A0:Option Addr) (n0 k0:Nat) (A1:Option Addr) (n1 k1:Nat) (A2:Option Addr) (n2 k2:Nat) (x:Nrm) (w:World) (hN:NrmAt w A0 n0 A1 n1 A2 n2 x) (hz:NrmSz x) (hL:Laid w) :
  Calls Tryz.prog 45 #[.agg #[.slice A0 n0 k0,.slice A1 n1 k1,.slice A2 n2 k2]] w (RetInt (nErr x) w):=by
 obtain ⟨ss,ms,rs⟩:=x
 obtain ⟨hS,hM,hR,rfl,rfl,rfl⟩:=hN
 dsimp only at *
 have z0:ss.length≤1048576:=hz.z0
 have z1:ms.length≤1048576:=hz.z1.n
 have CC:=Lib.hid (fun W (hb:Below w.heap.size w W)=>Check_any A0 ss.length k0 ss W (hS.below hb) rfl (by omega) (hL.below hb))
 have MC:=Lib.hid (fun W (hb:Below w.heap.size w W)=>mapCheck_any A1 ms.length k1 ms W (hM.below hb) rfl hz.z1)
 have VC:=Lib.hid (fun W (hb:Below w.heap.size w W)=>cpValidS_any A2 rs.length k2 rs W (hR.below hb) rfl hz.z2)
 have KC:=Lib.hid (fun c W=>Kind_any c W)
 have RC:=Lib.hid (fun A nt kt text W (hb:Below w.heap.size w W) (hT:Ints W A text) (hnt:text.length=nt) (hbt:nt≤1048576)=>Runs_any A0 ss.length k0 ss A nt kt text W (hS.below hb) hT hnt rfl hbt (by omega) (hL.below hb))
 have ME:=Lib.hid (fun W (hb:Below w.heap.size w W) (hst:StF ms) (hco:CodesOk ms) (hh:NoHg ms)=>measure_any A0 ss.length k0 A1 ms.length k1 A2 rs.length k2 ms W (hM.below hb) rfl hst hco hh z1)
 have N0:=Lib.hid (fun h=>nErr_c (x:=⟨ss,ms,rs⟩) h)
 have N1:=Lib.hid (fun h1 h2=>nErr_m (x:=⟨ss,ms,rs⟩) h1 h2)
 have N2:=Lib.hid (fun h1 h2 h3=>nErr_s (x:=⟨ss,ms,rs⟩) h1 h2 h3)
 have N3:=Lib.hid (fun (c:Ck3 ⟨ss,ms,rs⟩) h=>c.twice h)
 have N4:=Lib.hid (fun (c:Ck4 ⟨ss,ms,rs⟩) h=>c.kind h)
 have N5:=Lib.hid (fun (c:Ck5 ⟨ss,ms,rs⟩) h=>c.data h)
 have N6:=Lib.hid (fun (c:Ck6 ⟨ss,ms,rs⟩)=>c.rest)
 dsimp only at N0 N1 N2 N3 N4 N5 N6
 generalize nErr ⟨ss,ms,rs⟩=r at *
 have HM:=Lib.hid hM
 clear hM hS hR hz hL
 have B0:Below w.heap.size w (w.alloc (.cells #[.slice A0 ss.length k0,.slice A1 ms.length k1,.slice A2 rs.length k2] 28)):=(Below.refl _ _).alloc (Nat.le_refl _) _
 have X0:Box (w.alloc (.cells #[.slice A0 ss.length k0,.slice A1 ms.length k1,.slice A2 rs.length k2] 28)) w.heap.size 28 [.slice A0 ss.length k0,.slice A1 ms.length k1,.slice A2 rs.length k2]:=Box.new _ _ _ rfl
 have W0E:∃W0,(w.alloc (.cells #[.slice A0 ss.length k0,.slice A1 ms.length k1,.slice A2 rs.length k2] 28))=W0:=⟨_,rfl⟩
 go_enter Tryz.func45,Tryz.ntmps45
 go_wp2_with fail
 obtain ⟨W0,hW0⟩:=W0E
 rw [hW0] at B0 X0 ⊢
 clear hW0
 have s0:w.heap.size < W0.heap.size:=X0.lt
 have Q:=Lib.hid (fun W (hb:Below W0.heap.size W0 W)=>show W.cell? ⟨w.heap.size,0,none⟩=some (.slice A0 ss.length k0)∧W.cell? ⟨w.heap.size,1,none⟩=some (.slice A1 ms.length k1)∧W.cell? ⟨w.heap.size,2,none⟩=some (.slice A2 rs.length k2) from
  have X:=X0.below hb s0
  ⟨X.cell rfl,X.cell rfl,X.cell rfl⟩)
 have BB:=Lib.hid (fun W (hb:Below W0.heap.size W0 W)=>B0.trans (hb.mono B0.size))
 clear X0
 with_reducible refine (CC.out _ B0).mono ?_
 rintro e W1 ⟨rfl,hb1⟩
 obtain ⟨q0,q1,q2⟩:=Q.out W1 hb1
 generalize hc:chk ss=c at *
 have HC:=Lib.hid hc
 clear hc CC
 by_cases h0:¬c=0
 ·go_wp2_with fail
  go_ret
  exact ⟨ret_int (N0.out h0).symm,BB.out _ hb1⟩
 replace h0:=Decidable.not_not.1 h0
 subst h0
 clear N0
 go_wp2_with fail
 with_reducible refine (MC.out _ (BB.out _ hb1)).mono ?_
 rintro e W2 ⟨rfl,hb2⟩
 replace hb2:=hb1.trans (hb2.mono hb1.size)
 clear q0 q1 q2 hb1 MC
 obtain ⟨q0,q1,q2⟩:=Q.out W2 hb2
 generalize hc:mapErr ms=c at *
 have HMC:=Lib.hid hc
 clear hc
 by_cases h0:¬c=0
 ·go_wp2_with fail
  go_ret
  exact ⟨ret_int (N1.out (by trivial) h0).symm,BB.out _ hb2⟩
 replace h0:=Decidable.not_not.1 h0
 subst h0
 clear N1
 go_wp2_with fail
 with_reducible refine (VC.out _ (BB.out _ hb2)).mono ?_
 rintro e W3 ⟨rfl,hb3⟩
 replace hb3:=hb2.trans (hb3.mono hb2.size)
 clear q0 q1 q2 hb2 VC
 obtain ⟨q0,q1,q2⟩:=Q.out W3 hb3
 generalize hc:setOk rs=c at *
 have HSC:=Lib.hid hc
 clear hc
 cases c with
 | false=>
  go_wp2_with fail
  go_ret
  exact ⟨ret_int (N2.out (by trivial) (by trivial) (by trivial)).symm,BB.out _ hb3⟩
 | true=>
 have C3:=Lib.hid (show Ck3 ⟨ss,ms,rs⟩ from ⟨HC.out,HMC.out,HSC.out⟩)
 clear N2 HC HSC
 go_wp2_with fail
 clear q0 q1 q2
 go_loopw [5] (fun u wr=>∃i:Nat,i≤ms.length∧u=.int .i64 ((i:Int)+1)∧(∀t,(ht:t+1 < ms.length)→t < i→¬ms[t+1].frm=ms[t].frm)∧Below W0.heap.size W0 wr) (fun u _=>ms.length+1 - (intOf u).toNat)
 case atStart=>exact ⟨0,Nat.zero_le _,rfl,fun t _ h=>absurd h (Nat.not_lt_zero _),hb3⟩
 case round=>
  obtain ⟨i,hi,rfl,h1,hb⟩:=hrel
  have H1:=Lib.hid h1
  clear h1
  obtain ⟨q0,q1,q2⟩:=Q.out wr hb
  by_cases hlt:i+1 < ms.length
  ·obtain ⟨b,o,rfl,_,hcell⟩:=(HM.out.below (BB.out _ hb)).at hlt
   obtain ⟨E,d,c1,c2,c3,_,_⟩:=hcell i (by omega)
   obtain ⟨E',d',c1',c2',c3',_,_⟩:=hcell (i+1) hlt
   clear hcell
   have hi0:i < ms.length:=by omega
   have HS:=Lib.hid (fun (h:ms[i+1].frm=ms[i].frm)=>stB_no hi0 hlt (Nat.lt_succ_self i) h)
   have HN:=Lib.hid (fun (h:¬ms[i+1].frm=ms[i].frm)=>show ∀t,(ht:t+1 < ms.length)→t < i+1→¬ms[t+1].frm=ms[t].frm from fun t ht g=>by
    by_cases e:t=i
    ·subst e;exact h
    ·exact H1.out t ht (by omega))
   generalize ms[i].frm=f at *
   generalize ms[i].to.length=tl at *
   generalize ms[i].tag=tg at *
   generalize ms[i+1].frm=f' at *
   generalize ms[i+1].to.length=tl' at *
   generalize ms[i+1].tag=tg' at *
   clear HM
   by_cases heq:f'=f
   ·have HR:=Lib.hid (N3.out C3.out (HS.out heq))
    go_wp2_with fail
    go_region
    all_goals
     go_wp2_with fail
     go_ret
     exact ⟨ret_int HR.out.symm,BB.out _ hb.drew⟩
   ·have HR:=Lib.hid (HN.out heq)
    go_wp2_with fail
    go_region
    all_goals
     go_wp2_with fail
     go_roundw
     case rel=>exact ⟨i+1,by omega,by go_num,HR.out,hb.drew⟩
     case measure=>simp [intOf];omega
  ·have hst:=Lib.hid (show stB ms=true from stB_of HMC.out (fun k hk=>H1.out k hk (by omega)))
   have C4:=Lib.hid (show Ck4 ⟨ss,ms,rs⟩ from ⟨C3.out,hst.out⟩)
   clear N3 C3 H1 hst
   go_wp2_with fail
   clear q0 q1 q2
   go_loopw [53] (fun u wr=>∃i:Nat,i≤ms.length∧u=.int .i64 i∧(∀t,(ht:t < ms.length)→t < i→kindB ms[t]=false)∧Below W0.heap.size W0 wr) (fun u _=>ms.length - (intOf u).toNat)
   case atStart=>exact ⟨0,Nat.zero_le _,rfl,fun t _ h=>absurd h (Nat.not_lt_zero _),hb⟩
   case round=>
    clear hb
    obtain ⟨i,hi,rfl,hno,hb⟩:=hrel
    have HNO:=Lib.hid hno
    clear hno
    obtain ⟨q0,q1,q2⟩:=Q.out wr hb
    by_cases hlt:i < ms.length
    ·obtain ⟨b1,o1,rfl,hbl,hcell⟩:=(HM.out.below (BB.out _ hb)).at hlt
     obtain ⟨C,cc,c0,c1,c2,hcc,hC⟩:=hcell i hlt
     have HB:=Lib.hid (fun h=>N4.out C4.out (anyT hlt h))
     have HN:=Lib.hid (fun h=>all_up (P:=fun m=>kindB m=false) hlt HNO.out h)
     clear hcell hC
     generalize ms[i]=mi at *
     have K1:=Lib.hid (fun (h:¬mi.tag.size=0)=>show kindB mi=false from by simp [kindB,h])
     have K2:=Lib.hid (fun (h:mi.to.length=1)=>show kindB mi=false from by simp [kindB,h])
     have K3:=Lib.hid (fun (h:mi.to.length=2)=>show kindB mi=false from by simp [kindB,h])
     have K4:=Lib.hid (fun (h:mi.tag.size=0) (h1:¬mi.to.length=1) (h2:¬mi.to.length=2)=>show kindB mi=true from by simp [kindB,h,h1,h2])
     generalize kindB mi=kb at *
     obtain ⟨mf,mt,mg⟩:=mi
     dsimp only at *
     clear HM
     have hb2:=hb.trans (((Below.refl wr.heap.size wr).alloc (Nat.le_refl _) (.cells #[.int .i64 mf,.slice C mt.length cc,.string mg] 63)).mono hb.size)
     by_cases hg:mg.size=0
     ·have g0:mg.toList=[]:=str_nil hg
      by_cases h1:mt.length=1
      ·have HQ:=Lib.hid (HN.out (K2.out h1))
       have d1:(mt.length:Int)=1:=by omega
       clear h1
       go_wp2_with fail
       go_roundw
       case rel=>exact ⟨i+1,by omega,by go_num,HQ.out,hb2⟩
       case measure=>simp [intOf];omega
      ·have d1:((mt.length:Int) != 1)=true:=by simp;omega
       by_cases h2:mt.length=2
       ·have HQ:=Lib.hid (HN.out (K3.out h2))
        have d2:((mt.length:Int) != 2)=false:=by simp;omega
        have hb2':=Lib.hid hb2
        clear h2
        go_wp2_with fail
        go_roundw
        case rel=>exact ⟨i+1,by omega,by go_num,HQ.out,hb2⟩
        case measure=>simp [intOf];omega
       ·have HR:=Lib.hid (HB.out (K4.out hg h1 h2))
        have d2:((mt.length:Int) != 2)=true:=by simp;omega
        go_wp2_with fail
        go_ret
        exact ⟨ret_int HR.out.symm,BB.out _ hb2⟩
     ·have g0:¬mg.toList=[]:=str_cons hg
      have g1:mg.toList.isEmpty=false:=by simpa using g0
      have HQ:=Lib.hid (HN.out (K1.out hg))
      go_wp2_with fail
      go_roundw
      case rel=>exact ⟨i+1,by omega,by go_num,HQ.out,hb2⟩
      case measure=>simp [intOf];omega
    ·have C5:=Lib.hid (show Ck5 ⟨ss,ms,rs⟩ from ⟨C4.out,show ms.any kindB=false from anyF (fun t ht=>HNO.out t ht (by omega))⟩)
     have C4':=Lib.hid (show Ck4 ⟨ss,ms,rs⟩ from C4.out)
     clear C4 N4 HNO
     have N5':=Lib.hid (fun h=>N5.out C5.out h)
     clear N5
     go_wp2_with fail
     clear q0 q1 q2
     have B1:W0.heap.size≤W0.heap.size:=Nat.le_refl _
     go_loopw [8,76] (fun v u wr=>∃(i c:Nat) (B:Option Addr),i≤ms.length∧u=.int .i64 i∧v=.slice B (taggedM (ms.take i)).length c∧wr.ownsRow W0.heap.size 3 1 (.slice B (taggedM (ms.take i)).length c) (taggedM (ms.take i)).length ((taggedM (ms.take i)).map (Value.int .i64))∧
      (∀t,(ht:t < ms.length)→t < i→Hg.kind ms[t].frm=0)∧Below W0.heap.size W0 wr) (fun _ u _=>ms.length - (intOf u).toNat)
     case atStart=>exact ⟨0,0,none,Nat.zero_le _,rfl,rfl,World.ownsRow_nil _ _ _ _,fun t _ h=>absurd h (Nat.not_lt_zero _),hb⟩
     case round=>
      clear hb
      obtain ⟨i,c,B,hi,rfl,rfl,hown,hno,hb⟩:=hrel
      have HNO:=Lib.hid hno
      have HOWN:=Lib.hid hown
      clear hno hown
      obtain ⟨q0,q1,q2⟩:=Q.out wr hb
      by_cases hlt:i < ms.length
      ·obtain ⟨b1,o1,rfl,hbl,hcell⟩:=(HM.out.below (BB.out _ hb)).at hlt
       obtain ⟨C,cc,c0,c1,c2,hcc,hC⟩:=hcell i hlt
       have HB:=Lib.hid (fun h=>N5'.out (datB_kind hlt h))
       have HN:=Lib.hid (fun h=>all_up (P:=fun m=>Hg.kind m.frm=0) hlt HNO.out h)
       have HT:=Lib.hid (taggedM_take hlt)
       have hTL:=taggedM_len (ms.take i)
       rw [List.length_take] at hTL
       clear hcell hC
       generalize ms[i]=mi at *
       obtain ⟨mf,mt,mg⟩:=mi
       dsimp only at *
       clear HM
       have hb2:=hb.trans (((Below.refl wr.heap.size wr).alloc (Nat.le_refl _) (.cells #[.int .i64 mf,.slice C mt.length cc,.string mg] 63)).mono hb.size)
       have HOWNa:=Lib.hid (own_keep HOWN.out ((Below.refl wr.heap.size wr).alloc (Nat.le_refl _) (.cells #[.int .i64 mf,.slice C mt.length cc,.string mg] 63)))
       generalize hka:Hg.kind mf=ka at *
       have HK:=Lib.hid hka
       clear hka
       have KF:=Lib.hid (KC.out mf)
       rw [HK.out] at KF
       by_cases hk0:ka=0
       ·have HQ:=Lib.hid (HN.out hk0)
        subst hk0
        by_cases hg:mg.size=0
        ·have g0:mg.toList=[]:=str_nil hg
         have hT:=HT.out
         rw [if_pos hg,List.append_nil] at hT
         have HT2:=Lib.hid hT
         clear hT
         go_wp2_with (go_at_call 93;refine (KF.out _).mono ?_;rintro e w' ⟨rfl,rfl⟩)
         go_roundw
         case rel=>exact ⟨i+1,c,B,by omega,by go_num,by rw [HT2.out],by rw [HT2.out];exact HOWNa.out,HQ.out,hb2⟩
         case measure=>simp [intOf];omega
        ·have g0:¬mg.toList=[]:=str_cons hg
         have g1:mg.toList.isEmpty=false:=by simpa using g0
         have hT:=HT.out
         rw [if_neg hg] at hT
         have HT2:=Lib.hid hT
         clear hT
         go_wp2_with (first | (go_at_call 93;refine (KF.out _).mono ?_;rintro e w' ⟨rfl,rfl⟩) | (at_builtin;(refine wpList_app _ _ 37 3 (.int .i64 0) 1 8 rfl rfl Tryz.underlying37 info_int rfl (by decide) (by decide) rfl (HOWNa.out.alloc _) rfl (Sl_new (wr.alloc (.cells #[.int .i64 mf,.slice C mt.length cc,.string mg] 63)) [.int .i64 mf] 3 (by simp)) (by simp) (oneCell_ints [mf]) (by omega) (by have:=hb2.size;simp at this ⊢;omega) ?_);intro B1 c1' w1 hown1 hc1' hb1 hg1 hB1))
         have hb3:=hb2.trans ((((Below.refl _ _).alloc (Nat.le_refl _) _).mono hb2.size).trans hb1)
         go_roundw
         case rel=>
          refine ⟨i+1,c1',B1,by omega,by go_num,?_,?_,HQ.out,hb3⟩
          ·rw [HT2.out,List.length_append];rfl
          ·rw [HT2.out,List.length_append,List.map_append];exact hown1
         case measure=>simp [intOf];omega
       ·have HR:=Lib.hid (HB.out hk0)
        go_wp2_with (go_at_call 93;refine (KF.out _).mono ?_;rintro e w' ⟨rfl,rfl⟩)
        go_ret
        exact ⟨ret_int HR.out.symm,BB.out _ hb2⟩
      ·obtain rfl:i=ms.length:=by omega
       have hT:taggedM (ms.take ms.length)=taggedM ms:=by rw [List.take_length]
       have hTL:=taggedM_len ms
       have HI:Ints wr B (taggedM ms):=by rw [hT] at HOWN;exact Sl.of_own HOWN.out
       rw [hT]
       have HA:=Lib.hid (fun (h:rns (clz ss) (taggedM ms) 0 none=[])=>show Ck6 ⟨ss,ms,rs⟩ from ⟨C5.out,show ms.any (datB ss)=false from datB_of (fun t ht=>HNO.out t ht ht) h⟩)
       have HD:=Lib.hid (fun (h:¬rns (clz ss) (taggedM ms) 0 none=[])=>N5'.out (datB_yes h))
       have RR:=Lib.hid (RC.out B (taggedM ms).length c (taggedM ms) wr (BB.out _ hb) HI rfl (by omega))
       clear HI HOWN hT
       generalize taggedM ms=tg at *
       generalize rns (clz ss) tg 0 none=rr at *
       go_wp2_with fail
       with_reducible refine RR.out.mono ?_
       rintro e W4 ⟨A4,c4,rfl,hc4,hA4,hb4⟩
       replace hb4:=hb.trans (hb4.mono hb.size)
       clear q0 q1 q2
       obtain ⟨q0,q1,q2⟩:=Q.out W4 hb4
       by_cases hr0:rr=[]
       ·have C6:=Lib.hid (HA.out hr0)
        have hl:rr.length=0:=by rw [hr0];rfl
        have MM:=Lib.hid (ME.out W4 (BB.out _ hb4) (StF_of C4'.out.t) (mapErr_codes C4'.out.m) (NoHg_of C6.out.d))
        have FIN:=Lib.hid (fun cyc lng (h:MeasOk ms cyc lng)=>show r=if cyc=true then 12 else if lng=true then 13 else 0 from by
         have h1:=h.cyc (StF_of C4'.out.t) (NoHg_of C6.out.d)
         rw [N6.out C6.out]
         cases he:endB ms with
         | false=>rw [he] at h1;subst h1;rfl
         | true=>rw [he] at h1;subst h1;rw [h.lng (StF_of C4'.out.t) (NoHg_of C6.out.d) he];simp)
        clear hr0
        rw [hl]
        go_wp2_with fail
        with_reducible refine MM.out.mono ?_
        rintro e W5 ⟨cyc,lng,rfl,hok,hb5⟩
        replace hb5:=hb4.trans (hb5.mono hb4.size)
        have HF:=Lib.hid (FIN.out cyc lng hok)
        clear q0 q1 q2 hok FIN MM
        cases cyc with
        | true=>
         go_wp2_with fail
         go_ret
         exact ⟨ret_int HF.out.symm,BB.out _ hb5⟩
        | false=>
         cases lng with
         | true=>
          go_wp2_with fail
          go_ret
          exact ⟨ret_int HF.out.symm,BB.out _ hb5⟩
         | false=>
          go_wp2_with fail
          go_ret
          exact ⟨ret_int HF.out.symm,BB.out _ hb5⟩
       ·have HR:=Lib.hid (HD.out hr0)
        have hl:0 < rr.length:=List.length_pos_iff.2 hr0
        have hl2:decide ((0:Int) < (rr.length:Int))=true:=by simp;omega
        go_wp2_with fail
        go_ret
        exact ⟨ret_int HR.out.symm,BB.out _ hb4⟩
end Go.Proofs.YtijgbonhjcblcaaGreatDoor
namespace Go.Proofs.YtijgbonhjcblcaaGreatDoor
open Go.ChangeShapes Go.WideShapes Go.ChangeAt Go.RowKit
section
variable {H:Type} {enc:TypeId × Value→H} {w:World} {base:Nat} {spare:Nat→Bool} {held:Bool} {fuel:Nat} {cs:List Value} {x:DataW H × List MemPlace}
instance:Inhabited Spn:=⟨⟨0,0,0⟩⟩
theorem mcSp:Tryz.prog.cellsOf 22=1:=by kernel_rfl
theorem open_spns (h:DataW.trod enc Tryz.prog w base spare held fuel 22 cs=some x) :
  ∃A len cap,∃l:List Spn,cs=[.slice A len cap]∧l.length=len∧len≤cap∧cap≤9223372036854775807∧Spans w A l:=by
 obtain ⟨A,len,cap,l,h1,h2,h3,h4,h5,_⟩:=open_recs (α:=Spn) (fun s=>[.int .i64 s.lo,.int .i64 s.hi,.int .i64 s.val]) 3 (by omega) (fun _=>rfl) (fun _=>True) Tryz.underlying22 (by kernel_rfl) (fun fuel cs x hl hx=>by
  obtain ⟨xs,k,hk,hxy,_,hxl,hfs⟩:=DataW.trod_struct Tryz.underlying128 hx
  match xs,hxl,cs,hl with
  | [y0,y1,y2],_,[v0,v1,v2],_=>
   have g0:=hfs 0 _ rfl
   have g1:=hfs 1 _ rfl
   have g2:=hfs 2 _ rfl
   simp [mci] at g0 g1 g2
   obtain ⟨z0,e0,_,_⟩:=DataW.trod_int Tryz.underlying3 g0
   obtain ⟨z1,e1,_,_⟩:=DataW.trod_int Tryz.underlying3 g1
   obtain ⟨z2,e2,_,_⟩:=DataW.trod_int Tryz.underlying3 g2
   simp at e0 e1 e2
   subst e0;subst e1;subst e2
   exact ⟨⟨z0,z1,z2⟩,rfl,trivial⟩) h
 exact ⟨A,len,cap,l,h1,h2,h3,h4,h5⟩
end
structure NrmLn (x:Nrm):Prop where
 z0:x.cls.length≤9223372036854775807
 z1:x.dec.length≤9223372036854775807
 z2:x.exc.length≤9223372036854775807
 ze:∀i,(hi:i < x.dec.length)→x.dec[i].to.length≤9223372036854775807∧x.dec[i].tag.size≤9223372036854775807
section
variable {H:Type} {enc:TypeId × Value→H} {w:World} {base:Nat} {spare:Nat→Bool} {held:Bool}
end
theorem gName:Tryz.prog.globalNamed "unicodetext/ordering.hangulRanges"=some 0:=by kernel_rfl
theorem gType:(Tryz.prog.globals[0]?).map (·.type)=some 175:=by kernel_rfl
theorem laid_of {W:World} (h:laidMet Tryz.prog [("unicodetext/ordering.hangulRanges",Rows.laid_unicodetext_ordering_hangulRanges)] W):Laid W:=by
 obtain ⟨ps,⟨g',t',cs,fuel,p,q,hg',ht',hvar,hd,_,_⟩,_⟩:=h
 obtain rfl:=Option.some.inj (gName.symm.trans hg')
 obtain rfl:=Option.some.inj (gType.symm.trans ht')
 have cr:Tryz.prog.cellsOf 131=2:=by kernel_rfl
 have ci:Tryz.prog.cellsOf 3=1:=by kernel_rfl
 obtain ⟨xs,m,_,hxy,hlen,hxl,hel⟩:=DataW.trod_array Tryz.underlying175 hd
 match xs,hxl with
 | [y0,y1,y2,y3],_=>
  simp only [Rows.laid_unicodetext_ordering_hangulRanges,Prod.mk.injEq,DataW.agg.injEq,List.map_cons,List.map_nil,List.cons.injEq,and_true] at hxy
  obtain ⟨⟨e0,e1,e2,e3⟩,_⟩:=hxy
  have pair:∀(enc:TypeId × Value→Unit) (base:Nat) (spare:Nat→Bool) (held:Bool) (i:Nat) (a b:Int) (y:DataW Unit × List MemPlace),DataW.trod enc Tryz.prog W base spare held m 131 ((cs.toList.drop (i*2)).take 2)=some y→.agg [.lit (.int .i64 a),.lit (.int .i64 b)]=y.1→cs.toList[i*2]?=some (.int .i64 a)∧cs.toList[i*2+1]?=some (.int .i64 b):=by
   intro enc base spare held i a b y hy he
   obtain ⟨zs,k,_,hz,hzl,hzn,hfs⟩:=DataW.trod_struct Tryz.underlying131 hy
   match zs,hzn with
   | [u0,u1],_=>
    have g0:=hfs 0 _ rfl
    have g1:=hfs 1 _ rfl
    obtain ⟨z0,f0,rfl,_⟩:=DataW.trod_int Tryz.underlying3 g0
    obtain ⟨z1,f1,rfl,_⟩:=DataW.trod_int Tryz.underlying3 g1
    subst hz
    simp at he
    obtain ⟨rfl,rfl⟩:=he
    have h0:=congrArg (·[0]?) f0
    have h1:=congrArg (·[0]?) f1
    simp [ci,List.getElem?_drop] at h0 h1
    exact ⟨by simpa using h0,by simpa using h1⟩
  rw [cr] at hel
  have p0:=pair _ _ _ _ 0 _ _ _ (hel 0 (by omega)) e0
  have p1:=pair _ _ _ _ 1 _ _ _ (hel 1 (by omega)) e1
  have p2:=pair _ _ _ _ 2 _ _ _ (hel 2 (by omega)) e2
  have p3:=pair _ _ _ _ 3 _ _ _ (hel 3 (by omega)) e3
  have cell:=fun i=>World.var?_cell gName hvar i
  simp only [←Array.getElem?_toList] at cell
  exact ⟨(cell 0).trans p0.1,(cell 1).trans p0.2,(cell 2).trans p1.1,(cell 3).trans p1.2,(cell 4).trans p2.1,(cell 5).trans p2.2,(cell 6).trans p3.1,(cell 7).trans p3.2⟩
end Go.Proofs.YtijgbonhjcblcaaGreatDoor
namespace Go.Proofs.YtijgbonhjcblcaaGreatDoor
open Go.RowKit Go.Maps Go.WideMaps
theorem law_str:Keyed Tryz.prog 9:=string_keyed Tryz.underlying9
theorem zero_bool (w:World):(zeroValue 4).run Tryz.prog w=.ok (.bool false) w:=by kernel_rfl
theorem key_str {s:ByteArray} (h:s.size≤9223372036854775807):keyOf Tryz.prog 9 (.string s)=some (skey s):=keyOf_string_mk Tryz.underlying9 (by unfold maxLen;exact h)
theorem sok_of {s:ByteArray} (h:s.size≤9223372036854775807):sok s:=by unfold sok maxLen;exact h
instance (s:ByteArray) (l:List ByteArray):Decidable (s ∈ l):=decidable_of_iff (l.any (fun x=>decide (x=s))=true) (by simp)
def setF (l:List ByteArray) (s:ByteArray):Option Value:=if s ∈ l then some (.bool true) else none
theorem setF_yes {l:List ByteArray} {s:ByteArray} (h:s ∈ l):(setF l s).getD (.bool false)=.bool true:=by unfold setF;rw [if_pos h];rfl
theorem setF_no {l:List ByteArray} {s:ByteArray} (h:s ∉ l):(setF l s).getD (.bool false)=.bool false:=by unfold setF;rw [if_neg h];rfl
theorem setF_put (l:List ByteArray) (s:ByteArray) (x:ByteArray):setF (l++[s]) x=if x=s then some (.bool true) else setF l x:=by
 unfold setF
 by_cases h:x=s
 ·simp [h]
 ·simp [h]
theorem ckGroups_any (A:Option Addr) (n a:Nat) (B:Option Addr) (m b:Nat) (c:Col) (w:World) (h:ColAt w A n B m c) (hb65:c.base≤65502) (hbig:m≤1048576) :
  Calls Tryz.prog 75 #[colV A n a B m b c] w (RetInt (grpErr c.base c.grps) w):=by
 obtain ⟨ents,gs,base,second,third⟩:=c
 obtain ⟨_,hG,hn,hm,hs⟩:=h
 dsimp only at hG hn hm hs hb65
 subst hm
 unfold colV
 dsimp only
 have HS:=Lib.hid (fun i (hi:i < gs.length)=>hs gs[i] (List.getElem_mem hi))
 have HG:=Lib.hid hG
 have hmm:=@run_makeMap Tryz.prog
 clear hs hG hn
 go_enter Tryz.func75,Tryz.ntmps75
 go_wp2
 have B0:Below w.heap.size w (w.alloc (.cells #[.slice A n a,.slice B gs.length b,.int .i64 base,.int .i64 second,.int .i64 third] 32)):=(Below.refl _ _).alloc (Nat.le_refl _) _
 have s0:(w.alloc (.cells #[.slice A n a,.slice B gs.length b,.int .i64 base,.int .i64 second,.int .i64 third] 32)).heap.size=w.heap.size+1:=by simp
 have k1:(w.alloc (.cells #[.slice A n a,.slice B gs.length b,.int .i64 base,.int .i64 second,.int .i64 third] 32)).cell? ⟨w.heap.size,1,none⟩=some (.slice B gs.length b):=by simp
 have k2:(w.alloc (.cells #[.slice A n a,.slice B gs.length b,.int .i64 base,.int .i64 second,.int .i64 third] 32)).cell? ⟨w.heap.size,2,none⟩=some (.int .i64 base):=by simp
 obtain ⟨W0,hW0⟩:∃W0,w.alloc (.cells #[.slice A n a,.slice B gs.length b,.int .i64 base,.int .i64 second,.int .i64 third] 32)=W0:=⟨_,rfl⟩
 rw [hW0] at B0 s0 k1 k2 ⊢
 clear hW0
 have HG0:=Lib.hid (HG.out.below B0)
 have K:=Lib.hid (And.intro k1 k2)
 have S0:=Lib.hid s0
 have hx0:w.heap.size < W0.heap.size:=by omega
 clear HG k1 k2 s0
 go_loopw [4,15] (fun _ u wr=>∃i:Nat,i≤gs.length∧u=.int .i64 i∧(∀t,(ht:t < gs.length)→t < i→nameOk gs[t].name=true)∧Below W0.heap.size W0 wr) (fun _ u _=>gs.length - (intOf u).toNat)
 case atStart=>exact ⟨0,Nat.zero_le _,rfl,fun t _ h=>by omega,Below.refl _ _⟩
 case round=>
  obtain ⟨i,hi,rfl,h6,hb⟩:=hrel
  have H6:=Lib.hid h6;clear h6
  by_cases hlt:i < gs.length
  ·obtain ⟨b1,o1,rfl,hbl,hcell⟩:=(HG0.out.below hb).at hlt
   obtain ⟨c1,c2,c3⟩:=hcell i hlt
   have hss:=HS.out i hlt
   have HB:=Lib.hid (fun h=>grp6 (base:=base) hlt h)
   have HN:=Lib.hid (fun h=>all_up (P:=fun g=>nameOk g.name=true) hlt H6.out h)
   clear hcell
   generalize gs[i].name=nm at *
   generalize gs[i].lo=lo at *
   generalize gs[i].hi=hi' at *
   go_wp2_with fail
   refine (isName_any nm _ hss).mono ?_
   rintro e w1 ⟨rfl,rfl⟩
   cases hnm:nameOk nm
   ·go_wp2_with fail
    go_ret
    exact ⟨ret_int (HB.out hnm).symm,B0.trans ((hb.alloc hb.size _).mono B0.size)⟩
   ·go_wp2_with fail
    go_roundw
    case rel=>exact ⟨i+1,by omega,by go_num,HN.out hnm,hb.alloc hb.size _⟩
    case measure=>simp [intOf];omega
  ·have H6':=Lib.hid (fun t (ht:t < gs.length)=>H6.out t ht (by omega))
   clear H6
   have f1:=(hb.cell (p:=⟨w.heap.size,1,none⟩) hx0).trans K.out.1
   have hx1:w.heap.size < wr.heap.size:=by have:=hb.size;omega
   go_wp2
   have hM0:=MapIs.made Tryz.prog 9 skey sok wr
   have hb1:=hb.alloc hb.size (.map #[] 0)
   obtain ⟨mb,hmb⟩:∃mb,wr.heap.size=mb:=⟨_,rfl⟩
   rw [hmb] at hM0 ⊢
   have hmb0:W0.heap.size≤mb:=by have:=hb.size;omega
   obtain ⟨W1,hW1⟩:∃W1,wr.alloc (.map #[] 0)=W1:=⟨_,rfl⟩
   rw [hW1] at hM0 hb1 ⊢
   clear hW1 hmb hb f1 hx1
   go_loopw [7,28] (fun _ u wr=>∃i:Nat,i≤gs.length∧u=.int .i64 i∧(nms gs i).Nodup∧MapS Tryz.prog 9 wr mb i (setF (nms gs i))∧Below W0.heap.size W0 wr) (fun _ u _=>gs.length - (intOf u).toNat)
   case atStart=>exact ⟨0,Nat.zero_le _,rfl,by simp [nms],hM0.ext (fun x _=>by simp [nms,setF]),hb1⟩
   case round=>
    obtain ⟨i,hi,rfl,h5,hM,hb⟩:=hrel
    have H5:=Lib.hid h5;clear h5
    have HM:=Lib.hid hM;clear hM
    by_cases hlt:i < gs.length
    ·obtain ⟨b1,o1,rfl,hbl,hcell⟩:=(HG0.out.below hb).at hlt
     obtain ⟨c1,c2,c3⟩:=hcell i hlt
     have hss:=HS.out i hlt
     have HB:=Lib.hid (fun h=>grp5 (base:=base) H6'.out (nms_dup hlt h))
     have HN:=Lib.hid (fun h=>nms_nodup hlt H5.out h)
     have HE:=Lib.hid (nms_succ hlt)
     clear hcell
     generalize gs[i].name=nm at *
     generalize gs[i].lo=lo at *
     generalize gs[i].hi=hi' at *
     by_cases hin:nm ∈ nms gs i
     ·have HV:=Lib.hid (setF_yes hin)
      go_wp2_with (at_lookup;refine wpList_look rfl _ _ 169 rfl (HM.out.alloc _) law_str Tryz.underlying169 (zero_bool _) rfl rfl (sok_of hss) (key_str hss) ?_;rw [HV.out])
      go_ret
      exact ⟨ret_int (HB.out hin).symm,B0.trans ((hb.alloc hb.size _).mono B0.size)⟩
     ·have HV:=Lib.hid (setF_no hin)
      have HP:=Lib.hid (fun x=>setF_put (nms gs i) nm x)
      go_wp2_with (first
       | (at_lookup;refine wpList_look rfl _ _ 169 rfl (HM.out.alloc _) law_str Tryz.underlying169 (zero_bool _) rfl rfl (sok_of hss) (key_str hss) ?_;rw [HV.out])
       | (at_mapUpdate;refine wpList_mput rfl _ _ _ 169 rfl (HM.out.alloc _) law_str Tryz.underlying169 (by unfold maxLen;omega) rfl rfl rfl (sok_of hss) (key_str hss) (fun y _ e=>skey_inj e) ?_;intro w9 hM9 hg9))
      have hb9:=below_grown (hb.alloc hb.size (.cells #[.string nm,.int .i64 lo,.int .i64 hi'] 137)) hg9 hmb0 (by have:=hb.size;simp;omega)
      have HM9:=Lib.hid hM9
      clear hM9 hg9
      go_roundw
      case rel=>exact ⟨i+1,by omega,by go_num,HN.out hin,by rw [HE.out];exact HM9.out.ext (fun x _=>HP.out x),hb9⟩
      case measure=>simp [intOf];omega
    ·have H5':=Lib.hid (show (gs.map Grp.name).Nodup by rw [←nms_all,show gs.length=i by omega];exact H5.out)
     clear H5 HM
     have f1:=(hb.cell (p:=⟨w.heap.size,1,none⟩) hx0).trans K.out.1
     go_wp2
     clear f1
     go_loopw [9,43] (fun _ u wr=>∃i:Nat,i≤gs.length∧u=.int .i64 i∧(∀t,(ht:t < gs.length)→t < i→¬badG base gs[t])∧Below W0.heap.size W0 wr) (fun _ u _=>gs.length - (intOf u).toNat)
     case atStart=>exact ⟨0,Nat.zero_le _,rfl,fun t _ h=>by omega,hb⟩
     case round=>
      obtain ⟨i,hi,rfl,h1,hb⟩:=hrel
      have H1:=Lib.hid h1;clear h1
      have hx1:w.heap.size < wr.heap.size:=by have:=hb.size;omega
      by_cases hlt:i < gs.length
      ·obtain ⟨b1,o1,rfl,hbl,hcell⟩:=(HG0.out.below hb).at hlt
       obtain ⟨c1,c2,c3⟩:=hcell i hlt
       have f2:=(hb.cell (p:=⟨w.heap.size,2,none⟩) hx0).trans K.out.2
       have HD:=Lib.hid (show badG base gs[i] ↔ (gs[i].lo < 1∨gs[i].hi < gs[i].lo∨base≤gs[i].hi) from Iff.rfl)
       have HB:=Lib.hid (fun h=>grp1 (base:=base) H6'.out H5'.out hlt h)
       have HN:=Lib.hid (fun h=>all_up (P:=fun g=>¬badG base g) hlt H1.out h)
       clear hcell
       generalize badG base gs[i]=Bd at *
       generalize gs[i].name=nm at *
       generalize gs[i].lo=lo at *
       generalize gs[i].hi=hi' at *
       go_wp2
       all_goals first
        | (go_ret
           exact ⟨ret_int (HB.out (HD.out.2 (by omega))).symm,B0.trans ((hb.alloc hb.size _).mono B0.size)⟩)
        | (go_roundw
           case rel=>exact ⟨i+1,by omega,by go_num,HN.out (fun h=>by have:=HD.out.1 h;omega),hb.alloc hb.size _⟩
           case measure=>simp [intOf];omega)
      ·have H1':=Lib.hid (fun t (ht:t < gs.length)=>H1.out t ht (by omega))
       clear H1
       have f1:=(hb.cell (p:=⟨w.heap.size,1,none⟩) hx0).trans K.out.1
       go_wp2
       clear f1
       go_loopw [10,11,68] (fun _ _ u wr=>∃i:Nat,i≤gs.length∧u=.int .i64 i∧(∀t,(ht:t+1 < gs.length)→t+1 < i→gs[t+1].lo=gs[t].hi+1)∧Below W0.heap.size W0 wr) (fun _ _ u _=>gs.length - (intOf u).toNat)
       case atStart=>exact ⟨0,Nat.zero_le _,rfl,fun t _ h=>by omega,hb⟩
       case round=>
        obtain ⟨i,hi,rfl,h4,hb⟩:=hrel
        have H4:=Lib.hid h4;clear h4
        have hx1:w.heap.size < wr.heap.size:=by have:=hb.size;omega
        by_cases hlt:i < gs.length
        ·obtain ⟨b1,o1,rfl,hbl,hcell⟩:=(HG0.out.below hb).at hlt
         obtain ⟨c1,c2,c3⟩:=hcell i hlt
         have f1:=(hb.cell (p:=⟨w.heap.size,1,none⟩) hx0).trans K.out.1
         by_cases hp:0 < i
         ·have hp1:i - 1 < gs.length:=by omega
          have d3:=(hcell (i - 1) hp1).2.2
          have HX:=H1'.out (i - 1) hp1
          unfold badG at HX
          have e1:i - 1+1=i:=by omega
          have HB:=Lib.hid (fun (h:gs[i].lo≠(gs[i - 1]'hp1).hi+1)=>grp4 (base:=base) H6'.out H5'.out H1'.out (k:=i - 1) (by omega) (by simpa only [e1] using h))
          have HN:=Lib.hid (fun (h:gs[i].lo=(gs[i - 1]'hp1).hi+1)=>show ∀t,(ht:t+1 < gs.length)→t+1 < i+1→gs[t+1].lo=gs[t].hi+1 from fun t ht g=>by
           by_cases e:t+1 < i
           ·exact H4.out t ht e
           ·obtain rfl:t=i - 1:=by omega
            simpa only [e1] using h)
          have hz:1≤(gs[i - 1]'hp1).hi∧(gs[i - 1]'hp1).hi < 65502:=by omega
          clear hcell e1 HX
          generalize gs[i].name=nm at *
          generalize gs[i].lo=lo at *
          generalize gs[i].hi=hi' at *
          generalize (gs[i - 1]'hp1).hi=ph at *
          have i1:(0:Int)≤(i:Int) - 1:=by omega
          have i2:(i:Int) - 1 < (gs.length:Int):=by omega
          have i3:((i:Int) - 1).toNat=i - 1:=by omega
          have w1:IntKind.i64.wrap ((i:Int) - 1)=(i:Int) - 1:=IntWalk.i64_in _ (by omega)
          have w2:IntKind.i64.wrap (ph+1)=ph+1:=IntWalk.i64_in _ (by omega)
          by_cases hq:lo=ph+1
          ·have q1:(lo != ph+1)=false:=by simpa using hq
           have HQ:=Lib.hid (HN.out hq)
           clear hq HN HB
           go_wp2_with fail
           go_quiet (fail)
           clear i3 w1 w2
           go_wp2_with fail
           go_roundw
           case rel=>exact ⟨i+1,by omega,by go_num,HQ.out,⟨hb.os,hb.tape,hb.output,(hb.alloc hb.size _).size,(hb.alloc hb.size _).block⟩⟩
           case measure=>simp [intOf];omega
          ·have q1:(lo != ph+1)=true:=by simpa using hq
           have HQ:=Lib.hid (HB.out hq)
           clear hq HN HB
           go_wp2_with fail
           go_quiet (fail)
           clear i3 w1 w2
           go_wp2_with fail
           go_ret
           exact ⟨ret_int HQ.out.symm,B0.trans (Below.mono ⟨hb.os,hb.tape,hb.output,(hb.alloc hb.size _).size,(hb.alloc hb.size _).block⟩ B0.size)⟩
         ·have hp0:decide ((0:Int) < (i:Int))=false:=by simp;omega
          have HQ:=Lib.hid (show ∀t,(ht:t+1 < gs.length)→t+1 < i+1→gs[t+1].lo=gs[t].hi+1 from fun t ht g=>by omega)
          clear hcell
          generalize gs[i].name=nm at *
          generalize gs[i].lo=lo at *
          generalize gs[i].hi=hi' at *
          go_wp2_with fail
          go_quiet (fail)
          go_wp2_with fail
          go_roundw
          case rel=>exact ⟨i+1,by omega,by go_num,HQ.out,⟨hb.os,hb.tape,hb.output,(hb.alloc hb.size _).size,(hb.alloc hb.size _).block⟩⟩
          case measure=>simp [intOf];omega
        ·have HF:=Lib.hid (grp0 (base:=base) H6'.out H5'.out H1'.out (fun t ht=>H4.out t ht (by omega)))
         go_wp2
         go_ret
         exact ⟨ret_int HF.out.symm,B0.trans (hb.mono B0.size)⟩
end Go.Proofs.YtijgbonhjcblcaaGreatDoor
namespace Go.Proofs.YtijgbonhjcblcaaGreatDoor
open Go.RowKit Go.Maps Go.WideMaps
end Go.Proofs.YtijgbonhjcblcaaGreatDoor
namespace Go.Proofs.YtijgbonhjcblcaaGreatDoor
open Go.RowKit Go.Maps Go.WideMaps
section
variable {base:Int} {x:Ent}
theorem firstErr_at {α:Type} {f:α→Int} {l:List α} {k:Nat} (hk:k < l.length) (h0:∀t,(ht:t < l.length)→t < k→f l[t]=0) (h:f l[k]≠0):firstErr (l.map f)=f l[k]:=by
 induction l generalizing k with
 | nil=>simp at hk
 | cons a r ih=>
  cases k with
  | zero=>
   simp only [List.getElem_cons_zero] at *
   simp [firstErr,h]
  | succ k=>
   have:=h0 0 (by simp) (by omega)
   simp only [List.getElem_cons_zero] at this
   simp only [List.map_cons,firstErr,this,if_true,List.getElem_cons_succ]
   exact ih (by simpa using hk) (fun t ht h9=>by have:=h0 (t+1) (by simpa using ht) (by omega);simpa using this) (by simpa using h)
theorem firstErr_zero {α:Type} {f:α→Int} {l:List α} (h0:∀t,(ht:t < l.length)→f l[t]=0):firstErr (l.map f)=0:=by
 induction l with
 | nil=>rfl
 | cons a r ih=>
  have:=h0 0 (by simp)
  simp only [List.getElem_cons_zero] at this
  simp only [List.map_cons,firstErr,this,if_true]
  exact ih fun t ht=>by have:=h0 (t+1) (by simpa using ht);simpa using this
def szBad (x:Ent):Prop:=x.codes.length < 1∨8 < x.codes.length∨16 < x.elems.length
theorem ent2 (h:szBad x):entErr1 base x=2:=by unfold szBad at h;unfold entErr1;rw [if_pos h]
theorem ent1 (h:¬szBad x) {k:Nat} (hk:k < x.codes.length) (hc:inR 0 1114111 x.codes[k]=false):entErr1 base x=1:=by
 unfold szBad at h
 unfold entErr1
 rw [if_neg h,if_pos (anyT hk (by simpa using inR_false.1 hc))]
theorem codes_ok (h:∀t,(ht:t < x.codes.length)→inR 0 1114111 x.codes[t]=true):x.codes.any (fun c=>decide (c < 0∨1114111 < c))=false:=anyF fun t ht=>by
 have:=inR_iff.1 (h t ht)
 simp;omega
theorem entE (h:¬szBad x) (hc:∀t,(ht:t < x.codes.length)→inR 0 1114111 x.codes[t]=true) {k:Nat} (hk:k < x.elems.length) (h0:∀t,(ht:t < x.elems.length)→t < k→eltErr x.elems[t]=0) (he:eltErr x.elems[k]≠0):entErr1 base x=eltErr x.elems[k]:=by
 unfold szBad at h
 unfold entErr1
 rw [if_neg h,if_neg (by rw [codes_ok hc];simp),firstErr_at hk h0 he,if_pos he]
theorem entP (h:¬szBad x) (hc:∀t,(ht:t < x.codes.length)→inR 0 1114111 x.codes[t]=true) (h0:∀t,(ht:t < x.elems.length)→eltErr x.elems[t]=0) {k:Nat} (hk:k < x.elems.length) (he:base≤x.elems[k].p):entErr1 base x=1:=by
 unfold szBad at h
 unfold entErr1
 rw [if_neg h,if_neg (by rw [codes_ok hc];simp),firstErr_zero h0,if_neg (by simp),if_pos (anyT hk (by simpa using he))]
theorem ent0 (h:¬szBad x) (hc:∀t,(ht:t < x.codes.length)→inR 0 1114111 x.codes[t]=true) (h0:∀t,(ht:t < x.elems.length)→eltErr x.elems[t]=0) (he:∀t,(ht:t < x.elems.length)→¬base≤x.elems[t].p):entErr1 base x=0:=by
 unfold szBad at h
 unfold entErr1
 rw [if_neg h,if_neg (by rw [codes_ok hc];simp),firstErr_zero h0,if_neg (by simp),if_neg (by rw [anyF fun t ht=>by simpa using he t ht];simp)]
end
theorem ckEntry_any (C:Option Addr) (c:Nat) (E:Option Addr) (d:Nat) (x:Ent) (base:Int) (w:World) (hC:Ints w C x.codes) (hE:Elts w E x.elems) (h1:x.codes.length≤1048576) (h2:x.elems.length≤1048576) :
  Calls Tryz.prog 76 #[.agg #[.slice C x.codes.length c,.slice E x.elems.length d],.int .i64 base] w (RetInt (entErr1 base x) w):=by
 have HSZ:=Lib.hid (show szBad x ↔ (x.codes.length < 1∨8 < x.codes.length∨16 < x.elems.length) from Iff.rfl)
 have HC:=Lib.hid hC;have HE:=Lib.hid hE
 have B0:Below w.heap.size w (w.alloc (.cells #[.slice C x.codes.length c,.slice E x.elems.length d] 105)):=(Below.refl _ _).alloc (Nat.le_refl _) _
 clear hC hE
 by_cases hsz:x.codes.length < 1∨8 < x.codes.length∨16 < x.elems.length
 ·have HQ:=Lib.hid (ent2 (base:=base) (HSZ.out.2 hsz))
  generalize entErr1 base x=R at *
  obtain hsz | ⟨g1,hsz⟩ | ⟨g1,g2,hsz⟩:x.codes.length < 1∨(¬x.codes.length < 1∧8 < x.codes.length)∨(¬x.codes.length < 1∧¬8 < x.codes.length∧16 < x.elems.length):=by omega
  all_goals
   go_enter Tryz.func76,Tryz.ntmps76
   go_wp2
   go_ret
   exact ⟨ret_int HQ.out.symm,B0⟩
 ·have HSZN:=Lib.hid (fun h=>hsz (HSZ.out.1 h))
  have z1:¬x.codes.length < 1:=by omega
  have z2:¬8 < x.codes.length:=by omega
  have z3:¬16 < x.elems.length:=by omega
  clear hsz HSZ
  go_enter Tryz.func76,Tryz.ntmps76
  go_wp2
  have s0:(w.alloc (.cells #[.slice C x.codes.length c,.slice E x.elems.length d] 105)).heap.size=w.heap.size+1:=by simp
  have k1:(w.alloc (.cells #[.slice C x.codes.length c,.slice E x.elems.length d] 105)).cell? ⟨w.heap.size,1,none⟩=some (.slice E x.elems.length d):=by simp
  obtain ⟨W0,hW0⟩:∃W0,w.alloc (.cells #[.slice C x.codes.length c,.slice E x.elems.length d] 105)=W0:=⟨_,rfl⟩
  rw [hW0] at B0 s0 k1 ⊢
  clear hW0
  have HC0:=Lib.hid (HC.out.below B0);have HE0:=Lib.hid (HE.out.below B0)
  have K:=Lib.hid k1
  have hx0:w.heap.size < W0.heap.size:=by omega
  clear HC HE k1 s0
  go_loop [6,31] (fun _ u=>∃i:Nat,i≤x.codes.length∧u=.int .i64 i∧(∀t,(ht:t < x.codes.length)→t < i→inR 0 1114111 x.codes[t]=true)) (fun _ u=>x.codes.length - (intOf u).toNat)
  case atStart=>exact ⟨0,Nat.zero_le _,rfl,fun t _ h=>by omega⟩
  case round=>
   obtain ⟨i,hi,rfl,g1⟩:=hrel
   have G1:=Lib.hid g1;clear g1
   by_cases hlt:i < x.codes.length
   ·obtain ⟨b1,o1,rfl,hcell⟩:=HC0.out.at hlt
    have c1:=hcell i hlt
    have HB:=Lib.hid (fun h=>ent1 (base:=base) HSZN.out hlt h)
    have HN:=Lib.hid (fun h=>all_up (P:=fun c=>inR 0 1114111 c=true) hlt G1.out h)
    clear hcell
    generalize x.codes[i]=cd at *
    go_wp2_with fail
    refine (cpValid_any cd _).mono ?_
    rintro e w1 ⟨rfl,rfl⟩
    cases hv:inR 0 1114111 cd
    ·have HQ:=Lib.hid (HB.out hv)
     go_wp2_with fail
     go_ret
     exact ⟨ret_int HQ.out.symm,B0⟩
    ·have HQ:=Lib.hid (HN.out hv)
     go_wp2_with fail
     go_round
     case rel=>exact ⟨i+1,by omega,by go_num,HQ.out⟩
     case measure=>simp [intOf];omega
   ·have G1':=Lib.hid (fun t (ht:t < x.codes.length)=>G1.out t ht (by omega))
    clear G1
    have f1:=K.out
    go_wp2
    clear f1
    go_loopw [8,9,42] (fun _ _ u wr=>∃i:Nat,i≤x.elems.length∧u=.int .i64 i∧(∀t,(ht:t < x.elems.length)→t < i→eltErr x.elems[t]=0)∧Below W0.heap.size W0 wr) (fun _ _ u _=>x.elems.length - (intOf u).toNat)
    case atStart=>exact ⟨0,Nat.zero_le _,rfl,fun t _ h=>by omega,Below.refl _ _⟩
    case round=>
     obtain ⟨i,hi,rfl,g2,hb⟩:=hrel
     have G2:=Lib.hid g2;clear g2
     by_cases hlt:i < x.elems.length
     ·obtain ⟨b1,o1,rfl,hbl,hcell⟩:=(HE0.out.below hb).at hlt
      obtain ⟨c1,c2,c3,c4⟩:=hcell i hlt
      have HB:=Lib.hid (fun h=>entE (base:=base) HSZN.out G1'.out hlt G2.out h)
      have HN:=Lib.hid (fun h=>all_up (P:=fun e=>eltErr e=0) hlt G2.out h)
      have CE:=Lib.hid (fun W=>eltCheck_any x.elems[i] W)
      clear hcell
      generalize eltErr x.elems[i]=ev at *
      generalize x.elems[i].p=p at *
      generalize x.elems[i].s=s at *
      generalize x.elems[i].t=t at *
      generalize x.elems[i].v=v at *
      go_wp2_with fail
      refine (CE.out _).mono ?_
      rintro e w1 ⟨rfl,hb1⟩
      have hb2:=(hb.alloc hb.size (.cells #[.int .i64 p,.int .i64 s,.int .i64 t,.bool v] 112)).trans (hb1.mono (by have:=hb.size;simp;omega))
      clear hb1 c1 c2 c3 c4
      by_cases hz:ev=0
      ·have q1:(ev != 0)=false:=by simpa using hz
       have HQ:=Lib.hid (HN.out hz)
       clear hz HB HN
       go_wp2_with fail
       go_roundw
       case rel=>exact ⟨i+1,by omega,by go_num,HQ.out,hb2⟩
       case measure=>simp [intOf];omega
      ·have q1:(ev != 0)=true:=by simpa using hz
       have HQ:=Lib.hid (HB.out hz)
       clear hz HB HN
       go_wp2_with fail
       go_ret
       exact ⟨ret_int HQ.out.symm,B0.trans (hb2.mono B0.size)⟩
     ·have G2':=Lib.hid (fun t (ht:t < x.elems.length)=>G2.out t ht (by omega))
      clear G2
      have f1:=(hb.cell (p:=⟨w.heap.size,1,none⟩) hx0).trans K.out
      go_wp2
      clear f1
      go_loopw [11,55] (fun _ u wr=>∃i:Nat,i≤x.elems.length∧u=.int .i64 i∧(∀t,(ht:t < x.elems.length)→t < i→¬base≤x.elems[t].p)∧Below W0.heap.size W0 wr) (fun _ u _=>x.elems.length - (intOf u).toNat)
      case atStart=>exact ⟨0,Nat.zero_le _,rfl,fun t _ h=>by omega,hb⟩
      case round=>
       obtain ⟨i,hi,rfl,g3,hb⟩:=hrel
       have G3:=Lib.hid g3;clear g3
       by_cases hlt:i < x.elems.length
       ·obtain ⟨b1,o1,rfl,hbl,hcell⟩:=(HE0.out.below hb).at hlt
        obtain ⟨c1,c2,c3,c4⟩:=hcell i hlt
        have HB:=Lib.hid (fun h=>entP (base:=base) HSZN.out G1'.out G2'.out hlt h)
        have HN:=Lib.hid (fun h=>all_up (P:=fun e=>¬base≤e.p) hlt G3.out h)
        clear hcell
        generalize x.elems[i].p=p at *
        generalize x.elems[i].s=s at *
        generalize x.elems[i].t=t at *
        generalize x.elems[i].v=v at *
        by_cases hz:base≤p
        ·have HQ:=Lib.hid (HB.out hz)
         clear HB HN
         go_wp2
         go_ret
         exact ⟨ret_int HQ.out.symm,B0.trans ((hb.alloc hb.size _).mono B0.size)⟩
        ·have HQ:=Lib.hid (HN.out hz)
         clear HB HN
         go_wp2
         go_roundw
         case rel=>exact ⟨i+1,by omega,by go_num,HQ.out,hb.alloc hb.size _⟩
         case measure=>simp [intOf];omega
       ·have HQ:=Lib.hid (ent0 (base:=base) HSZN.out G1'.out G2'.out (fun t ht=>G3.out t ht (by omega)))
        go_wp2
        go_ret
        exact ⟨ret_int HQ.out.symm,B0.trans (hb.mono B0.size)⟩
end Go.Proofs.YtijgbonhjcblcaaGreatDoor
namespace Go.Proofs.YtijgbonhjcblcaaGreatDoor
open Go.RowKit
theorem Compare_any (A B:Option Addr) (n m c d:Nat) (xs ys:List Int) (w:World) (hA:Ints w A xs) (hB:Ints w B ys) (hn:xs.length=n) (hm:ys.length=m)
  (hn':n≤9223372036854775807) (hm':m≤9223372036854775807) :
  Calls Tryz.prog 89 #[.slice A n c,.slice B m d] w fun e w'=>e=.returned (.int .i64 (cmpL xs ys))∧Qt w w':=by
 subst hn hm
 go_enter Tryz.func89,Tryz.ntmps89
 go_wp2
 go_loopw [5] (fun i wr=>∃k:Nat,k≤xs.length∧k≤ys.length∧i=.int .i64 k∧Qt w wr∧cmpL xs ys=cmpL (xs.drop k) (ys.drop k)) (fun i _=>xs.length - (intOf i).toNat)
 case atStart=>exact ⟨0,Nat.zero_le _,Nat.zero_le _,rfl,Qt.refl _,rfl⟩
 case round=>
  obtain ⟨k,hk1,hk2,rfl,⟨q,rfl⟩,hcmp⟩:=hrel
  have HC:=Lib.hid hcmp;clear hcmp
  by_cases h1:k < xs.length
  ·by_cases h2:k < ys.length
   ·obtain ⟨b,o,rfl,hc⟩:=hA.at h1
    obtain ⟨b',o',rfl,hc'⟩:=hB.at h2
    have hx:=hc k h1
    have hy:=hc' k h2
    have HS:=Lib.hid (cmpL_drop xs ys k h1 h2)
    clear hc hc'
    generalize xs[k]=x at *
    generalize ys[k]=y at *
    by_cases hxy:x < y
    ·go_wp2
     go_quiet (fail)
     go_wp2
     go_ret
     exact ⟨ret_int (Eq.symm (by rw [HC.out,HS.out,if_pos hxy])),by repeat (first | exact Qt.refl _ | refine Qt.drewN ?_ _)⟩
    ·by_cases hyx:y < x
     ·go_wp2
      go_quiet (fail)
      go_wp2
      go_quiet (fail)
      go_wp2
      go_ret
      exact ⟨ret_int (Eq.symm (by rw [HC.out,HS.out,if_neg (show ¬x < y by omega),if_pos hyx])),by repeat (first | exact Qt.refl _ | refine Qt.drewN ?_ _)⟩
     ·go_wp2
      go_quiet (fail)
      go_wp2
      go_quiet (fail)
      go_wp2
      go_roundw
      case rel=>exact ⟨k+1,by omega,by omega,by go_num,by repeat (first | exact Qt.refl _ | refine Qt.drewN ?_ _),by rw [HC.out,HS.out,if_neg (show ¬x < y by omega),if_neg (show ¬y < x by omega)]⟩
      case measure=>simp [intOf];omega
   ·have HE:=Lib.hid (cmpL_end xs ys k (by omega) hk1 hk2)
    have hl:ys.length < xs.length:=by omega
    go_wp2
    go_ret
    exact ⟨ret_int (Eq.symm (by rw [HC.out,HE.out,if_neg (by omega),if_pos hl])),by repeat (first | exact Qt.refl _ | refine Qt.drewN ?_ _)⟩
  ·have HE:=Lib.hid (cmpL_end xs ys k (by omega) hk1 hk2)
   by_cases h2:k < ys.length
   ·go_wp2
    go_ret
    exact ⟨ret_int (Eq.symm (by rw [HC.out,HE.out,if_pos (by omega)])),by repeat (first | exact Qt.refl _ | refine Qt.drewN ?_ _)⟩
   ·go_wp2
    go_ret
    exact ⟨ret_int (Eq.symm (by rw [HC.out,HE.out,if_neg (by omega),if_neg (by omega)])),by repeat (first | exact Qt.refl _ | refine Qt.drewN ?_ _)⟩
theorem Equal_any (A B:Option Addr) (n m c d:Nat) (xs ys:List Int) (w:World) (hA:Ints w A xs) (hB:Ints w B ys) (hn:xs.length=n) (hm:ys.length=m)
  (hn':n≤9223372036854775807) (hm':m≤9223372036854775807) :
  Calls Tryz.prog 54 #[.slice A n c,.slice B m d] w fun e w'=>e=.returned (.bool (decide (xs=ys)))∧Qt w w':=by
 have hd:decide (xs=ys)=(cmpL xs ys==0):=by
  rw [Bool.eq_iff_iff];simp [cmpL_eq_zero]
 rw [hd];clear hd
 have HC:=Lib.hid (Compare_any A B n m c d xs ys w hA hB hn hm hn' hm')
 clear hA hB hn hm
 go_enter Tryz.func54,Tryz.ntmps54
 go_wp2_with (go_at_call 89;refine HC.out.mono ?_;rintro e w' ⟨rfl,q,rfl⟩)
 go_ret
 exact ⟨rfl,by repeat (first | exact Qt.refl _ | refine Qt.drewN ?_ _)⟩
end Go.Proofs.YtijgbonhjcblcaaGreatDoor
namespace Go.Proofs.YtijgbonhjcblcaaGreatDoor
open Go.RowKit Go.Maps Go.WideMaps
def prevE (es:List Ent):Nat→Option Ent
 | 0=>none
 | j+1=>es[j]?
def entI (base:Int) (es:List Ent) (i:Nat):Int:=
 match es[i]? with
 | none=>0
 | some x=>if entErr1 base x≠0 then entErr1 base x else match prevE es i with
  | none=>0
  | some y=>if 0≤cmpL y.codes x.codes then 4 else 0
theorem ents_step (base:Int) (es:List Ent) (i:Nat) (hi:i < es.length) :
  entsErr base (es.drop i) (prevE es i)=if entI base es i≠0 then entI base es i else entsErr base (es.drop (i+1)) (prevE es (i+1)):=by
 rw [List.drop_eq_getElem_cons hi]
 unfold entI
 rw [List.getElem?_eq_getElem hi]
 have hp:prevE es (i+1)=some es[i]:=List.getElem?_eq_getElem hi
 rw [hp]
 simp only [entsErr]
 by_cases h1:entErr1 base es[i]=0
 ·simp only [h1,ne_eq,not_true_eq_false,if_false]
  cases prevE es i with
  | none=>simp
  | some y=>
   simp only
   by_cases h2:0≤cmpL y.codes es[i].codes
   ·simp [h2]
   ·simp [h2]
 ·simp [h1]
theorem ents_end (base:Int) (es:List Ent) (i:Nat) (hi:es.length≤i):entsErr base (es.drop i) (prevE es i)=0:=by
 rw [List.drop_eq_nil_of_le hi];rfl
section
variable {base:Int} {es:List Ent} {i:Nat}
theorem entI_1 (hi:i < es.length) (h:entErr1 base es[i]≠0):entI base es i=entErr1 base es[i]:=by
 unfold entI;rw [List.getElem?_eq_getElem hi];simp [h]
theorem entI_0 (hi:0 < es.length) (h:entErr1 base es[0]=0):entI base es 0=0:=by
 unfold entI;rw [List.getElem?_eq_getElem hi];simp [h,prevE]
theorem entI_4 (hi:i+1 < es.length) (h:entErr1 base es[i+1]=0) (h4:0≤cmpL es[i].codes es[i+1].codes):entI base es (i+1)=4:=by
 unfold entI;rw [List.getElem?_eq_getElem hi];simp [h,prevE,List.getElem?_eq_getElem (show i < es.length by omega),h4]
theorem entI_ok (hi:i+1 < es.length) (h:entErr1 base es[i+1]=0) (h4:¬0≤cmpL es[i].codes es[i+1].codes):entI base es (i+1)=0:=by
 unfold entI;rw [List.getElem?_eq_getElem hi];simp [h,prevE,List.getElem?_eq_getElem (show i < es.length by omega),h4]
end
structure ColSz (c:Col):Prop where
 e:∀i,(hi:i < c.ents.length)→c.ents[i].codes.length≤1048576∧c.ents[i].elems.length≤1048576
 n:c.ents.length≤1048576
 m:c.grps.length≤1048576
section
variable {c:Col}
theorem col1 (h:c.base < 1∨65502 < c.base∨inR 1 65535 c.second=false∨inR 1 65535 c.third=false):colErr c=1:=by unfold colErr;rw [if_pos h]
theorem colG (h:¬(c.base < 1∨65502 < c.base∨inR 1 65535 c.second=false∨inR 1 65535 c.third=false)) (hg:grpErr c.base c.grps≠0):colErr c=grpErr c.base c.grps:=by
 unfold colErr;rw [if_neg h,if_pos hg]
theorem colE (h:¬(c.base < 1∨65502 < c.base∨inR 1 65535 c.second=false∨inR 1 65535 c.third=false)) (hg:grpErr c.base c.grps=0):colErr c=entsErr c.base c.ents none:=by
 unfold colErr;rw [if_neg h,if_neg (by simpa using hg)]
end
theorem ckColl_any (A:Option Addr) (n a:Nat) (B:Option Addr) (m b:Nat) (c:Col) (w:World) (h:ColAt w A n B m c) (hz:ColSz c) :
  Calls Tryz.prog 32 #[colV A n a B m b c] w (RetInt (colErr c) w):=by
 have B0:Below w.heap.size w (w.alloc (.cells #[.slice A n a,.slice B m b,.int .i64 c.base,.int .i64 c.second,.int .i64 c.third] 32)):=(Below.refl _ _).alloc (Nat.le_refl _) _
 have H1:=Lib.hid (col1 (c:=c))
 have HG:=Lib.hid (colG (c:=c))
 have HE:=Lib.hid (colE (c:=c))
 have CG:=Lib.hid (fun W (hb:Below w.heap.size w W) (h65:c.base≤65502)=>ckGroups_any A n a B m b c W (h.below hb) h65 (by rw [←h.hm];exact hz.m))
 obtain ⟨es,gs,base,second,third⟩:=c
 dsimp only at *
 unfold colV at *
 dsimp only at *
 have CI:=Lib.hid isWeight_any
 have HEN:=Lib.hid h.ents
 have hnn:=h.hn
 have HSZ:=Lib.hid hz
 dsimp only at hnn
 subst hnn
 clear h hz
 by_cases q1:base < 1
 ·have HQ:=Lib.hid (H1.out (.inl q1))
  go_enter Tryz.func32,Tryz.ntmps32
  go_wp2_with fail
  go_ret
  exact ⟨ret_int HQ.out.symm,B0⟩
 ·by_cases q2:65502 < base
  ·have HQ:=Lib.hid (H1.out (.inr (.inl q2)))
   go_enter Tryz.func32,Tryz.ntmps32
   go_wp2_with fail
   go_ret
   exact ⟨ret_int HQ.out.symm,B0⟩
  ·cases q3:inR 1 65535 second
   ·have HQ:=Lib.hid (H1.out (.inr (.inr (.inl q3))))
    go_enter Tryz.func32,Tryz.ntmps32
    go_wp2_with fail
    refine (CI.out second _).mono ?_
    rw [q3];rintro e w' ⟨rfl,rfl⟩
    go_wp2_with fail
    go_ret
    exact ⟨ret_int HQ.out.symm,B0⟩
   ·cases q4:inR 1 65535 third
    ·have HQ:=Lib.hid (H1.out (.inr (.inr (.inr q4))))
     go_enter Tryz.func32,Tryz.ntmps32
     go_wp2_with fail
     refine (CI.out second _).mono ?_
     rw [q3];rintro e w' ⟨rfl,rfl⟩
     go_wp2_with fail
     refine (CI.out third _).mono ?_
     rw [q4];rintro e w' ⟨rfl,rfl⟩
     go_wp2_with fail
     go_ret
     exact ⟨ret_int HQ.out.symm,B0⟩
    ·have hno:¬(base < 1∨65502 < base∨inR 1 65535 second=false∨inR 1 65535 third=false):=by rw [q3,q4];simp;omega
     have HG':=Lib.hid (HG.out hno);have HE':=Lib.hid (HE.out hno)
     clear HG HE H1 hno
     go_enter Tryz.func32,Tryz.ntmps32
     go_wp2_with fail
     refine (CI.out second _).mono ?_
     rw [q3];rintro e w' ⟨rfl,rfl⟩
     go_wp2_with fail
     refine (CI.out third _).mono ?_
     rw [q4];rintro e w' ⟨rfl,rfl⟩
     go_wp2_with fail
     have s0:(w.alloc (.cells #[.slice A es.length a,.slice B m b,.int .i64 base,.int .i64 second,.int .i64 third] 32)).heap.size=w.heap.size+1:=by simp
     have k0:(w.alloc (.cells #[.slice A es.length a,.slice B m b,.int .i64 base,.int .i64 second,.int .i64 third] 32)).cell? ⟨w.heap.size,0,none⟩=some (.slice A es.length a):=by simp
     have k2:(w.alloc (.cells #[.slice A es.length a,.slice B m b,.int .i64 base,.int .i64 second,.int .i64 third] 32)).cell? ⟨w.heap.size,2,none⟩=some (.int .i64 base):=by simp
     obtain ⟨W0,hW0⟩:∃W0,w.alloc (.cells #[.slice A es.length a,.slice B m b,.int .i64 base,.int .i64 second,.int .i64 third] 32)=W0:=⟨_,rfl⟩
     rw [hW0] at B0 s0 k0 k2 ⊢
     clear hW0
     have HEN0:=Lib.hid (HEN.out.below B0)
     have K:=Lib.hid (And.intro k0 k2)
     have hx0:w.heap.size < W0.heap.size:=by omega
     clear HEN k0 k2 s0 q3 q4 CI
     refine (CG.out W0 B0 (by omega)).mono ?_
     rintro e W1 ⟨rfl,hb1⟩
     clear CG
     by_cases hgz:grpErr base gs=0
     ·have g1:(grpErr base gs != 0)=false:=by simpa using hgz
      have HQ:=Lib.hid (HE'.out hgz)
      clear hgz HG' HE'
      generalize grpErr base gs=ge at *
      generalize colErr ⟨es,gs,base,second,third⟩=R at *
      have f0:=(hb1.cell (p:=⟨w.heap.size,0,none⟩) hx0).trans K.out.1
      go_wp2_with fail
      clear f0
      go_loopw [4,5,6,35] (fun _ _ _ u wr=>∃i:Nat,i≤es.length∧u=.int .i64 i∧entsErr base es none=entsErr base (es.drop i) (prevE es i)∧Below W0.heap.size W0 wr) (fun _ _ _ u _=>es.length - (intOf u).toNat)
      case atStart=>exact ⟨0,Nat.zero_le _,rfl,rfl,hb1⟩
      case round=>
       obtain ⟨i,hi,rfl,hen,hb⟩:=hrel
       have HEE:=Lib.hid hen;clear hen hb1
       by_cases hlt:i < es.length
       ·obtain ⟨b1,o1,rfl,hbl,hcell⟩:=(HEN0.out.below hb).at hlt
        obtain ⟨C,cc,E,d,c1,c2,hC,hE⟩:=hcell i hlt
        obtain ⟨z1,z2⟩:=HSZ.out.e i hlt
        dsimp only at z1 z2
        have f2:=(hb.cell (p:=⟨w.heap.size,2,none⟩) hx0).trans K.out.2
        have f0:=(hb.cell (p:=⟨w.heap.size,0,none⟩) hx0).trans K.out.1
        have hx1:w.heap.size < wr.heap.size:=by have:=hb.size;omega
        have hnz:es.length≤1048576:=HSZ.out.n
        have ST:=Lib.hid (ents_step base es i hlt)
        have E1:=Lib.hid (fun h=>entI_1 (base:=base) hlt h)
        have HPV:=Lib.hid (show 0 < i→∃D dd,wr.cell? ⟨b1,o1+(i - 1)*2,none⟩=some (.slice D (es[i - 1]'(by omega)).codes.length dd)∧Ints wr D (es[i - 1]'(by omega)).codes∧(es[i - 1]'(by omega)).codes.length≤1048576∧(entErr1 base es[i]=0→(0≤cmpL (es[i - 1]'(by omega)).codes es[i].codes→entI base es i=4)∧(¬0≤cmpL (es[i - 1]'(by omega)).codes es[i].codes→entI base es i=0)) from fun hp=>by
         obtain ⟨j,rfl⟩:∃j,i=j+1:=⟨i - 1,by omega⟩
         obtain ⟨D,dd,_,_,e1,_,e3,_⟩:=hcell j (by omega)
         exact ⟨D,dd,e1,e3,(HSZ.out.e j (show j < es.length by omega)).1,fun hz=>⟨fun h=>entI_4 hlt hz h,fun h=>entI_ok hlt hz h⟩⟩)
        have HP0:=Lib.hid (show ¬0 < i→entErr1 base es[i]=0→entI base es i=0 from fun hp hz=>by
         obtain rfl:i=0:=by omega
         exact entI_0 hlt hz)
        have CE:=Lib.hid (fun W (hb':Below wr.heap.size wr W)=>ckEntry_any C cc E d es[i] base W (hC.below hb') (hE.below hb') z1 z2)
        clear hcell hE
        generalize entErr1 base es[i]=ev at *
        generalize es[i].elems=els at *
        generalize es[i].codes=cds at *
        generalize entI base es i=ei at *
        have hal:Below wr.heap.size wr (wr.alloc (.cells #[.slice C cds.length cc,.slice E els.length d] 105)):=(Below.refl _ _).alloc (Nat.le_refl _) _
        have m0:(wr.alloc (.cells #[.slice C cds.length cc,.slice E els.length d] 105)).cell? ⟨wr.heap.size,0,none⟩=some (.slice C cds.length cc):=by simp
        have HAL:=Lib.hid (And.intro hal m0)
        clear hal m0
        go_wp2_with fail
        refine (CE.out _ HAL.out.1).mono ?_
        rintro e w3 ⟨rfl,hb3⟩
        have hb4:=HAL.out.1.trans (hb3.mono (by simp))
        have hb5:=hb.trans (hb4.mono hb.size)
        have m1:=(hb3.cell (p:=⟨wr.heap.size,0,none⟩) (by simp)).trans HAL.out.2
        have f0':=(hb5.cell (p:=⟨w.heap.size,0,none⟩) hx0).trans K.out.1
        clear HAL hb3 CE c1 c2 f0 f2
        by_cases hev:ev=0
        ·have e1:(ev != 0)=false:=by simpa using hev
         by_cases hp:0 < i
         ·obtain ⟨D,dd,d1,hD,z3,hcmp⟩:=HPV.out hp
          have HCMP:=Lib.hid (hcmp hev)
          have d1':=(hb4.cell (p:=⟨b1,o1+(i - 1)*2,none⟩) (World.block_lt_of_cell? wr _ d1)).trans d1
          have CC:=Lib.hid (fun n=>cpCompare_any D C _ _ dd cc _ cds (w3.drewN n) (Sl.drewN (hD.below hb4) n) (Sl.drewN (hC.below hb4) n) rfl rfl (by omega) (by omega))
          clear hcmp hev E1 HPV HP0 hD d1
          generalize (es[i - 1]'(by omega)).codes=pcs at *
          generalize cmpL pcs cds=cv at *
          have i1:(0:Int)≤(i:Int) - 1:=by omega
          have i2:(i:Int) - 1 < (es.length:Int):=by omega
          have i3:((i:Int) - 1).toNat=i - 1:=by omega
          have w1:IntKind.i64.wrap ((i:Int) - 1)=(i:Int) - 1:=IntWalk.i64_in _ (by omega)
          by_cases hcv:0≤cv
          ·have q9:decide (0≤cv)=true:=by simpa using hcv
           have HV:=Lib.hid (HCMP.out.1 (by omega))
           clear hcv HCMP
           go_wp2_with fail
           go_quiet ((go_at_call 26;exact quiet_qt (CC.out _)))
           clear i3 w1
           go_wp2_with fail
           go_ret
           exact ⟨ret_int (by rw [HQ.out,HEE.out,ST.out,HV.out];rfl),B0.trans ((below_drewN hb5 _).mono B0.size)⟩
          ·have q9:decide (0≤cv)=false:=by simpa using hcv
           have HV:=Lib.hid (HCMP.out.2 (by omega))
           clear hcv HCMP
           go_wp2_with fail
           go_quiet ((go_at_call 26;exact quiet_qt (CC.out _)))
           clear i3 w1
           go_wp2_with fail
           go_roundw
           case rel=>exact ⟨i+1,by omega,by go_num,by rw [HEE.out,ST.out,HV.out];rfl,below_drewN hb5 _⟩
           case measure=>simp [intOf];omega
         ·have hp0:decide ((0:Int) < (i:Int))=false:=by simp;omega
          have HV:=Lib.hid (HP0.out hp hev)
          clear hev E1 HPV HP0
          go_wp2_with fail
          go_quiet (fail)
          go_wp2_with fail
          go_roundw
          case rel=>exact ⟨i+1,by omega,by go_num,by rw [HEE.out,ST.out,HV.out];rfl,below_drewN hb5 _⟩
          case measure=>simp [intOf];omega
        ·have e1:(ev != 0)=true:=by simpa using hev
         have HV:=Lib.hid (E1.out hev)
         have HZ:=Lib.hid hev
         clear hev E1 HPV HP0
         go_wp2_with fail
         go_ret
         exact ⟨ret_int (by rw [HQ.out,HEE.out,ST.out,HV.out,if_pos HZ.out]),B0.trans (hb5.mono B0.size)⟩
       ·have HF:=Lib.hid (ents_end base es i (by omega))
        go_wp2
        go_ret
        exact ⟨ret_int (by rw [HQ.out,HEE.out,HF.out]),B0.trans (hb.mono B0.size)⟩
     ·have g1:(grpErr base gs != 0)=true:=by simpa using hgz
      have HQ:=Lib.hid (HG'.out hgz)
      clear hgz HG' HE'
      generalize grpErr base gs=ge at *
      go_wp2_with fail
      go_ret
      exact ⟨ret_int HQ.out.symm,B0.trans (hb1.mono B0.size)⟩
end Go.Proofs.YtijgbonhjcblcaaGreatDoor
