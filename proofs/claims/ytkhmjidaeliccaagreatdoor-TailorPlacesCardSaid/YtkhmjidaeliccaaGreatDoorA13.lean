/- Texts that are merged into one file: SortFnC, SortFnD, SortFnE, OSortA, OSortB. -/
import Derived.Test.YtkhmjidaeliccaaGreatDoorA02
import Derived.Test.YtkhmjidaeliccaaGreatDoorA04
import Derived.Test.YtkhmjidaeliccaaGreatDoorA06
import Derived.Test.YtkhmjidaeliccaaGreatDoorA10
import Derived.Test.YtkhmjidaeliccaaGreatDoorA12
import Derived.Deep.RegionWith
set_option maxRecDepth 100000
set_option maxHeartbeats 51200000
namespace Go.Proofs.YtkhmjidaeliccaaGreatDoor
open Go.RowKit
theorem symLeft_any (b B off n c p y:Nat) (e:TypeId) (key:Int→Int) (d:List Int) (pre post:List Value) (w:World) (hR:Row w b off e pre post d) (hn:d.length=n)
  (hpy:p+1 < y) (hy:y≤n) (hbig:n≤1099511627776) (hC:Cmps b B w key) (hs:Srt.SortedOn key d (p+1) y) :
  Calls Tryz.prog 192 #[.slice (some ⟨b,off,none⟩) n c,.int .i64 p,.int .i64 ((p:Int)+1),.int .i64 y,.func (.func 123) #[] #[.pointer (some ⟨B,0,none⟩)]] w
   (RetRow (fun d'=>Srt.Done key d d' p y) b off e pre post w):=by
 subst hn
 have HC:=Lib.hid hC;have HS:=Lib.hid hs;clear hC hs
 obtain ⟨x,hx⟩:=get_of_lt (d:=d) (i:=p) (by omega)
 have HX:=Lib.hid hx;clear hx
 have e1:((p:Int)+1 - (p:Int)==1)=true:=by simp;omega
 go_enter Tryz.func192,Tryz.ntmps192
 go_wp2_with fail
 go_loopw [10,11] (fun u v wr=>∃i j:Nat,p+1≤i∧i≤j∧j≤y∧u=.int .i64 i∧v=.int .i64 j∧(∀t,p+1≤t→t < i→Srt.kf key d t < Srt.kf key d p)∧(∀t,j≤t→t < y→Srt.kf key d p≤Srt.kf key d t)∧
   Row wr b off e pre post d∧w.grownBy wr (some b)) (fun u v _=>(intOf v).toNat - (intOf u).toNat)
 case atStart=>exact ⟨p+1,y,Nat.le_refl _,by omega,Nat.le_refl _,by go_num,rfl,fun t h1 h2=>by omega,fun t h1 h2=>by omega,hR,grownR_refl _ _⟩
 case round=>
  obtain ⟨i,j,hi,hij,hj,rfl,rfl,hlo,hhi,hR1,hg⟩:=hrel
  have HLO:=Lib.hid hlo;have HHI:=Lib.hid hhi;clear hlo hhi
  by_cases hlt:i < j
  ·obtain ⟨h,hh,h1,h2,h3⟩:∃h:Nat,((i:Int)+(j:Int)) / 2=(h:Int)∧i≤h∧h < j∧h < d.length:=⟨(i+j) / 2,by omega,by omega,by omega,by omega⟩
   obtain ⟨z,hz⟩:=get_of_lt (d:=d) (i:=h) h3
   have cx:=hR1.cell HX.out
   have cz:=hR1.cell hz
   have HZ:=Lib.hid hz
   have C:=Lib.hid (fun W hW=>HC.out W hW z x)
   clear hz
   have hpn:p < d.length:=by omega
   go_wp2_with fail
   clear hh
   refine wp_region_still_tail 9 (by kernel_rfl) (by kernel_rfl) ?_
   simp only [List.take_succ_cons,List.take_zero,List.drop_succ_cons,List.drop_zero]
   change wpStill _ _ wr.drew _ _ _
   repeat still_step
   refine wpStill_nil ?_
   change wpList _ _ _ _ _ wr.drew
   go_wp2_with fail
   refine (C.out _ (grownR_drew hg)).mono ?_
   rintro e w3 ⟨cc,rfl,hcc,hb3⟩
   have hR3:=(hR1.drew).below hb3
   have hg3:=grownR_below (grownR_drew hg) hb3
   clear hR1 hg hb3 cx cz
   by_cases hkey:key z < key x
   ·have hneg:cc < 0:=hcc.2 hkey
    clear hcc
    go_wp2
    go_roundw
    case rel=>
     refine ⟨h+1,j,by omega,by omega,hj,by go_num,rfl,fun t g1 g2=>?_,HHI.out,hR3,hg3⟩
     have k1:=HS.out.le (i:=t) (j:=h) g1 (by omega) (by omega)
     rw [Srt.kf_some HZ.out] at k1
     rw [Srt.kf_some HX.out];omega
    case measure=>simp [intOf];omega
   ·have hneg:¬cc < 0:=fun g=>hkey (hcc.1 g)
    clear hcc
    go_wp2
    go_roundw
    case rel=>
     refine ⟨i,h,hi,by omega,by omega,rfl,rfl,HLO.out,fun t g1 g2=>?_,hR3,hg3⟩
     have k1:=HS.out.le (i:=h) (j:=t) (by omega) g1 g2
     rw [Srt.kf_some HZ.out] at k1
     rw [Srt.kf_some HX.out];omega
    case measure=>simp [intOf];omega
  ·obtain rfl:i=j:=by omega
   obtain ⟨wo,rfl⟩:∃wo:World,wo=wr:=⟨_,rfl⟩
   go_wp2_with fail
   go_loopw [13] (fun u wr=>∃(k:Nat) (d1:List Int),p≤k∧k+1≤i∧u=.int .i64 k∧Srt.Rot d d1 p (p+1) (k+1)∧Row wr b off e pre post d1∧w.grownBy wr (some b)) (fun u _=>i - (intOf u).toNat)
   case atStart=>exact ⟨p,d,Nat.le_refl _,hi,rfl,Srt.rot_triv (by omega) (by omega) (.inr rfl),hR1,hg⟩
   case round=>
    obtain ⟨k,d1,hk1,hk2,rfl,hrot,hR2,hg2⟩:=hrel
    by_cases hki:k+1 < i
    ·obtain ⟨x1,hx1⟩:=get_of_lt (d:=d1) (i:=k) (by rw [hrot.1];omega)
     obtain ⟨y1,hy1⟩:=get_of_lt (d:=d1) (i:=k+1) (by rw [hrot.1];omega)
     have cx:=hR2.cell hx1
     have cy:=hR2.cell hy1
     have fx:=hR2.frozen (off+k)
     have fy:=hR2.frozen (off+(k+1))
     have HX1:=Lib.hid hx1;have HY1:=Lib.hid hy1;have HRO:=Lib.hid hrot;clear hx1 hy1 hrot
     go_wp2
     go_region
     go_wp2
     go_roundw
     case rel=>
      refine ⟨k+1,Srt.swp d1 k (k+1) x1 y1,by omega,by omega,by go_num,Srt.rot_snoc HRO.out hk1 HX1.out HY1.out,?_,?_⟩
      ·exact (Row.set (hR2.set (i:=k) (by rw [HRO.out.1];omega) y1) (i:=k+1) (by rw [List.length_set,HRO.out.1];omega) x1).drew
      ·exact grownR_drew (grown_row (grown_row hg2 _ _) _ _)
     case measure=>simp [intOf];omega
    ·obtain rfl:i=k+1:=by omega
     have HRO:=Lib.hid hrot;clear hrot
     go_wp2
     go_end0
     exact ⟨rfl,d1,Srt.Done.left HRO.out hi hj hy HS.out HLO.out HHI.out,hR2,hg2⟩
theorem symRight_any (b B off n c p m:Nat) (e:TypeId) (key:Int→Int) (d:List Int) (pre post:List Value) (w:World) (hR:Row w b off e pre post d) (hn:d.length=n)
  (hpm:p+1 < m) (hm:m+1≤n) (hbig:n≤1099511627776) (hC:Cmps b B w key) (hs:Srt.SortedOn key d p m) :
  Calls Tryz.prog 192 #[.slice (some ⟨b,off,none⟩) n c,.int .i64 p,.int .i64 m,.int .i64 ((m:Int)+1),.func (.func 123) #[] #[.pointer (some ⟨B,0,none⟩)]] w
   (RetRow (fun d'=>Srt.Done key d d' p (m+1)) b off e pre post w):=by
 subst hn
 have HC:=Lib.hid hC;have HS:=Lib.hid hs;clear hC hs
 obtain ⟨x,hx⟩:=get_of_lt (d:=d) (i:=m) (by omega)
 have HX:=Lib.hid hx;clear hx
 have e1:((m:Int) - (p:Int)==1)=false:=by simp;omega
 have e2:((m:Int)+1 - (m:Int)==1)=true:=by simp;omega
 go_enter Tryz.func192,Tryz.ntmps192
 go_wp2_with fail
 go_loopw [14,15] (fun u v wr=>∃i j:Nat,p≤i∧i≤j∧j≤m∧u=.int .i64 i∧v=.int .i64 j∧(∀t,p≤t→t < i→Srt.kf key d t≤Srt.kf key d m)∧(∀t,j≤t→t < m→Srt.kf key d m < Srt.kf key d t)∧
   Row wr b off e pre post d∧w.grownBy wr (some b)) (fun u v _=>(intOf v).toNat - (intOf u).toNat)
 case atStart=>exact ⟨p,m,Nat.le_refl _,by omega,Nat.le_refl _,rfl,rfl,fun t h1 h2=>by omega,fun t h1 h2=>by omega,hR,grownR_refl _ _⟩
 case round=>
  obtain ⟨i,j,hi,hij,hj,rfl,rfl,hlo,hhi,hR1,hg⟩:=hrel
  have HLO:=Lib.hid hlo;have HHI:=Lib.hid hhi;clear hlo hhi
  by_cases hlt:i < j
  ·obtain ⟨h,hh,h1,h2,h3⟩:∃h:Nat,((i:Int)+(j:Int)) / 2=(h:Int)∧i≤h∧h < j∧h < d.length:=⟨(i+j) / 2,by omega,by omega,by omega,by omega⟩
   obtain ⟨z,hz⟩:=get_of_lt (d:=d) (i:=h) h3
   have cx:=hR1.cell HX.out
   have cz:=hR1.cell hz
   have HZ:=Lib.hid hz
   have C:=Lib.hid (fun W hW=>HC.out W hW x z)
   clear hz
   have hpn:m < d.length:=by omega
   go_wp2_with fail
   clear hh
   refine wp_region_still_tail 9 (by kernel_rfl) (by kernel_rfl) ?_
   simp only [List.take_succ_cons,List.take_zero,List.drop_succ_cons,List.drop_zero]
   change wpStill _ _ wr.drew _ _ _
   repeat still_step
   refine wpStill_nil ?_
   change wpList _ _ _ _ _ wr.drew
   go_wp2_with fail
   refine (C.out _ (grownR_drew hg)).mono ?_
   rintro e w3 ⟨cc,rfl,hcc,hb3⟩
   have hR3:=(hR1.drew).below hb3
   have hg3:=grownR_below (grownR_drew hg) hb3
   clear hR1 hg hb3 cx cz
   by_cases hkey:key x < key z
   ·have hneg:decide (cc < 0)=true:=by simpa using hcc.2 hkey
    clear hcc
    go_wp2
    go_roundw
    case rel=>
     refine ⟨i,h,hi,by omega,by omega,rfl,rfl,HLO.out,fun t g1 g2=>?_,hR3,hg3⟩
     have k1:=HS.out.le (i:=h) (j:=t) (by omega) g1 g2
     rw [Srt.kf_some HZ.out] at k1
     rw [Srt.kf_some HX.out];omega
    case measure=>simp [intOf];omega
   ·have hneg:decide (cc < 0)=false:=by simpa using fun g=>hkey (hcc.1 g)
    clear hcc
    go_wp2
    go_roundw
    case rel=>
     refine ⟨h+1,j,by omega,by omega,hj,by go_num,rfl,fun t g1 g2=>?_,HHI.out,hR3,hg3⟩
     have k1:=HS.out.le (i:=t) (j:=h) g1 (by omega) (by omega)
     rw [Srt.kf_some HZ.out] at k1
     rw [Srt.kf_some HX.out];omega
    case measure=>simp [intOf];omega
  ·obtain rfl:i=j:=by omega
   obtain ⟨wo,rfl⟩:∃wo:World,wo=wr:=⟨_,rfl⟩
   go_wp2_with fail
   go_loopw [17] (fun u wr=>∃(k:Nat) (d1:List Int),i≤k∧k≤m∧u=.int .i64 k∧Srt.Rot d d1 k m (m+1)∧Row wr b off e pre post d1∧w.grownBy wr (some b)) (fun u _=>(intOf u).toNat)
   case atStart=>exact ⟨m,d,hj,Nat.le_refl _,rfl,Srt.rot_triv (by omega) (by omega) (.inl rfl),hR1,hg⟩
   case round=>
    obtain ⟨k,d1,hk1,hk2,rfl,hrot,hR2,hg2⟩:=hrel
    by_cases hki:i < k
    ·obtain ⟨x1,hx1⟩:=get_of_lt (d:=d1) (i:=k - 1) (by rw [hrot.1];omega)
     obtain ⟨y1,hy1⟩:=get_of_lt (d:=d1) (i:=k) (by rw [hrot.1];omega)
     have cx:=hR2.cell hx1
     have cy:=hR2.cell hy1
     have fx:=hR2.frozen (off+(k - 1))
     have fy:=hR2.frozen (off+k)
     have HX1:=Lib.hid hx1;have HY1:=Lib.hid hy1;have HRO:=Lib.hid hrot;clear hx1 hy1 hrot
     have i1:IntKind.i64.wrap ((k:Int) - 1)=(k:Int) - 1:=IntWalk.i64_in _ (by omega)
     have i2:(0:Int)≤(k:Int) - 1:=by omega
     have i2':(1:Int)≤(k:Int):=by omega
     have i2'':1≤k:=by omega
     have i3:((k:Int) - 1).toNat=k - 1:=by omega
     have i4:(k:Int) - 1 < (d.length:Int):=by omega
     have hne:¬(k - 1=k):=by omega
     go_wp2
     go_region
     go_wp2
     go_roundw
     case rel=>
      refine ⟨k - 1,Srt.swp d1 (k - 1) k x1 y1,by omega,by omega,by go_num,?_,?_,?_⟩
      ·have:=Srt.rot_cons (d:=d) (d1:=d1) (k:=k - 1) (m:=m) (x:=x1) (y:=y1) (by rw [show k - 1+1=k by omega];exact HRO.out) (by omega) HX1.out (by rw [show k - 1+1=k by omega];exact HY1.out)
       rw [show k - 1+1=k by omega] at this;exact this
      ·rw [Srt.swp,List.set_comm _ _ (by omega)]
       exact (Row.set (hR2.set (i:=k) (by rw [HRO.out.1];omega) x1) (i:=k - 1) (by rw [List.length_set,HRO.out.1];omega) y1).drew
      ·exact grownR_drew (grown_row (grown_row hg2 _ _) _ _)
     case measure=>simp [intOf];omega
    ·obtain rfl:i=k:=by omega
     have HRO:=Lib.hid hrot;clear hrot
     go_wp2
     go_end0
     exact ⟨rfl,d1,Srt.Done.right HRO.out hj hi hm HS.out HLO.out HHI.out,hR2,hg2⟩
end Go.Proofs.YtkhmjidaeliccaaGreatDoor
namespace Go.Proofs.YtkhmjidaeliccaaGreatDoor
open Go.RowKit
theorem sym_step (b B off n c p m y:Nat) (e:TypeId) (key:Int→Int) (d:List Int) (pre post:List Value) (w:World)
  (ih:∀(p' m' y':Nat) (d':List Int) (w':World),Row w' b off e pre post d'→d'.length=n→p' < m'→m' < y'→y'≤n→n≤1099511627776→Cmps b B w' key→Srt.SortedOn key d' p' m'→Srt.SortedOn key d' m' y'→y' - p' < y - p→
   Calls Tryz.prog 192 #[.slice (some ⟨b,off,none⟩) n c,.int .i64 p',.int .i64 m',.int .i64 y',(.func (.func 123) #[] #[.pointer (some ⟨B,0,none⟩)])] w' (RetRow (fun d''=>Srt.Done key d' d'' p' y') b off e pre post w'))
  (hR:Row w b off e pre post d) (hn:d.length=n) (hpm:p < m) (hmy:m < y) (hy:y≤n) (hbig:n≤1099511627776) (hC:Cmps b B w key) (hs1:Srt.SortedOn key d p m) (hs2:Srt.SortedOn key d m y)
  (hp1:¬m=p+1) (hy1:¬y=m+1) :
  Calls Tryz.prog 192 #[.slice (some ⟨b,off,none⟩) n c,.int .i64 p,.int .i64 m,.int .i64 y,(.func (.func 123) #[] #[.pointer (some ⟨B,0,none⟩)])] w (RetRow (fun d'=>Srt.Done key d d' p y) b off e pre post w):=by
 subst hn
 have HC:=Lib.hid hC;have HS1:=Lib.hid hs1;have HS2:=Lib.hid hs2;have IH:=Lib.hid ih
 clear hC hs1 hs2 ih
 have e1:((m:Int) - (p:Int)==1)=false:=by simp;omega
 have e2:((y:Int) - (m:Int)==1)=false:=by simp;omega
 obtain ⟨M,hM,hMn,hM1,hM2⟩:∃M:Nat,((p:Int)+(y:Int)) / 2=(M:Int)∧(p+y) / 2=M∧p < M∧M < y:=⟨(p+y) / 2,by omega,rfl,by omega,by omega⟩
 have hMa:2*M≤p+y:=by omega
 have hMb:p+y≤2*M+1:=by omega
 by_cases hmm:M < m
 ·obtain ⟨s0,hz,hz'⟩:∃s0:Nat,(M:Int)+(m:Int) - (y:Int)=(s0:Int)∧s0=M+m - y:=⟨M+m - y,by omega,rfl⟩
  have hdm:decide (M < m)=true:=by simpa using hmm
  go_enter Tryz.func192,Tryz.ntmps192
  have HMN0:=Lib.hid hMn;have HZ0:=Lib.hid hz'
  clear hMn hz'
  go_wp2_with fail
  clear hM hz
  have hMn:=HMN0.out
  have hz1:s0+y=M+m:=by have:=HZ0.out;omega
  clear HMN0
  go_loopw [20,21] (fun u v wr=>∃st r:Nat,s0≤st∧st≤r∧r≤M∧u=.int .i64 st∧v=.int .i64 r∧(∀c,s0≤c→c < st→Srt.kf key d c≤Srt.kf key d (M+m - 1 - c))∧(∀c,r≤c→c < M→Srt.kf key d (M+m - 1 - c) < Srt.kf key d c)∧
    Row wr b off e pre post d∧w.grownBy wr (some b)) (fun u v _=>(intOf v).toNat - (intOf u).toNat)
  case atStart=>exact ⟨s0,M,Nat.le_refl _,by omega,Nat.le_refl _,rfl,rfl,fun t h1 h2=>by omega,fun t h1 h2=>by omega,hR,grownR_refl _ _⟩
  case round=>
   obtain ⟨st,r,hs1,hsr,hs2,rfl,rfl,hyes,hno,hR2,hg2⟩:=hrel
   have HYES:=Lib.hid hyes;have HNO:=Lib.hid hno;clear hyes hno
   by_cases hlt:st < r
   ·obtain ⟨h,hh,h1,h2,h3⟩:∃h:Nat,((st:Int)+(r:Int)) / 2=(h:Int)∧st≤h∧h < r∧h < d.length:=⟨(st+r) / 2,by omega,by omega,by omega,by omega⟩
    obtain ⟨g,hg0,hgn⟩:∃g:Nat,g=M+m - 1 - h∧g < d.length:=⟨M+m - 1 - h,rfl,by omega⟩
    obtain ⟨x,hx⟩:=get_of_lt (d:=d) (i:=h) h3
    obtain ⟨z,hz⟩:=get_of_lt (d:=d) (i:=g) hgn
    have cx:=hR2.cell hx
    have cz:=hR2.cell hz
    have HX:=Lib.hid hx;have HZ:=Lib.hid hz
    have C:=Lib.hid (fun W hW=>HC.out W hW z x)
    have i0:(M:Int)+(m:Int) - 1 - (h:Int)=(g:Int):=by omega
    have i1:IntKind.i64.wrap ((M:Int)+(m:Int) - 1 - (h:Int))=(g:Int):=by rw [i0];exact IntWalk.i64_in _ (by omega)
    have i1':IntKind.i64.wrap (g:Int)=(g:Int):=IntWalk.i64_in _ (by omega)
    have HG:=Lib.hid hg0;have HMN:=Lib.hid hMn
    clear hx hz hg0 hMn
    go_wp2_with fail
    clear hh
    refine wp_region_still_tail 11 (by kernel_rfl) (by kernel_rfl) ?_
    simp only [List.take_succ_cons,List.take_zero,List.drop_succ_cons,List.drop_zero]
    change wpStill _ _ wr.drew _ _ _
    repeat still_step
    refine wpStill_nil ?_
    change wpList _ _ _ _ _ wr.drew
    clear i0 i1 i1'
    go_wp2_with fail
    refine (C.out _ (grownR_drew hg2)).mono ?_
    rintro e w3 ⟨cc,rfl,hcc,hb3⟩
    have hR3:=(hR2.drew).below hb3
    have hg3:=grownR_below (grownR_drew hg2) hb3
    clear hR2 hg2 hb3 cx cz
    by_cases hkey:key z < key x
    ·have hneg:decide (cc < 0)=true:=by simpa using hcc.2 hkey
     clear hcc
     go_wp2
     go_roundw
     case rel=>
      refine ⟨st,h,by omega,by omega,by omega,rfl,rfl,HYES.out,fun t g1 g2=>?_,hR3,hg3⟩
      have hgg:=HG.out
      have kz:Srt.kf key d (M+m - 1 - h)=key z:=by rw [←hgg];exact Srt.kf_some HZ.out
      have kx:=Srt.kf_some (key:=key) HX.out
      by_cases et:t < r
      ·have k1:=HS1.out.le (i:=h) (j:=t) (by omega) g1 (by omega)
       have k2:=HS2.out.le (i:=M+m - 1 - t) (j:=M+m - 1 - h) (by omega) (by omega) (by omega)
       omega
      ·exact HNO.out t (by omega) g2
     case measure=>simp [intOf];omega
    ·have hneg:decide (cc < 0)=false:=by simpa using fun g=>hkey (hcc.1 g)
     clear hcc
     go_wp2
     go_roundw
     case rel=>
      refine ⟨h+1,r,by omega,by omega,by omega,by go_num,rfl,fun t g1 g2=>?_,HNO.out,hR3,hg3⟩
      have hgg:=HG.out
      have kz:Srt.kf key d (M+m - 1 - h)=key z:=by rw [←hgg];exact Srt.kf_some HZ.out
      have kx:=Srt.kf_some (key:=key) HX.out
      by_cases et:st≤t
      ·have k1:=HS1.out.le (i:=t) (j:=h) (by omega) (by omega) (by omega)
       have k2:=HS2.out.le (i:=M+m - 1 - h) (j:=M+m - 1 - t) (by omega) (by omega) (by omega)
       omega
      ·exact HYES.out t g1 (by omega)
     case measure=>simp [intOf];omega
   ·obtain rfl:st=r:=by omega
    have f:=Srt.found_of (key:=key) (d:=d) (a:=p) (m:=m) (b:=y) (st:=st) (s0:=s0) (r0:=M) hpm HS1.out HS2.out (by rw [hMn];exact .inl ⟨hmm,HZ0.out,rfl⟩) hs1 hs2 (by rw [hMn];exact HYES.out) (by rw [hMn];exact HNO.out)
    obtain ⟨E,hE,hE'⟩:∃E:Nat,((M:Int)+(m:Int)) - (st:Int)=(E:Int)∧M+m - st=E:=⟨M+m - st,by omega,rfl⟩
    have hM':=hMn
    by_cases hrr:st < m∧m < E
    ·obtain ⟨hr1,hr2⟩:=hrr
     have hEy:E≤y:=by rw [←hE',←hMn];exact f.en2
     have C:=Lib.hid (rotate_any b off d.length c st m E e (.func (.func 123) #[] #[.pointer (some ⟨B,0,none⟩)]) d pre post wr hR2 rfl hr1 hr2 (by omega) hbig)
     have F0:=Lib.hid f;have HMM0:=Lib.hid hM';have HEE0:=Lib.hid hE'
     clear f hM' hE' hMn
     go_wp2_with fail
     all_goals
      refine C.out.mono ?_
      rintro e W1 ⟨rfl,d1,hrot0,hR1,hg1x⟩
      have hg1:=grownR_trans hg2 hg1x
      have f:=F0.out;have hM':=HMM0.out;have hE':=HEE0.out
      have hrot:Srt.Rot d d1 st m ((p+y) / 2+m - st):=by rw [hM',hE'];exact hrot0
      clear hrot0 hg1x hR2 hg2 C F0 HMM0 HEE0
      obtain ⟨q1,q2,q3,q4,q5,q6,q7⟩:=f.halves hy HS1.out HS2.out hrot
      rw [hM'] at q4 q7
      rw [hM',hE'] at q5 q6
      have Q1:=Lib.hid q1;have Q2:=Lib.hid q2;have Q3:=Lib.hid q3;have Q4:=Lib.hid q4;have Q5:=Lib.hid q5;have Q6:=Lib.hid q6;have Q7:=Lib.hid q7;have F:=Lib.hid f;have HMM:=Lib.hid hM';have HEE:=Lib.hid hE'
      have hn1:d1.length=d.length:=q1.1
      have HN1:=Lib.hid hn1
      have f1:=f.lo;have f2:=f.hi
      have f3:m≤E:=by rw [←hE',←hM'];exact f.en
      have f4:E≤y:=by rw [←hE',←hM'];exact f.en2
      have f5:st≤M:=by rw [←hM'];exact f.mid
      clear q1 q2 q3 q4 q5 q6 q7 f hM' hE' hrot hn1
      by_cases hll:p < st∧st < M
      ·obtain ⟨hl1,hl2⟩:=hll
       have C:=Lib.hid (IH.out p st M d1 W1 hR1 HN1.out hl1 hl2 (by omega) hbig (HC.out.later hg1) Q3.out Q4.out (by omega))
       go_wp2_with fail
       all_goals
        refine C.out.mono ?_
        rintro e W2 ⟨rfl,d2,hD2,hR2,hg2x⟩
        have hg2:=grownR_trans hg1 hg2x
        have hl:=Srt.left_done Q3.out Q4.out (fun _=>hD2) (fun h=>absurd ⟨hl1,hl2⟩ h) f1 f5
        clear hD2 hg2x hR1 hg1
        have s1:Srt.SortedOn key d2 M E:=Q5.out.same hl.1 (.inr (Nat.le_refl _))
        have s2:Srt.SortedOn key d2 E y:=Q6.out.same hl.1 (.inr (by omega))
        have hn2:d2.length=d.length:=by rw [hl.1.1,HN1.out]
        have HL:=Lib.hid hl;have S1:=Lib.hid s1;have S2:=Lib.hid s2;have HN:=Lib.hid hn2
        clear hl s1 s2 hn2
        by_cases hrr:M < E∧E < y
        ·obtain ⟨hr1,hr2⟩:=hrr
         have C:=Lib.hid (IH.out M E y d2 W2 hR2 HN.out hr1 hr2 hy hbig (HC.out.later hg2) S1.out S2.out (by omega))
         go_wp2_with fail
         all_goals
          refine C.out.mono ?_
          rintro e W3 ⟨rfl,d3,hD3,hR3,hg3⟩
          go_wp2_with fail
          go_end0
          exact ⟨rfl,d3,Srt.both_done (by omega) (by omega) hy Q1.out Q2.out Q7.out HL.out hD3,hR3,grownR_trans hg2 hg3⟩
        ·have hD3:Srt.Done key d2 d2 M y:=by
          refine Srt.Done.refl_of ?_
          by_cases e9:M < E
          ·obtain rfl:E=y:=by omega
           exact S1.out
          ·obtain rfl:M=E:=by omega
           exact S2.out
         have HD3:=Lib.hid hD3
         have hr0:¬(M < E)∨¬(E < y):=by omega
         clear hD3 hrr
         rcases hr0 with hr0 | hr0
         all_goals
          go_wp2_with fail
          all_goals
           go_end0
           exact ⟨rfl,d2,Srt.both_done (by omega) (by omega) hy Q1.out Q2.out Q7.out HL.out HD3.out,hR2,hg2⟩
      ·have hl0:¬(p < st)∨¬(st < M):=by omega
       have hl:=Srt.left_done (d2:=d1) Q3.out Q4.out (fun h=>absurd h hll) (fun _=>rfl) f1 f5
       clear hll
       obtain ⟨d2,rfl⟩:∃d2,d2=d1:=⟨_,rfl⟩
       obtain ⟨W2,rfl⟩:∃W2:World,W2=W1:=⟨_,rfl⟩
       have hR2:=hR1
       have hg2:=hg1
       clear hR1 hg1
       rcases hl0 with hl0 | hl0
       all_goals
        have s1:Srt.SortedOn key d2 M E:=Q5.out.same hl.1 (.inr (Nat.le_refl _))
        have s2:Srt.SortedOn key d2 E y:=Q6.out.same hl.1 (.inr (by omega))
        have hn2:d2.length=d.length:=by rw [hl.1.1,HN1.out]
        have HL:=Lib.hid hl;have S1:=Lib.hid s1;have S2:=Lib.hid s2;have HN:=Lib.hid hn2
        clear hl s1 s2 hn2
        by_cases hrr:M < E∧E < y
        ·obtain ⟨hr1,hr2⟩:=hrr
         have C:=Lib.hid (IH.out M E y d2 W2 hR2 HN.out hr1 hr2 hy hbig (HC.out.later hg2) S1.out S2.out (by omega))
         go_wp2_with fail
         all_goals
          refine C.out.mono ?_
          rintro e W3 ⟨rfl,d3,hD3,hR3,hg3⟩
          go_wp2_with fail
          go_end0
          exact ⟨rfl,d3,Srt.both_done (by omega) (by omega) hy Q1.out Q2.out Q7.out HL.out hD3,hR3,grownR_trans hg2 hg3⟩
        ·have hD3:Srt.Done key d2 d2 M y:=by
          refine Srt.Done.refl_of ?_
          by_cases e9:M < E
          ·obtain rfl:E=y:=by omega
           exact S1.out
          ·obtain rfl:M=E:=by omega
           exact S2.out
         have HD3:=Lib.hid hD3
         have hr0:¬(M < E)∨¬(E < y):=by omega
         clear hD3 hrr
         rcases hr0 with hr0 | hr0
         all_goals
          go_wp2_with fail
          all_goals
           go_end0
           exact ⟨rfl,d2,Srt.both_done (by omega) (by omega) hy Q1.out Q2.out Q7.out HL.out HD3.out,hR2,hg2⟩
    ·have hr0:¬(st < m)∨¬(m < E):=by omega
     have hrot:Srt.Rot d d st m ((p+y) / 2+m - st):=Srt.rot_triv f.hi f.en (by have:=f.hi;have:=f.en;rw [hM',hE'] at *;omega)
     clear hrr hMn
     obtain ⟨d1,hd1⟩:∃d1,d1=d:=⟨_,rfl⟩
     obtain ⟨W1,rfl⟩:∃W1:World,W1=wr:=⟨_,rfl⟩
     have hR1:=hR2
     have hg1:=hg2
     rw [←hd1] at hR1
     have hrot1:Srt.Rot d d1 st m ((p+y) / 2+m - st):=by rw [hd1];exact hrot
     clear hrot hR2 hg2 hd1
     have hrot:=hrot1
     clear hrot1
     rcases hr0 with hr0 | hr0
     all_goals
      obtain ⟨q1,q2,q3,q4,q5,q6,q7⟩:=f.halves hy HS1.out HS2.out hrot
      rw [hM'] at q4 q7
      rw [hM',hE'] at q5 q6
      have Q1:=Lib.hid q1;have Q2:=Lib.hid q2;have Q3:=Lib.hid q3;have Q4:=Lib.hid q4;have Q5:=Lib.hid q5;have Q6:=Lib.hid q6;have Q7:=Lib.hid q7;have F:=Lib.hid f;have HMM:=Lib.hid hM';have HEE:=Lib.hid hE'
      have hn1:d1.length=d.length:=q1.1
      have HN1:=Lib.hid hn1
      have f1:=f.lo;have f2:=f.hi
      have f3:m≤E:=by rw [←hE',←hM'];exact f.en
      have f4:E≤y:=by rw [←hE',←hM'];exact f.en2
      have f5:st≤M:=by rw [←hM'];exact f.mid
      clear q1 q2 q3 q4 q5 q6 q7 f hM' hE' hrot hn1
      by_cases hll:p < st∧st < M
      ·obtain ⟨hl1,hl2⟩:=hll
       have C:=Lib.hid (IH.out p st M d1 W1 hR1 HN1.out hl1 hl2 (by omega) hbig (HC.out.later hg1) Q3.out Q4.out (by omega))
       go_wp2_with fail
       all_goals
        refine C.out.mono ?_
        rintro e W2 ⟨rfl,d2,hD2,hR2,hg2x⟩
        have hg2:=grownR_trans hg1 hg2x
        have hl:=Srt.left_done Q3.out Q4.out (fun _=>hD2) (fun h=>absurd ⟨hl1,hl2⟩ h) f1 f5
        clear hD2 hg2x hR1 hg1
        have s1:Srt.SortedOn key d2 M E:=Q5.out.same hl.1 (.inr (Nat.le_refl _))
        have s2:Srt.SortedOn key d2 E y:=Q6.out.same hl.1 (.inr (by omega))
        have hn2:d2.length=d.length:=by rw [hl.1.1,HN1.out]
        have HL:=Lib.hid hl;have S1:=Lib.hid s1;have S2:=Lib.hid s2;have HN:=Lib.hid hn2
        clear hl s1 s2 hn2
        by_cases hrr:M < E∧E < y
        ·obtain ⟨hr1,hr2⟩:=hrr
         have C:=Lib.hid (IH.out M E y d2 W2 hR2 HN.out hr1 hr2 hy hbig (HC.out.later hg2) S1.out S2.out (by omega))
         go_wp2_with fail
         all_goals
          refine C.out.mono ?_
          rintro e W3 ⟨rfl,d3,hD3,hR3,hg3⟩
          go_wp2_with fail
          go_end0
          exact ⟨rfl,d3,Srt.both_done (by omega) (by omega) hy Q1.out Q2.out Q7.out HL.out hD3,hR3,grownR_trans hg2 hg3⟩
        ·have hD3:Srt.Done key d2 d2 M y:=by
          refine Srt.Done.refl_of ?_
          by_cases e9:M < E
          ·obtain rfl:E=y:=by omega
           exact S1.out
          ·obtain rfl:M=E:=by omega
           exact S2.out
         have HD3:=Lib.hid hD3
         have hr0:¬(M < E)∨¬(E < y):=by omega
         clear hD3 hrr
         rcases hr0 with hr0 | hr0
         all_goals
          go_wp2_with fail
          all_goals
           go_end0
           exact ⟨rfl,d2,Srt.both_done (by omega) (by omega) hy Q1.out Q2.out Q7.out HL.out HD3.out,hR2,hg2⟩
      ·have hl0:¬(p < st)∨¬(st < M):=by omega
       have hl:=Srt.left_done (d2:=d1) Q3.out Q4.out (fun h=>absurd h hll) (fun _=>rfl) f1 f5
       clear hll
       obtain ⟨d2,rfl⟩:∃d2,d2=d1:=⟨_,rfl⟩
       obtain ⟨W2,rfl⟩:∃W2:World,W2=W1:=⟨_,rfl⟩
       have hR2:=hR1
       have hg2:=hg1
       clear hR1 hg1
       rcases hl0 with hl0 | hl0
       all_goals
        have s1:Srt.SortedOn key d2 M E:=Q5.out.same hl.1 (.inr (Nat.le_refl _))
        have s2:Srt.SortedOn key d2 E y:=Q6.out.same hl.1 (.inr (by omega))
        have hn2:d2.length=d.length:=by rw [hl.1.1,HN1.out]
        have HL:=Lib.hid hl;have S1:=Lib.hid s1;have S2:=Lib.hid s2;have HN:=Lib.hid hn2
        clear hl s1 s2 hn2
        by_cases hrr:M < E∧E < y
        ·obtain ⟨hr1,hr2⟩:=hrr
         have C:=Lib.hid (IH.out M E y d2 W2 hR2 HN.out hr1 hr2 hy hbig (HC.out.later hg2) S1.out S2.out (by omega))
         go_wp2_with fail
         all_goals
          refine C.out.mono ?_
          rintro e W3 ⟨rfl,d3,hD3,hR3,hg3⟩
          go_wp2_with fail
          go_end0
          exact ⟨rfl,d3,Srt.both_done (by omega) (by omega) hy Q1.out Q2.out Q7.out HL.out hD3,hR3,grownR_trans hg2 hg3⟩
        ·have hD3:Srt.Done key d2 d2 M y:=by
          refine Srt.Done.refl_of ?_
          by_cases e9:M < E
          ·obtain rfl:E=y:=by omega
           exact S1.out
          ·obtain rfl:M=E:=by omega
           exact S2.out
         have HD3:=Lib.hid hD3
         have hr0:¬(M < E)∨¬(E < y):=by omega
         clear hD3 hrr
         rcases hr0 with hr0 | hr0
         all_goals
          go_wp2_with fail
          all_goals
           go_end0
           exact ⟨rfl,d2,Srt.both_done (by omega) (by omega) hy Q1.out Q2.out Q7.out HL.out HD3.out,hR2,hg2⟩
 ·go_enter Tryz.func192,Tryz.ntmps192
  have HMN0:=Lib.hid hMn
  clear hMn
  go_wp2_with fail
  clear hM
  have hMn:=HMN0.out
  clear HMN0
  go_loopw [20,21] (fun u v wr=>∃st r:Nat,p≤st∧st≤r∧r≤m∧u=.int .i64 st∧v=.int .i64 r∧(∀c,p≤c→c < st→Srt.kf key d c≤Srt.kf key d (M+m - 1 - c))∧(∀c,r≤c→c < m→Srt.kf key d (M+m - 1 - c) < Srt.kf key d c)∧
    Row wr b off e pre post d∧w.grownBy wr (some b)) (fun u v _=>(intOf v).toNat - (intOf u).toNat)
  case atStart=>exact ⟨p,m,Nat.le_refl _,by omega,Nat.le_refl _,rfl,rfl,fun t h1 h2=>by omega,fun t h1 h2=>by omega,hR,grownR_refl _ _⟩
  case round=>
   obtain ⟨st,r,hs1,hsr,hs2,rfl,rfl,hyes,hno,hR2,hg2⟩:=hrel
   have HYES:=Lib.hid hyes;have HNO:=Lib.hid hno;clear hyes hno
   by_cases hlt:st < r
   ·obtain ⟨h,hh,h1,h2,h3⟩:∃h:Nat,((st:Int)+(r:Int)) / 2=(h:Int)∧st≤h∧h < r∧h < d.length:=⟨(st+r) / 2,by omega,by omega,by omega,by omega⟩
    obtain ⟨g,hg0,hgn⟩:∃g:Nat,g=M+m - 1 - h∧g < d.length:=⟨M+m - 1 - h,rfl,by omega⟩
    obtain ⟨x,hx⟩:=get_of_lt (d:=d) (i:=h) h3
    obtain ⟨z,hz⟩:=get_of_lt (d:=d) (i:=g) hgn
    have cx:=hR2.cell hx
    have cz:=hR2.cell hz
    have HX:=Lib.hid hx;have HZ:=Lib.hid hz
    have C:=Lib.hid (fun W hW=>HC.out W hW z x)
    have i0:(M:Int)+(m:Int) - 1 - (h:Int)=(g:Int):=by omega
    have i1:IntKind.i64.wrap ((M:Int)+(m:Int) - 1 - (h:Int))=(g:Int):=by rw [i0];exact IntWalk.i64_in _ (by omega)
    have i1':IntKind.i64.wrap (g:Int)=(g:Int):=IntWalk.i64_in _ (by omega)
    have HG:=Lib.hid hg0;have HMN:=Lib.hid hMn
    clear hx hz hg0 hMn
    go_wp2_with fail
    clear hh
    refine wp_region_still_tail 11 (by kernel_rfl) (by kernel_rfl) ?_
    simp only [List.take_succ_cons,List.take_zero,List.drop_succ_cons,List.drop_zero]
    change wpStill _ _ wr.drew _ _ _
    repeat still_step
    refine wpStill_nil ?_
    change wpList _ _ _ _ _ wr.drew
    clear i0 i1 i1'
    go_wp2_with fail
    refine (C.out _ (grownR_drew hg2)).mono ?_
    rintro e w3 ⟨cc,rfl,hcc,hb3⟩
    have hR3:=(hR2.drew).below hb3
    have hg3:=grownR_below (grownR_drew hg2) hb3
    clear hR2 hg2 hb3 cx cz
    by_cases hkey:key z < key x
    ·have hneg:decide (cc < 0)=true:=by simpa using hcc.2 hkey
     clear hcc
     go_wp2
     go_roundw
     case rel=>
      refine ⟨st,h,by omega,by omega,by omega,rfl,rfl,HYES.out,fun t g1 g2=>?_,hR3,hg3⟩
      have hgg:=HG.out
      have kz:Srt.kf key d (M+m - 1 - h)=key z:=by rw [←hgg];exact Srt.kf_some HZ.out
      have kx:=Srt.kf_some (key:=key) HX.out
      by_cases et:t < r
      ·have k1:=HS1.out.le (i:=h) (j:=t) (by omega) g1 (by omega)
       have k2:=HS2.out.le (i:=M+m - 1 - t) (j:=M+m - 1 - h) (by omega) (by omega) (by omega)
       omega
      ·exact HNO.out t (by omega) g2
     case measure=>simp [intOf];omega
    ·have hneg:decide (cc < 0)=false:=by simpa using fun g=>hkey (hcc.1 g)
     clear hcc
     go_wp2
     go_roundw
     case rel=>
      refine ⟨h+1,r,by omega,by omega,by omega,by go_num,rfl,fun t g1 g2=>?_,HNO.out,hR3,hg3⟩
      have hgg:=HG.out
      have kz:Srt.kf key d (M+m - 1 - h)=key z:=by rw [←hgg];exact Srt.kf_some HZ.out
      have kx:=Srt.kf_some (key:=key) HX.out
      by_cases et:st≤t
      ·have k1:=HS1.out.le (i:=t) (j:=h) (by omega) (by omega) (by omega)
       have k2:=HS2.out.le (i:=M+m - 1 - h) (j:=M+m - 1 - t) (by omega) (by omega) (by omega)
       omega
      ·exact HYES.out t g1 (by omega)
     case measure=>simp [intOf];omega
   ·obtain rfl:st=r:=by omega
    have f:=Srt.found_of (key:=key) (d:=d) (a:=p) (m:=m) (b:=y) (st:=st) (s0:=p) (r0:=m) hpm HS1.out HS2.out (by rw [hMn];exact .inr ⟨by omega,rfl,rfl⟩) hs1 hs2 (by rw [hMn];exact HYES.out) (by rw [hMn];exact HNO.out)
    obtain ⟨E,hE,hE'⟩:∃E:Nat,((M:Int)+(m:Int)) - (st:Int)=(E:Int)∧M+m - st=E:=⟨M+m - st,by omega,rfl⟩
    have hM':=hMn
    by_cases hrr:st < m∧m < E
    ·obtain ⟨hr1,hr2⟩:=hrr
     have hEy:E≤y:=by rw [←hE',←hMn];exact f.en2
     have C:=Lib.hid (rotate_any b off d.length c st m E e (.func (.func 123) #[] #[.pointer (some ⟨B,0,none⟩)]) d pre post wr hR2 rfl hr1 hr2 (by omega) hbig)
     have F0:=Lib.hid f;have HMM0:=Lib.hid hM';have HEE0:=Lib.hid hE'
     clear f hM' hE' hMn
     go_wp2_with fail
     all_goals
      refine C.out.mono ?_
      rintro e W1 ⟨rfl,d1,hrot0,hR1,hg1x⟩
      have hg1:=grownR_trans hg2 hg1x
      have f:=F0.out;have hM':=HMM0.out;have hE':=HEE0.out
      have hrot:Srt.Rot d d1 st m ((p+y) / 2+m - st):=by rw [hM',hE'];exact hrot0
      clear hrot0 hg1x hR2 hg2 C F0 HMM0 HEE0
      obtain ⟨q1,q2,q3,q4,q5,q6,q7⟩:=f.halves hy HS1.out HS2.out hrot
      rw [hM'] at q4 q7
      rw [hM',hE'] at q5 q6
      have Q1:=Lib.hid q1;have Q2:=Lib.hid q2;have Q3:=Lib.hid q3;have Q4:=Lib.hid q4;have Q5:=Lib.hid q5;have Q6:=Lib.hid q6;have Q7:=Lib.hid q7;have F:=Lib.hid f;have HMM:=Lib.hid hM';have HEE:=Lib.hid hE'
      have hn1:d1.length=d.length:=q1.1
      have HN1:=Lib.hid hn1
      have f1:=f.lo;have f2:=f.hi
      have f3:m≤E:=by rw [←hE',←hM'];exact f.en
      have f4:E≤y:=by rw [←hE',←hM'];exact f.en2
      have f5:st≤M:=by rw [←hM'];exact f.mid
      clear q1 q2 q3 q4 q5 q6 q7 f hM' hE' hrot hn1
      by_cases hll:p < st∧st < M
      ·obtain ⟨hl1,hl2⟩:=hll
       have C:=Lib.hid (IH.out p st M d1 W1 hR1 HN1.out hl1 hl2 (by omega) hbig (HC.out.later hg1) Q3.out Q4.out (by omega))
       go_wp2_with fail
       all_goals
        refine C.out.mono ?_
        rintro e W2 ⟨rfl,d2,hD2,hR2,hg2x⟩
        have hg2:=grownR_trans hg1 hg2x
        have hl:=Srt.left_done Q3.out Q4.out (fun _=>hD2) (fun h=>absurd ⟨hl1,hl2⟩ h) f1 f5
        clear hD2 hg2x hR1 hg1
        have s1:Srt.SortedOn key d2 M E:=Q5.out.same hl.1 (.inr (Nat.le_refl _))
        have s2:Srt.SortedOn key d2 E y:=Q6.out.same hl.1 (.inr (by omega))
        have hn2:d2.length=d.length:=by rw [hl.1.1,HN1.out]
        have HL:=Lib.hid hl;have S1:=Lib.hid s1;have S2:=Lib.hid s2;have HN:=Lib.hid hn2
        clear hl s1 s2 hn2
        by_cases hrr:M < E∧E < y
        ·obtain ⟨hr1,hr2⟩:=hrr
         have C:=Lib.hid (IH.out M E y d2 W2 hR2 HN.out hr1 hr2 hy hbig (HC.out.later hg2) S1.out S2.out (by omega))
         go_wp2_with fail
         all_goals
          refine C.out.mono ?_
          rintro e W3 ⟨rfl,d3,hD3,hR3,hg3⟩
          go_wp2_with fail
          go_end0
          exact ⟨rfl,d3,Srt.both_done (by omega) (by omega) hy Q1.out Q2.out Q7.out HL.out hD3,hR3,grownR_trans hg2 hg3⟩
        ·have hD3:Srt.Done key d2 d2 M y:=by
          refine Srt.Done.refl_of ?_
          by_cases e9:M < E
          ·obtain rfl:E=y:=by omega
           exact S1.out
          ·obtain rfl:M=E:=by omega
           exact S2.out
         have HD3:=Lib.hid hD3
         have hr0:¬(M < E)∨¬(E < y):=by omega
         clear hD3 hrr
         rcases hr0 with hr0 | hr0
         all_goals
          go_wp2_with fail
          all_goals
           go_end0
           exact ⟨rfl,d2,Srt.both_done (by omega) (by omega) hy Q1.out Q2.out Q7.out HL.out HD3.out,hR2,hg2⟩
      ·have hl0:¬(p < st)∨¬(st < M):=by omega
       have hl:=Srt.left_done (d2:=d1) Q3.out Q4.out (fun h=>absurd h hll) (fun _=>rfl) f1 f5
       clear hll
       obtain ⟨d2,rfl⟩:∃d2,d2=d1:=⟨_,rfl⟩
       obtain ⟨W2,rfl⟩:∃W2:World,W2=W1:=⟨_,rfl⟩
       have hR2:=hR1
       have hg2:=hg1
       clear hR1 hg1
       rcases hl0 with hl0 | hl0
       all_goals
        have s1:Srt.SortedOn key d2 M E:=Q5.out.same hl.1 (.inr (Nat.le_refl _))
        have s2:Srt.SortedOn key d2 E y:=Q6.out.same hl.1 (.inr (by omega))
        have hn2:d2.length=d.length:=by rw [hl.1.1,HN1.out]
        have HL:=Lib.hid hl;have S1:=Lib.hid s1;have S2:=Lib.hid s2;have HN:=Lib.hid hn2
        clear hl s1 s2 hn2
        by_cases hrr:M < E∧E < y
        ·obtain ⟨hr1,hr2⟩:=hrr
         have C:=Lib.hid (IH.out M E y d2 W2 hR2 HN.out hr1 hr2 hy hbig (HC.out.later hg2) S1.out S2.out (by omega))
         go_wp2_with fail
         all_goals
          refine C.out.mono ?_
          rintro e W3 ⟨rfl,d3,hD3,hR3,hg3⟩
          go_wp2_with fail
          go_end0
          exact ⟨rfl,d3,Srt.both_done (by omega) (by omega) hy Q1.out Q2.out Q7.out HL.out hD3,hR3,grownR_trans hg2 hg3⟩
        ·have hD3:Srt.Done key d2 d2 M y:=by
          refine Srt.Done.refl_of ?_
          by_cases e9:M < E
          ·obtain rfl:E=y:=by omega
           exact S1.out
          ·obtain rfl:M=E:=by omega
           exact S2.out
         have HD3:=Lib.hid hD3
         have hr0:¬(M < E)∨¬(E < y):=by omega
         clear hD3 hrr
         rcases hr0 with hr0 | hr0
         all_goals
          go_wp2_with fail
          all_goals
           go_end0
           exact ⟨rfl,d2,Srt.both_done (by omega) (by omega) hy Q1.out Q2.out Q7.out HL.out HD3.out,hR2,hg2⟩
    ·have hr0:¬(st < m)∨¬(m < E):=by omega
     have hrot:Srt.Rot d d st m ((p+y) / 2+m - st):=Srt.rot_triv f.hi f.en (by have:=f.hi;have:=f.en;rw [hM',hE'] at *;omega)
     clear hrr hMn
     obtain ⟨d1,hd1⟩:∃d1,d1=d:=⟨_,rfl⟩
     obtain ⟨W1,rfl⟩:∃W1:World,W1=wr:=⟨_,rfl⟩
     have hR1:=hR2
     have hg1:=hg2
     rw [←hd1] at hR1
     have hrot1:Srt.Rot d d1 st m ((p+y) / 2+m - st):=by rw [hd1];exact hrot
     clear hrot hR2 hg2 hd1
     have hrot:=hrot1
     clear hrot1
     rcases hr0 with hr0 | hr0
     all_goals
      obtain ⟨q1,q2,q3,q4,q5,q6,q7⟩:=f.halves hy HS1.out HS2.out hrot
      rw [hM'] at q4 q7
      rw [hM',hE'] at q5 q6
      have Q1:=Lib.hid q1;have Q2:=Lib.hid q2;have Q3:=Lib.hid q3;have Q4:=Lib.hid q4;have Q5:=Lib.hid q5;have Q6:=Lib.hid q6;have Q7:=Lib.hid q7;have F:=Lib.hid f;have HMM:=Lib.hid hM';have HEE:=Lib.hid hE'
      have hn1:d1.length=d.length:=q1.1
      have HN1:=Lib.hid hn1
      have f1:=f.lo;have f2:=f.hi
      have f3:m≤E:=by rw [←hE',←hM'];exact f.en
      have f4:E≤y:=by rw [←hE',←hM'];exact f.en2
      have f5:st≤M:=by rw [←hM'];exact f.mid
      clear q1 q2 q3 q4 q5 q6 q7 f hM' hE' hrot hn1
      by_cases hll:p < st∧st < M
      ·obtain ⟨hl1,hl2⟩:=hll
       have C:=Lib.hid (IH.out p st M d1 W1 hR1 HN1.out hl1 hl2 (by omega) hbig (HC.out.later hg1) Q3.out Q4.out (by omega))
       go_wp2_with fail
       all_goals
        refine C.out.mono ?_
        rintro e W2 ⟨rfl,d2,hD2,hR2,hg2x⟩
        have hg2:=grownR_trans hg1 hg2x
        have hl:=Srt.left_done Q3.out Q4.out (fun _=>hD2) (fun h=>absurd ⟨hl1,hl2⟩ h) f1 f5
        clear hD2 hg2x hR1 hg1
        have s1:Srt.SortedOn key d2 M E:=Q5.out.same hl.1 (.inr (Nat.le_refl _))
        have s2:Srt.SortedOn key d2 E y:=Q6.out.same hl.1 (.inr (by omega))
        have hn2:d2.length=d.length:=by rw [hl.1.1,HN1.out]
        have HL:=Lib.hid hl;have S1:=Lib.hid s1;have S2:=Lib.hid s2;have HN:=Lib.hid hn2
        clear hl s1 s2 hn2
        by_cases hrr:M < E∧E < y
        ·obtain ⟨hr1,hr2⟩:=hrr
         have C:=Lib.hid (IH.out M E y d2 W2 hR2 HN.out hr1 hr2 hy hbig (HC.out.later hg2) S1.out S2.out (by omega))
         go_wp2_with fail
         all_goals
          refine C.out.mono ?_
          rintro e W3 ⟨rfl,d3,hD3,hR3,hg3⟩
          go_wp2_with fail
          go_end0
          exact ⟨rfl,d3,Srt.both_done (by omega) (by omega) hy Q1.out Q2.out Q7.out HL.out hD3,hR3,grownR_trans hg2 hg3⟩
        ·have hD3:Srt.Done key d2 d2 M y:=by
          refine Srt.Done.refl_of ?_
          by_cases e9:M < E
          ·obtain rfl:E=y:=by omega
           exact S1.out
          ·obtain rfl:M=E:=by omega
           exact S2.out
         have HD3:=Lib.hid hD3
         have hr0:¬(M < E)∨¬(E < y):=by omega
         clear hD3 hrr
         rcases hr0 with hr0 | hr0
         all_goals
          go_wp2_with fail
          all_goals
           go_end0
           exact ⟨rfl,d2,Srt.both_done (by omega) (by omega) hy Q1.out Q2.out Q7.out HL.out HD3.out,hR2,hg2⟩
      ·have hl0:¬(p < st)∨¬(st < M):=by omega
       have hl:=Srt.left_done (d2:=d1) Q3.out Q4.out (fun h=>absurd h hll) (fun _=>rfl) f1 f5
       clear hll
       obtain ⟨d2,rfl⟩:∃d2,d2=d1:=⟨_,rfl⟩
       obtain ⟨W2,rfl⟩:∃W2:World,W2=W1:=⟨_,rfl⟩
       have hR2:=hR1
       have hg2:=hg1
       clear hR1 hg1
       rcases hl0 with hl0 | hl0
       all_goals
        have s1:Srt.SortedOn key d2 M E:=Q5.out.same hl.1 (.inr (Nat.le_refl _))
        have s2:Srt.SortedOn key d2 E y:=Q6.out.same hl.1 (.inr (by omega))
        have hn2:d2.length=d.length:=by rw [hl.1.1,HN1.out]
        have HL:=Lib.hid hl;have S1:=Lib.hid s1;have S2:=Lib.hid s2;have HN:=Lib.hid hn2
        clear hl s1 s2 hn2
        by_cases hrr:M < E∧E < y
        ·obtain ⟨hr1,hr2⟩:=hrr
         have C:=Lib.hid (IH.out M E y d2 W2 hR2 HN.out hr1 hr2 hy hbig (HC.out.later hg2) S1.out S2.out (by omega))
         go_wp2_with fail
         all_goals
          refine C.out.mono ?_
          rintro e W3 ⟨rfl,d3,hD3,hR3,hg3⟩
          go_wp2_with fail
          go_end0
          exact ⟨rfl,d3,Srt.both_done (by omega) (by omega) hy Q1.out Q2.out Q7.out HL.out hD3,hR3,grownR_trans hg2 hg3⟩
        ·have hD3:Srt.Done key d2 d2 M y:=by
          refine Srt.Done.refl_of ?_
          by_cases e9:M < E
          ·obtain rfl:E=y:=by omega
           exact S1.out
          ·obtain rfl:M=E:=by omega
           exact S2.out
         have HD3:=Lib.hid hD3
         have hr0:¬(M < E)∨¬(E < y):=by omega
         clear hD3 hrr
         rcases hr0 with hr0 | hr0
         all_goals
          go_wp2_with fail
          all_goals
           go_end0
           exact ⟨rfl,d2,Srt.both_done (by omega) (by omega) hy Q1.out Q2.out Q7.out HL.out HD3.out,hR2,hg2⟩
theorem sym_any (b B off n c:Nat) (e:TypeId) (key:Int→Int) (pre post:List Value) (f:Nat):∀(p m y:Nat) (d:List Int) (w:World),y - p≤f→Row w b off e pre post d→d.length=n→p < m→m < y→y≤n→n≤1099511627776→Cmps b B w key→
  Srt.SortedOn key d p m→Srt.SortedOn key d m y→
  Calls Tryz.prog 192 #[.slice (some ⟨b,off,none⟩) n c,.int .i64 p,.int .i64 m,.int .i64 y,(.func (.func 123) #[] #[.pointer (some ⟨B,0,none⟩)])] w (RetRow (fun d'=>Srt.Done key d d' p y) b off e pre post w):=by
 induction f with
 | zero=>intro p m y d w hf _ _ h1 h2;omega
 | succ f ih=>
  intro p m y d w hf hR hn hpm hmy hy hbig hC hs1 hs2
  by_cases h1:m=p+1
  ·subst h1
   have:=symLeft_any b B off n c p y e key d pre post w hR hn hmy hy hbig hC hs2
   rw [show ((p+1:Nat):Int)=(p:Int)+1 by omega]
   exact this
  ·by_cases h2:y=m+1
   ·subst h2
    have:=symRight_any b B off n c p m e key d pre post w hR hn (by omega) hy hbig hC hs1
    rw [show ((m+1:Nat):Int)=(m:Int)+1 by omega]
    exact this
   ·exact sym_step b B off n c p m y e key d pre post w (fun p' m' y' d' w' g1 g2 g3 g4 g5 g6 g7 g8 g9 g10=>ih p' m' y' d' w' (by omega) g1 g2 g3 g4 g5 g6 g7 g8 g9) hR hn hpm hmy hy hbig hC hs1 hs2 h1 h2
end Go.Proofs.YtkhmjidaeliccaaGreatDoor
namespace Go.Proofs.YtkhmjidaeliccaaGreatDoor
open Go.RowKit
theorem stable_any (b B off n c:Nat) (e:TypeId) (key:Int→Int) (d:List Int) (pre post:List Value) (w:World) (hR:Row w b off e pre post d) (hn:d.length=n) (hbig:n≤1099511627776) (hC:Cmps b B w key) :
  Calls Tryz.prog 167 #[.slice (some ⟨b,off,none⟩) n c,.int .i64 n,.func (.func 123) #[] #[.pointer (some ⟨B,0,none⟩)]] w
   (RetRow (fun d'=>Srt.Done key d d' 0 n) b off e pre post w):=by
 subst hn
 have HC:=Lib.hid hC;clear hC
 go_enter Tryz.func167,Tryz.ntmps167
 go_wp2
 go_loopw [7,8] (fun u v wr=>∃(q a:Nat) (d1:List Int),a=q*20∧a≤d.length∧u=.int .i64 a∧v=.int .i64 ((a:Int)+20)∧Srt.Same d d1 0 d.length∧Srt.St key d d1∧Srt.Pf key d1 20 q∧Row wr b off e pre post d1∧w.grownBy wr (some b))
  (fun u _ _=>d.length - (intOf u).toNat)
 case atStart=>exact ⟨0,0,d,rfl,Nat.zero_le _,rfl,rfl,Srt.Same.refl _ _ _,Srt.St.refl _,Srt.Pf.zero,hR,grownR_refl _ _⟩
 case round=>
  obtain ⟨q,a,d1,haq,han,rfl,rfl,hsame,hst,hpf,hR1,hg⟩:=hrel
  have HQ:=Lib.hid haq;have HA:=Lib.hid hsame;have HT:=Lib.hid hst;have HP:=Lib.hid hpf
  clear haq hsame hst hpf
  by_cases hlt:a+20≤d.length
  ·have C:=Lib.hid (insertion_any b B off d.length c a (a+20) e key d1 pre post wr hR1 HA.out.1 (by omega) hlt hbig (HC.out.later hg))
   rw [show ((a+20:Nat):Int)=(a:Int)+20 by omega] at C
   go_wp2_with fail
   refine C.out.mono ?_
   rintro e W1 ⟨rfl,d2,hD,hR2,hg2⟩
   go_wp2_with fail
   go_roundw
   case rel=>
    refine ⟨q+1,a+20,d2,by rw [HQ.out];omega,hlt,by go_num,by go_num,HA.out.trans (hD.1.mono (Nat.zero_le _) hlt),HT.out.trans hD.2.1,?_,hR2,grownR_trans hg hg2⟩
    have:=HQ.out
    subst this
    exact HP.out.succ hD.1 hD.2.2
   case measure=>simp [intOf];omega
  ·have C:=Lib.hid (insertion_any b B off d.length c a d.length e key d1 pre post wr hR1 HA.out.1 han (Nat.le_refl _) hbig (HC.out.later hg))
   go_wp2_with fail
   refine C.out.mono ?_
   rintro e W1 ⟨rfl,d2,hD,hR2,hg2⟩
   have hB0:Srt.Bl key d2 20 0 d.length:=by
    have:=HQ.out
    subst this
    exact Srt.Bl.of_pf HP.out han (by omega) hD.1 hD.2.2
   have HA2:=Lib.hid (HA.out.trans (hD.1.mono (Nat.zero_le _) (Nat.le_refl _)))
   have HT2:=Lib.hid (HT.out.trans hD.2.1)
   have HB:=Lib.hid hB0
   have hg3:=grownR_trans hg hg2
   clear hB0 hD hg hg2 HA HT HP HQ hR1 C
   go_wp2_with fail
   go_loopw [6] (fun u wr=>∃(bs:Nat) (d3:List Int),20≤bs∧bs≤2199023255552∧u=.int .i64 bs∧Srt.Same d d3 0 d.length∧Srt.St key d d3∧Srt.Bl key d3 bs 0 d.length∧Row wr b off e pre post d3∧w.grownBy wr (some b)) (fun u _=>d.length - (intOf u).toNat)
   case atStart=>exact ⟨20,d2,Nat.le_refl _,by omega,rfl,HA2.out,HT2.out,HB.out,hR2,hg3⟩
   case round=>
    obtain ⟨bs,d3,hbs,hbs2,rfl,hsame,hst,hbl,hR3,hg4⟩:=hrel
    have HA3:=Lib.hid hsame;have HT3:=Lib.hid hst;have HB3:=Lib.hid hbl
    clear hsame hst hbl HA2 HT2 HB hR2 hg3
    by_cases hlt2:bs < d.length
    ·obtain ⟨wo,rfl⟩:∃wo:World,wo=wr:=⟨_,rfl⟩
     go_wp2_with fail
     go_loopw [7,8] (fun u v wr=>∃(q a:Nat) (d4:List Int),a=q*(2*bs)∧a≤d.length∧u=.int .i64 a∧v=.int .i64 ((a:Int)+2*(bs:Int))∧Srt.Same d d4 0 d.length∧Srt.St key d d4∧Srt.Pf key d4 (2*bs) q∧Srt.Bl key d4 bs a d.length∧
       Row wr b off e pre post d4∧w.grownBy wr (some b)) (fun u _ _=>d.length - (intOf u).toNat)
     case atStart=>exact ⟨0,0,d3,by simp,Nat.zero_le _,rfl,by go_num,HA3.out,HT3.out,Srt.Pf.zero,HB3.out,hR3,hg4⟩
     case round=>
      obtain ⟨q,a,d4,haq,han,rfl,rfl,hsame,hst,hpf,hbl,hR4,hg5⟩:=hrel
      have HQ:=Lib.hid haq;have HA:=Lib.hid hsame;have HT:=Lib.hid hst;have HP:=Lib.hid hpf;have HB:=Lib.hid hbl
      clear haq hsame hst hpf hbl HA3 HT3 HB3 hR3 hg4
      have s1:Srt.SortedOn key d4 a (min (a+bs) d.length):=HB.out.first
      have s2:Srt.SortedOn key d4 (a+bs) (min (a+bs+bs) d.length):=HB.out.next.first
      have S1:=Lib.hid s1;have S2:=Lib.hid s2;clear s1 s2
      by_cases hlt3:a+2*bs≤d.length
      ·have C:=Lib.hid (sym_any b B off d.length c e key pre post _ a (a+bs) (a+2*bs) d4 wr (Nat.le_refl _) hR4 HA.out.1 (by omega) (by omega) hlt3 hbig (HC.out.later hg5)
        (S1.out.sub (Nat.le_refl _) (by omega)) (S2.out.sub (Nat.le_refl _) (by omega)))
       rw [show ((a+bs:Nat):Int)=(a:Int)+(bs:Int) by omega,show ((a+2*bs:Nat):Int)=(a:Int)+2*(bs:Int) by omega] at C
       go_wp2_with fail
       refine C.out.mono ?_
       rintro e W4 ⟨rfl,d5,hD,hR5,hg6⟩
       go_wp2_with fail
       go_roundw
       case rel=>
        refine ⟨q+1,a+2*bs,d5,by rw [HQ.out,Nat.add_mul,Nat.one_mul],hlt3,by go_num,by go_num,HA.out.trans (hD.1.mono (Nat.zero_le _) hlt3),HT.out.trans hD.2.1,?_,?_,hR5,grownR_trans hg5 hg6⟩
        ·have:=HQ.out
         subst this
         exact HP.out.succ hD.1 hD.2.2
        ·have:=HB.out.next.next
         rw [show a+bs+bs=a+2*bs by omega] at this
         exact this.same hD.1 (Nat.le_refl _)
       case measure=>simp [intOf];omega
      ·by_cases hlt4:a+bs < d.length
       ·have C:=Lib.hid (sym_any b B off d.length c e key pre post _ a (a+bs) d.length d4 wr (Nat.le_refl _) hR4 HA.out.1 (by omega) hlt4 (Nat.le_refl _) hbig (HC.out.later hg5)
         (S1.out.sub (Nat.le_refl _) (by omega)) (S2.out.sub (Nat.le_refl _) (by omega)))
        rw [show ((a+bs:Nat):Int)=(a:Int)+(bs:Int) by omega] at C
        go_wp2_with fail
        refine C.out.mono ?_
        rintro e W4 ⟨rfl,d5,hD,hR5,hg6⟩
        go_wp2_with fail
        go_roundw
        case rel=>
         refine ⟨bs*2,d5,by omega,by omega,by go_num,HA.out.trans (hD.1.mono (Nat.zero_le _) (Nat.le_refl _)),HT.out.trans hD.2.1,?_,hR5,grownR_trans hg5 hg6⟩
         have:=HQ.out
         subst this
         rw [Nat.mul_comm bs 2]
         exact Srt.Bl.of_pf HP.out han (by omega) hD.1 hD.2.2
        case measure=>simp [intOf];omega
       ·go_wp2_with fail
        go_roundw
        case rel=>
         refine ⟨bs*2,d4,by omega,by omega,by go_num,HA.out,HT.out,?_,hR4,hg5⟩
         have:=HQ.out
         subst this
         rw [Nat.mul_comm bs 2]
         exact Srt.Bl.of_pf HP.out han (by omega) (Srt.Same.refl _ _ _) (S1.out.sub (Nat.le_refl _) (by omega))
        case measure=>simp [intOf];omega
    ·go_wp2_with fail
     go_end0
     exact ⟨rfl,d3,⟨HA3.out,HT3.out,HB3.out.all (by omega)⟩,hR3,hg4⟩
theorem SortStable_any (b B off n c:Nat) (e:TypeId) (key:Int→Int) (d:List Int) (pre post:List Value) (w:World) (hR:Row w b off e pre post d) (hn:d.length=n) (hbig:n≤1099511627776) (hC:Cmps b B w key) :
  Calls Tryz.prog 122 #[.slice (some ⟨b,off,none⟩) n c,.func (.func 123) #[] #[.pointer (some ⟨B,0,none⟩)]] w
   (RetRow (fun d'=>Srt.Done key d d' 0 n) b off e pre post w):=by
 have C:=Lib.hid (stable_any b B off n c e key d pre post w hR hn hbig hC)
 clear hR hn hC
 go_enter Tryz.func122,Tryz.ntmps122
 go_wp2_with fail
 refine C.out.mono ?_
 rintro e W4 ⟨rfl,d5,hD,hR5,hg6⟩
 go_wp2_with fail
 go_end0
 exact ⟨rfl,d5,hD,hR5,hg6⟩
end Go.Proofs.YtkhmjidaeliccaaGreatDoor
namespace Go.Proofs.YtkhmjidaeliccaaGreatDoor
open Go.RowKit
theorem sort1_any (B:Nat) (A':Option Addr) (ns ks:Nat) (ss:List Spn) (x y:Int) (W:World) (hc:W.cell? ⟨B,0,none⟩=some (.slice A' ns ks)) (hS:Spans W A' ss) (hns:ss.length=ns) (hb2:ns≤1099511627776) (hasc:Asc ss) :
  Calls Tryz.prog 123 #[.int .i64 x,.int .i64 y,.pointer (some ⟨B,0,none⟩)] W (RetCmpS (cls ss x < cls ss y) W):=by
 have HA:=Lib.hid hasc;clear hasc
 subst hns
 have hlt:B < W.heap.size:=World.block_lt_of_cell? W _ hc
 have hSd:Spans W.drew A' ss:=hS
 go_enter Tryz.func123,Tryz.ntmps123
 go_wp2
 go_region_with (first
  | (go_at_call 124;(with_reducible refine (cmpCompare_any _ _ _).mono ?_);rintro e w' ⟨rfl,rfl⟩)
  | (go_at_call 125;(with_reducible refine (class_any A' ss.length ks ss _ _ hS1 rfl hb2 HA.out).mono ?_);rintro e w2 ⟨rfl,hb2'⟩;clear hS1)
  | (go_at_call 125;(with_reducible refine (class_any A' ss.length ks ss _ _ hSd rfl hb2 HA.out).mono ?_);rintro e w1 ⟨rfl,hb1⟩;have hc1:w1.cell? ⟨B,0,none⟩=some (.slice A' ss.length ks):=(hb1.cell (p:=⟨B,0,none⟩) hlt).trans hc;have hS1:Spans w1 A' ss:=Spans.below (w:=W.drew) hSd hb1))
 all_goals
  go_wp2
  go_ret
  refine ⟨_,rfl,?_,((Below.drew (Below.refl _ W)).trans hb1).trans (hb2'.mono hb1.size)⟩
  unfold cmpI
  split
  ·simp [*]
  ·split <;> simp [*]
theorem cmps_of {b B:Nat} {A':Option Addr} {ns ks:Nat} {ss:List Spn} {w:World} (hc:w.cell? ⟨B,0,none⟩=some (.slice A' ns ks)) (hS:Spans w A' ss) (hns:ss.length=ns) (hb2:ns≤1099511627776) (hasc:Asc ss)
  (hB:B≠b) (hA:ss≠[]→∀o,A'≠some ⟨b,o,none⟩):Cmps b B w (cls ss):=by
 intro W hg x y
 have hcell:∀p:Addr,p.block < w.heap.size→p.block≠b→W.cell? p=w.cell? p:=fun p h1 h2=>World.cell?_of_block (w:=w) (hg.block p.block h1 (fun e=>h2 (by injection e)))
 refine sort1_any B A' ns ks ss x y W ?_ ?_ hns hb2 hasc
 ·rw [hcell _ (World.block_lt_of_cell? w _ hc) hB];exact hc
 ·intro hne
  obtain ⟨b',o',rfl,hcs⟩:=hS hne
  refine ⟨b',o',rfl,fun j u hu=>?_⟩
  have h1:=hcs j u hu
  rw [hcell _ (World.block_lt_of_cell? w _ h1) (by rintro rfl;exact hA (by rintro rfl;exact hne rfl) o' rfl)]
  exact h1
end Go.Proofs.YtkhmjidaeliccaaGreatDoor
namespace Go.Proofs.YtkhmjidaeliccaaGreatDoor
open Go.RowKit Go.Shelf
attribute [local go_sem] Oper.semAt_some
theorem own_row {w:World} {base:Nat} {e:TypeId} {A:Option Addr} {n c:Nat} {d:List Int} (h:w.ownsRow base e 1 (.slice A n c) n (d.map (Value.int .i64))) (hn:0 < n) :
  ∃g post,A=some ⟨g,0,none⟩∧base≤g∧Row w g 0 e [] post d∧d.length=n∧n+post.length=c∧c≤maxLen:=by
 obtain ⟨h1,h2⟩:=h
 rcases h2 with ⟨hv,rfl⟩ | ⟨g,cap,cur,hv,hb,hg,hnc,hcm,hcur,htake⟩
 ·omega
 ·injection hv with hA _ hc
  subst hA;subst hc
  simp only [Nat.mul_one,List.length_map] at *
  refine ⟨g,cur.toList.drop n,rfl,hb,⟨rfl,?_⟩,h1,by simp;omega,hcm⟩
  unfold Blk
  rw [List.nil_append,←htake,List.take_append_drop]
  exact hg
theorem row_own {w:World} {base g n c:Nat} {e:TypeId} {post:List Value} {d:List Int} (h:Row w g 0 e [] post d) (hb:base≤g) (hn:d.length=n) (hc:n+post.length=c) (hcm:c≤maxLen) :
  w.ownsRow base e 1 (.slice (some ⟨g,0,none⟩) n c) n (d.map (Value.int .i64)):=by
 refine ⟨by simp [hn],.inr ⟨g,c,_,rfl,hb,h.2,by omega,hcm,by simp;omega,?_⟩⟩
 simp [←hn]
theorem Row.cut {w:World} {g:Nat} {e:TypeId} {post:List Value} {d:List Int} (h:Row w g 0 e [] post d) {lo hi:Nat} (h1:lo≤hi) (h2:hi≤d.length) :
  Row w g lo e ((d.take lo).map (Value.int .i64)) ((d.drop hi).map (Value.int .i64)++post) ((d.drop lo).take (hi - lo)):=by
 refine ⟨by simp;omega,?_⟩
 have:=h.2
 unfold Blk at this ⊢
 rw [this]
 congr 2
 have hp:=Srt.parts d lo lo hi (Nat.le_refl _) h1
 simp only [Nat.sub_self,List.take_zero,List.nil_append] at hp
 rw [List.nil_append]
 conv=>lhs;rw [hp]
 simp
theorem Row.uncut {w:World} {g lo:Nat} {e:TypeId} {post:List Value} {p s q:List Int} (h:Row w g lo e (p.map (Value.int .i64)) (q.map (Value.int .i64)++post) s):Row w g 0 e [] post (p++s++q):=by
 refine ⟨rfl,?_⟩
 have:=h.2
 unfold Blk at this ⊢
 rw [this]
 simp
theorem rns_in (cl:Int→Int) (l:List Int) (i:Nat) (s:Option Nat) (hs:∀x,s=some x→x < i):∀r ∈ rns cl l i s,r.1 < r.2∧r.2≤i+l.length:=by
 induction l generalizing i s with
 | nil=>
  cases s with
  | none=>intro r hr;cases hr
  | some s=>intro r hr;simp only [rns,List.mem_singleton] at hr;subst hr;have:=hs s rfl;simp;omega
 | cons c t ih=>
  have h1:=ih (i+1) none (fun _ h=>by cases h)
  have h2:=ih (i+1) (some i) (fun x h=>by cases h;omega)
  cases s with
  | none=>
   intro r hr
   simp only [rns] at hr
   simp only [List.length_cons]
   split at hr
   ·have:=h1 r hr;omega
   ·have:=h2 r hr;omega
  | some s=>
   have hs':=hs s rfl
   have h3:=ih (i+1) (some s) (fun x h=>by cases h;omega)
   intro r hr
   simp only [rns] at hr
   simp only [List.length_cons]
   split at hr
   ·simp only [List.mem_cons] at hr
    rcases hr with rfl | hr
    ·simp;omega
    ·have:=h1 r hr;omega
   ·have:=h3 r hr;omega
abbrev RgN (n:Nat):={ x:Nat × Nat // x.1 < x.2∧x.2≤n }
theorem rg_all {n:Nat} (l:List (Nat × Nat)) (h:∀r ∈ l,r.1 < r.2∧r.2≤n):∃all:List (RgN n),all.map (fun x=>x.1)=l:=by
 induction l with
 | nil=>exact ⟨[],rfl⟩
 | cons x l ih=>
  obtain ⟨all,ha⟩:=ih fun r hr=>h r (List.mem_cons_of_mem _ hr)
  exact ⟨⟨x,h x (List.mem_cons_self ..)⟩::all,by rw [List.map_cons,ha]⟩
theorem cell_grown {W W':World} {row:Option Nat} (hg:W.grownBy W' row) (hr:∀r,row=some r→∃o:Obj,W.heap[r]?=some o∧o.isCells=false) {p:Addr} {v:Value} (h:W.cell? p=some v):W'.cell? p=some v:=by
 have hlt:=World.block_lt_of_cell? W p h
 refine (World.cell?_of_block (w:=W) (hg.block p.block hlt fun e=>?_)).trans h
 obtain ⟨o,ho,hc⟩:=hr p.block e.symm
 unfold World.cell? at h
 rw [ho] at h
 cases o with
 | cells c t f=>cases hc
 | _=>simp at h
theorem Sl.grown {W W':World} {row:Option Nat} {A:Option Addr} {cs:List Value} (h:Sl W A cs) (hg:W.grownBy W' row) (hr:∀r,row=some r→∃o:Obj,W.heap[r]?=some o∧o.isCells=false):Sl W' A cs:=by
 intro hne
 obtain ⟨b,o,rfl,hc⟩:=h hne
 exact ⟨b,o,rfl,fun j u hu=>cell_grown hg hr (hc j u hu)⟩
structure SortI (key:Int→Int) (text:List Int) (base Bo Bl:Nat) (A:Option Addr) (n c:Nat) (A1:Option Addr) (n1 k1:Nat) (ts:List Spn) (w:World) (pre:List (Nat × Nat)) (W:World):Prop where
 box:Boxed W Bo 33 (.slice A n c)
 row:∃d,W.ownsRow base 3 1 (.slice A n c) n (d.map (Value.int .i64))∧Srt.Stp key text pre d
 l:W.cell? ⟨Bl,0,none⟩=some (.slice A1 n1 k1)
 sp:Spans W A1 ts
 bel:Below w.heap.size w W
theorem SortI.own {key:Int→Int} {text:List Int} {base Bo Bl:Nat} {A:Option Addr} {n c:Nat} {A1:Option Addr} {n1 k1:Nat} {ts:List Spn} {w:World} {β:Type} (f:β→List (Nat × Nat)) {B:Nat} (hB:w.heap.size≤B) :
  OwnFrom B (fun s W=>SortI key text base Bo Bl A n c A1 n1 k1 ts w (f s) W):=by
 intro s X Y row h hg hr
 have hr':∀r,row=some r→∃o:Obj,X.heap[r]?=some o∧o.isCells=false:=fun r e=>(hr r e).2
 refine ⟨h.box.kept hg (fun e'=>?_),?_,cell_grown hg hr' h.l,Sl.grown h.sp hg hr',?_⟩
 ·obtain ⟨o,ho,hc⟩:=hr' Bo e'.symm
  rw [show X.heap[Bo]?=_ from h.box] at ho;cases ho;cases hc
 ·obtain ⟨d,hd,hs⟩:=h.row
  refine ⟨d,hd.kept hg ?_,hs⟩
  rcases hd.2 with ⟨hv,_⟩ | ⟨g,cap,cur,hv,_,hgb,_⟩
  ·rw [hv];exact .inl rfl
  ·rw [hv]
   refine .inr fun e'=>?_
   obtain ⟨o,ho,hc⟩:=hr' g (by simpa [Value.ownBlock] using e'.symm)
   rw [hgb] at ho;cases ho;cases hc
 ·exact h.bel.grown hg h.bel.size (fun k e=>Nat.le_trans hB (hr k e).1)
theorem SortI.alloc {key:Int→Int} {text:List Int} {base Bo Bl:Nat} {A:Option Addr} {n c:Nat} {A1:Option Addr} {n1 k1:Nat} {ts:List Spn} {w W:World} {pre:List (Nat × Nat)} (h:SortI key text base Bo Bl A n c A1 n1 k1 ts w pre W) (o:Obj):SortI key text base Bo Bl A n c A1 n1 k1 ts w pre (W.alloc o):=
 OwnFrom.alloc (SortI.own (fun s:List (Nat × Nat)=>s) (B:=w.heap.size) (Nat.le_refl _)) (s:=pre) o h
end Go.Proofs.YtkhmjidaeliccaaGreatDoor
