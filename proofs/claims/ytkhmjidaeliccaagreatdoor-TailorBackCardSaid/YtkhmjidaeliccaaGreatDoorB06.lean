/- Texts that are merged into one file: SortFnB, SortPlain2, SortFnC, SortFnD. -/
import Derived.Test.YtkhmjidaeliccaaGreatDoorB03
import Derived.Test.YtkhmjidaeliccaaGreatDoorB05
import Derived.StillTailTactics
import Derived.Deep.RegionWith
import Derived.Deep.QuietTactic
import Derived.BigQuiet
set_option maxRecDepth 100000
set_option maxHeartbeats 51200000
namespace Go.Proofs.YtkhmjidaeliccaaGreatDoor
open Go.RowKit
def RetCmpS (p:Prop) (w:World) (x:Ending) (w':World):Prop:=∃c:Int,x=.returned (.int .i64 c)∧(c < 0 ↔ p)∧Below w.heap.size w w'
def Cmps (b B:Nat) (w0:World) (key:Int→Int):Prop:=
 ∀W,w0.grownBy W (some b)→∀x y:Int,Calls Tryz.prog 123 #[.int .i64 x,.int .i64 y,.pointer (some ⟨B,0,none⟩)] W (RetCmpS (key x < key y) W)
theorem Cmps.later {b B:Nat} {w0 w1:World} {key:Int→Int} (h:Cmps b B w0 key) (hg:w0.grownBy w1 (some b)):Cmps b B w1 key:=fun W hW=>h W (grownR_trans hg hW)
theorem insertion_any (b B off n c p q:Nat) (e:TypeId) (key:Int→Int) (d:List Int) (pre post:List Value) (w:World) (hR:Row w b off e pre post d) (hn:d.length=n)
  (hpq:p≤q) (hq:q≤n) (hbig:n≤1099511627776) (hC:Cmps b B w key) :
  Calls Tryz.prog 191 #[.slice (some ⟨b,off,none⟩) n c,.int .i64 p,.int .i64 q,.func (.func 123) #[] #[.pointer (some ⟨B,0,none⟩)]] w
   (RetRow (fun d'=>Srt.Done key d d' p q) b off e pre post w):=by
 subst hn
 have HC:=Lib.hid hC;clear hC
 go_enter Tryz.func191,Tryz.ntmps191
 go_wp2
 go_loopw [8] (fun i wr=>∃(k:Nat) (d1:List Int),p+1≤k∧(k≤q∨k=p+1)∧i=.int .i64 k∧Srt.Same d d1 p q∧Srt.St key d d1∧Srt.SortedOn key d1 p k∧Row wr b off e pre post d1∧w.grownBy wr (some b)) (fun i _=>q - (intOf i).toNat)
 case atStart=>exact ⟨p+1,d,Nat.le_refl _,.inr rfl,by go_num,Srt.Same.refl _ _ _,Srt.St.refl _,Srt.SortedOn.short (Nat.le_refl _),hR,grownR_refl _ _⟩
 case round=>
  obtain ⟨k,d1,hk1,hk2,rfl,hsame,hst,hso,hR1,hg⟩:=hrel
  have HA:=Lib.hid hsame;have HT:=Lib.hid hst;have HO:=Lib.hid hso
  clear hsame hst hso
  by_cases hlt:k < q
  ·obtain ⟨wo,rfl⟩:∃wo:World,wo=wr:=⟨_,rfl⟩
   go_wp2
   go_loopw [9] (fun i wr=>∃(j:Nat) (d2:List Int),p≤j∧j≤k∧i=.int .i64 j∧Srt.Same d d2 p q∧Srt.St key d d2∧Srt.Ins key d2 p k j∧Row wr b off e pre post d2∧w.grownBy wr (some b)) (fun i _=>(intOf i).toNat)
   case atStart=>exact ⟨k,d1,by omega,Nat.le_refl _,rfl,HA.out,HT.out,Srt.Ins.start HO.out,hR1,hg⟩
   case round=>
    obtain ⟨j,d2,hj1,hj2,rfl,hsame,hst,hins,hR2,hg2⟩:=hrel
    have HA2:=Lib.hid hsame;have HT2:=Lib.hid hst;have HI:=Lib.hid hins
    clear hsame hst hins
    by_cases hpj:p < j
    ·have hjn:j < d.length:=by omega
     obtain ⟨x,hx⟩:=get_of_lt (d:=d2) (i:=j - 1) (by rw [HA2.out.1];omega)
     obtain ⟨y,hy⟩:=get_of_lt (d:=d2) (i:=j) (by rw [HA2.out.1];omega)
     have cx:=hR2.cell hx
     have cy:=hR2.cell hy
     have HX:=Lib.hid hx;have HY:=Lib.hid hy
     have C:=Lib.hid (fun W hW=>HC.out W hW y x)
     clear hx hy
     have i0:decide (p < j)=true:=by simp;omega
     have i1:IntKind.i64.wrap ((j:Int) - 1)=(j:Int) - 1:=IntWalk.i64_in _ (by omega)
     have i2:(0:Int)≤(j:Int) - 1:=by omega
     have i2':(1:Int)≤(j:Int):=by omega
     have i2'':1≤j:=by omega
     have i3:((j:Int) - 1).toNat=j - 1:=by omega
     have i4:(j:Int) - 1 < (d.length:Int):=by omega
     go_wp2
     refine wp_region_still_tail 14 (by kernel_rfl) (by kernel_rfl) ?_
     simp only [List.take_succ_cons,List.take_zero,List.drop_succ_cons,List.drop_zero]
     change wpStill _ _ wr.drew _ _ _
     repeat still_step
     refine wpStill_nil ?_
     change wpList _ _ _ _ _ wr.drew
     go_wp2_with fail
     refine (C.out _ (grownR_drew hg2)).mono ?_
     rintro e w3 ⟨cc,rfl,hcc,hb3⟩
     have hR3:=(hR2.drew).below hb3
     have hg3:=grownR_below (grownR_drew hg2) hb3
     have cx3:=hR3.cell HX.out
     have cy3:=hR3.cell HY.out
     have fx3:=hR3.frozen (off+(j - 1))
     have fy3:=hR3.frozen (off+j)
     clear hR2 hg2 hb3 cx cy
     by_cases hkey:key y < key x
     ·have hneg:cc < 0:=hcc.2 hkey
      clear hcc
      have hne:¬(j - 1=j):=by omega
      go_wp2
      go_region
      go_wp2
      go_roundw
      case rel=>
       refine ⟨j - 1,Srt.swp d2 (j - 1) j x y,by omega,by omega,by go_num,HA2.out.trans (Srt.swp_same HX.out HY.out (by omega) (by omega) (by omega) (by omega) (by omega)),HT2.out.trans ?_,?_,?_,?_⟩
       ·have:=Srt.swp_done (key:=key) (d:=d2) (j:=j - 1) HX.out (by rw [show j - 1+1=j by omega];exact HY.out) hkey
        rw [show j - 1+1=j by omega] at this;exact this
       ·have:=Srt.Ins.step (key:=key) (d:=d2) (a:=p) (i:=k) (j:=j - 1) (x:=x) (y:=y) (by rw [show j - 1+1=j by omega];exact HI.out) (by omega) (by omega) HX.out (by rw [show j - 1+1=j by omega];exact HY.out) hkey
        rw [show j - 1+1=j by omega] at this;exact this
       ·rw [Srt.swp,List.set_comm _ _ (by omega)]
        exact (Row.set (hR3.set (i:=j) (by rw [HA2.out.1];omega) x) (i:=j - 1) (by rw [List.length_set,HA2.out.1];omega) y).drew
       ·exact grownR_drew (grown_row (grown_row hg3 _ _) _ _)
      case measure=>simp [intOf];omega
     ·have hneg:¬cc < 0:=fun h=>hkey (hcc.1 h)
      clear hcc
      go_wp2
      go_roundw
      case rel=>
       refine ⟨k+1,d2,by omega,.inl (by omega),by go_num,HA2.out,HT2.out,HI.out.stop hj1 hj2 (.inr ?_),hR3,hg3⟩
       rw [Srt.kf_some HX.out,Srt.kf_some HY.out];omega
      case measure=>simp [intOf];omega
    ·have i0:decide (p < j)=false:=by simp;omega
     go_wp2
     go_quiet (fail)
     go_wp2
     go_roundw
     case rel=>exact ⟨k+1,d2,by omega,.inl (by omega),by go_num,HA2.out,HT2.out,HI.out.stop hj1 hj2 (.inl (by omega)),hR2.drewN _,grownR_drewN hg2 _⟩
     case measure=>simp [intOf];omega
  ·go_wp2
   go_end0
   refine ⟨rfl,d1,⟨HA.out,HT.out,?_⟩,hR1,hg⟩
   by_cases hkq:q≤k
   ·exact HO.out.sub (Nat.le_refl _) hkq
   ·omega
end Go.Proofs.YtkhmjidaeliccaaGreatDoor
namespace Go.Proofs.YtkhmjidaeliccaaGreatDoor.Srt
section
variable {α:Type} {key:α→Int}
theorem SortedOn.le {d:List α} {a b i j:Nat} (h:SortedOn key d a b) (h1:a≤i) (h2:i≤j) (h3:j < b):kf key d i≤kf key d j:=by
 by_cases e:i=j
 ·subst e;exact Int.le_refl _
 ·exact h i j h1 (by omega) h3
theorem found_of {d:List α} {a m b st s0 r0:Nat} (ham:a < m) (h1:SortedOn key d a m) (h2:SortedOn key d m b)
  (hs:((a+b) / 2 < m∧s0=(a+b) / 2+m - b∧r0=(a+b) / 2)∨(m≤(a+b) / 2∧s0=a∧r0=m))
  (hlo:s0≤st) (hhi:st≤r0) (hyes:∀c,s0≤c→c < st→kf key d c≤kf key d ((a+b) / 2+m - 1 - c)) (hno:∀c,st≤c→c < r0→kf key d ((a+b) / 2+m - 1 - c) < kf key d c) :
  Found key d a m b st:=by
 generalize hM:(a+b) / 2=M at *
 have hM1:2*M≤a+b:=by omega
 have hM2:a+b≤2*M+1:=by omega
 have e1:a≤st:=by omega
 have e2:st≤m:=by omega
 have e3:st≤M:=by omega
 have e4:M+m - st≤b:=by omega
 refine ⟨e1,e2,?_,?_,?_,?_,?_⟩
 ·rw [hM];omega
 ·rw [hM];exact e4
 ·rw [hM];exact e3
 ·intro i j g1 g2 g3 g4
  rw [hM] at g3
  by_cases e:s0 < st
  ·have k1:=hyes (st - 1) (by omega) (by omega)
   rw [show M+m - 1 - (st - 1)=M+m - st by omega] at k1
   have k2:=h1.le (i:=i) (j:=st - 1) g1 (by omega) (by omega)
   have k3:=h2.le (i:=M+m - st) (j:=j) (by omega) g3 g4
   omega
  ·omega
 ·intro i j g1 g2 g3 g4
  rw [hM] at g4
  by_cases e:st < r0
  ·have k1:=hno st (Nat.le_refl _) e
   have k2:=h1.le (i:=st) (j:=i) e1 g1 g2
   have k3:=h2.le (i:=j) (j:=M+m - 1 - st) g3 (by omega) (by omega)
   omega
  ·omega
theorem rot_triv {d:List α} {a m b:Nat} (h1:a≤m) (h2:m≤b) (h:a=m∨m=b):Rot d d a m b:=by
 refine ⟨rfl,fun t=>?_⟩
 (repeat' split) <;> first | rfl | (congr 1;omega)
theorem seg_mem {d d':List α} {a b:Nat} (hs:Same d d' a b) (ht:St key d d') (hab:a≤b) (hb:b≤d.length) {i:Nat} (h1:a≤i) (h2:i < b) :
  ∃i',a≤i'∧i' < b∧d'[i]?=d[i']?:=by
 have p1:=parts d a a b (Nat.le_refl _) hab
 have p2:=parts d' a a b (Nat.le_refl _) hab
 simp only [Nat.sub_self,List.take_zero,List.nil_append] at p1 p2
 have t1:d'.take a=d.take a:=by
  apply List.ext_getElem?
  intro t
  simp only [List.getElem?_take]
  split
  ·exact hs.2 t (by omega)
  ·rfl
 have t2:d'.drop b=d.drop b:=by
  apply List.ext_getElem?
  intro t
  simp only [List.getElem?_drop]
  exact hs.2 _ (by omega)
 rw [t1,t2] at p2
 have hlen:i < d'.length:=by rw [hs.1];omega
 obtain ⟨x,hx⟩:∃x,d'[i]?=some x:=⟨_,List.getElem?_eq_getElem hlen⟩
 have hf:=ht (key x)
 rw [p1,p2] at hf
 simp only [List.filter_append,List.append_assoc,List.append_cancel_left_eq,List.append_cancel_right_eq] at hf
 have hmem:x ∈ ((d'.drop a).take (b - a)).filter (fun y=>key y==key x):=by
  rw [List.mem_filter]
  refine ⟨?_,by simp⟩
  rw [List.mem_iff_getElem?]
  refine ⟨i - a,?_⟩
  rw [List.getElem?_take,if_pos (by omega),List.getElem?_drop,show a+(i - a)=i by omega,hx]
 rw [hf,List.mem_filter] at hmem
 obtain ⟨q,hq⟩:=List.mem_iff_getElem?.1 hmem.1
 rw [List.getElem?_take] at hq
 split at hq
 ·rw [List.getElem?_drop] at hq
  exact ⟨a+q,by omega,by omega,by rw [hx,hq]⟩
 ·cases hq
theorem seg_kf {d d':List α} {a b:Nat} (hs:Same d d' a b) (ht:St key d d') (hab:a≤b) (hb:b≤d.length) {i:Nat} (h1:a≤i) (h2:i < b) :
  ∃i',a≤i'∧i' < b∧kf key d' i=kf key d i':=by
 obtain ⟨i',g1,g2,g3⟩:=seg_mem hs ht hab hb h1 h2
 exact ⟨i',g1,g2,by unfold kf;rw [g3]⟩
theorem Done.refl_of {d:List α} {a b:Nat} (h:SortedOn key d a b):Done key d d a b:=⟨Same.refl _ _ _,St.refl _,h⟩
theorem left_done {d1 d2:List α} {a st M:Nat} (h1:SortedOn key d1 a st) (h2:SortedOn key d1 st M) (g1:a < st∧st < M→Done key d1 d2 a M) (g2:¬(a < st∧st < M)→d2=d1) (hast:a≤st) (hstM:st≤M):Done key d1 d2 a M:=by
 by_cases h:a < st∧st < M
 ·exact g1 h
 ·rw [g2 h]
  refine Done.refl_of ?_
  by_cases e:a=st
  ·subst e;exact h2
  ·obtain rfl:st=M:=by omega
   exact h1
theorem both_done {d d1 d2 d3:List α} {a M b:Nat} (haM:a≤M) (hMb:M≤b) (hb:b≤d.length) (h0:Same d d1 a b) (t0:St key d d1)
  (hx:∀i j,a≤i→i < M→M≤j→j < b→kf key d1 i≤kf key d1 j) (hl:Done key d1 d2 a M) (hr:Done key d2 d3 M b):Done key d d3 a b:=by
 refine ⟨(h0.trans (hl.1.mono (Nat.le_refl _) hMb)).trans (hr.1.mono haM (Nat.le_refl _)),(t0.trans hl.2.1).trans hr.2.1,?_⟩
 refine SortedOn.join (hl.2.2.same hr.1 (.inl (Nat.le_refl _))) hr.2.2 ?_
 intro i j g1 g2 g3 g4
 rw [hr.1.kf (t:=i) (by omega)]
 obtain ⟨i',a1,a2,a3⟩:=seg_kf hl.1 hl.2.1 haM (by rw [h0.1];omega) g1 g2
 obtain ⟨j',b1,b2,b3⟩:=seg_kf hr.1 hr.2.1 hMb (by rw [hl.1.1,h0.1];omega) g3 g4
 rw [a3,b3,hl.1.kf (t:=j') (by omega)]
 exact hx i' j' a1 a2 b1 b2
def Bl (key:α→Int) (d:List α) (bs s n:Nat):Prop:=∀r,SortedOn key d (s+r*bs) (min (s+(r+1)*bs) n)
theorem Bl.first {d:List α} {bs s n:Nat} (h:Bl key d bs s n):SortedOn key d s (min (s+bs) n):=by
 have:=h 0
 simpa using this
theorem Bl.next {d:List α} {bs s n:Nat} (h:Bl key d bs s n):Bl key d bs (s+bs) n:=by
 intro r
 have:=h (r+1)
 rw [show s+bs+r*bs=s+(r+1)*bs by rw [Nat.add_mul];omega,show s+bs+(r+1)*bs=s+(r+1+1)*bs by rw [Nat.add_mul (r+1)];omega]
 exact this
theorem Bl.same {d d':List α} {bs s n x y:Nat} (h:Bl key d bs s n) (hs:Same d d' x y) (hd:y≤s):Bl key d' bs s n:=fun r=>(h r).same hs (.inr (by omega))
theorem Bl.all {d:List α} {bs n:Nat} (h:Bl key d bs 0 n) (hn:n≤bs):SortedOn key d 0 n:=by
 have:=h.first
 rw [Nat.zero_add,Nat.min_eq_right hn] at this
 exact this
def Pf (key:α→Int) (d:List α) (bs q:Nat):Prop:=∀r,r < q→SortedOn key d (r*bs) (r*bs+bs)
theorem Pf.zero {d:List α} {bs:Nat}:Pf key d bs 0:=fun r h=>by omega
theorem Pf.succ {d d':List α} {bs q:Nat} (h:Pf key d bs q) (hs:Same d d' (q*bs) (q*bs+bs)) (hn:SortedOn key d' (q*bs) (q*bs+bs)):Pf key d' bs (q+1):=by
 intro r hr
 by_cases e:r=q
 ·subst e;exact hn
 ·refine (h r (by omega)).same hs (.inl ?_)
  have:=Nat.mul_le_mul_right bs (show r+1≤q by omega)
  rw [Nat.add_mul] at this;omega
theorem Bl.of_pf {d d':List α} {bs q n:Nat} (h:Pf key d bs q) (hq:q*bs≤n) (hn:n < q*bs+bs) (hs:Same d d' (q*bs) n) (hl:SortedOn key d' (q*bs) n):Bl key d' bs 0 n:=by
 intro r
 rw [Nat.zero_add,Nat.zero_add]
 by_cases e:r < q
 ·have h1:=Nat.mul_le_mul_right bs (show r+1≤q by omega)
  rw [Nat.min_eq_left (by omega),Nat.add_mul]
  rw [Nat.add_mul] at h1
  rw [Nat.one_mul]
  exact (h r e).same hs (.inl (by omega))
 ·by_cases e2:r=q
  ·subst e2
   rw [Nat.min_eq_right (by rw [Nat.add_mul];omega)]
   exact hl
  ·have h1:=Nat.mul_le_mul_right bs (show q+1≤r by omega)
   rw [Nat.add_mul] at h1
   intro i j g1 g2 g3
   omega
theorem rot_snoc {d d1:List α} {a k:Nat} {x y:α} (h:Rot d d1 a (a+1) (k+1)) (hak:a≤k) (hx:d1[k]?=some x) (hy:d1[k+1]?=some y):Rot d (swp d1 k (k+1) x y) a (a+1) (k+2):=by
 refine ⟨(swp_len _ _ _ _ _).trans h.1,fun t=>?_⟩
 rw [swp_get d1 k (k+1) t x y hx hy (by omega),h.2,h.2,h.2]
 (repeat' split) <;> first | rfl | omega | (congr 1;omega)
theorem rot_cons {d d1:List α} {k m:Nat} {x y:α} (h:Rot d d1 (k+1) m (m+1)) (hkm:k+1≤m) (hx:d1[k]?=some x) (hy:d1[k+1]?=some y):Rot d (swp d1 k (k+1) x y) k m (m+1):=by
 refine ⟨(swp_len _ _ _ _ _).trans h.1,fun t=>?_⟩
 rw [swp_get d1 k (k+1) t x y hx hy (by omega),h.2,h.2,h.2]
 (repeat' split) <;> first | rfl | omega | (congr 1;omega)
end
end Go.Proofs.YtkhmjidaeliccaaGreatDoor.Srt
namespace Go.Proofs.YtkhmjidaeliccaaGreatDoor
open Go.RowKit
theorem symLeft_any (b B off n c p y:Nat) (e:TypeId) (key:Int→Int) (d:List Int) (pre post:List Value) (w:World) (hR:Row w b off e pre post d) (hn:d.length=n)
  (hpy:p+1 < y) (hy:y≤n) (hbig:n≤1099511627776) (hC:Cmps b B w key) (hs:Srt.SortedOn key d (p+1) y) :
  Calls Tryz.prog 192 #[.slice (some ⟨b,off,none⟩) n c,.int .i64 p,.int .i64 ((p:Int)+1),.int .i64 y,.func (.func 123) #[] #[.pointer (some ⟨B,0,none⟩)]] w
   (RetRow (fun d'=>Srt.Done key d d' p y) b off e pre post w):=by
 subst hn
 have HC:=Lib.hid hC;have HS:=Lib.hid hs;clear hC hs
 obtain ⟨x,hx⟩:=get_of_lt (d:=d) (i:=p) (by omega)
 have HX:=Lib.hid hx;clear hx
 have e1:((p:Int)+1 - (p:Int)==1)=true:=by simp;omega
 go_enter Tryz.func192,Tryz.ntmps192
 go_wp2_with fail
 go_loopw [10,11] (fun u v wr=>∃i j:Nat,p+1≤i∧i≤j∧j≤y∧u=.int .i64 i∧v=.int .i64 j∧(∀t,p+1≤t→t < i→Srt.kf key d t < Srt.kf key d p)∧(∀t,j≤t→t < y→Srt.kf key d p≤Srt.kf key d t)∧
   Row wr b off e pre post d∧w.grownBy wr (some b)) (fun u v _=>(intOf v).toNat - (intOf u).toNat)
 case atStart=>exact ⟨p+1,y,Nat.le_refl _,by omega,Nat.le_refl _,by go_num,rfl,fun t h1 h2=>by omega,fun t h1 h2=>by omega,hR,grownR_refl _ _⟩
 case round=>
  obtain ⟨i,j,hi,hij,hj,rfl,rfl,hlo,hhi,hR1,hg⟩:=hrel
  have HLO:=Lib.hid hlo;have HHI:=Lib.hid hhi;clear hlo hhi
  by_cases hlt:i < j
  ·obtain ⟨h,hh,h1,h2,h3⟩:∃h:Nat,((i:Int)+(j:Int)) / 2=(h:Int)∧i≤h∧h < j∧h < d.length:=⟨(i+j) / 2,by omega,by omega,by omega,by omega⟩
   obtain ⟨z,hz⟩:=get_of_lt (d:=d) (i:=h) h3
   have cx:=hR1.cell HX.out
   have cz:=hR1.cell hz
   have HZ:=Lib.hid hz
   have C:=Lib.hid (fun W hW=>HC.out W hW z x)
   clear hz
   have hpn:p < d.length:=by omega
   go_wp2_with fail
   clear hh
   refine wp_region_still_tail 9 (by kernel_rfl) (by kernel_rfl) ?_
   simp only [List.take_succ_cons,List.take_zero,List.drop_succ_cons,List.drop_zero]
   change wpStill _ _ wr.drew _ _ _
   repeat still_step
   refine wpStill_nil ?_
   change wpList _ _ _ _ _ wr.drew
   go_wp2_with fail
   refine (C.out _ (grownR_drew hg)).mono ?_
   rintro e w3 ⟨cc,rfl,hcc,hb3⟩
   have hR3:=(hR1.drew).below hb3
   have hg3:=grownR_below (grownR_drew hg) hb3
   clear hR1 hg hb3 cx cz
   by_cases hkey:key z < key x
   ·have hneg:cc < 0:=hcc.2 hkey
    clear hcc
    go_wp2
    go_roundw
    case rel=>
     refine ⟨h+1,j,by omega,by omega,hj,by go_num,rfl,fun t g1 g2=>?_,HHI.out,hR3,hg3⟩
     have k1:=HS.out.le (i:=t) (j:=h) g1 (by omega) (by omega)
     rw [Srt.kf_some HZ.out] at k1
     rw [Srt.kf_some HX.out];omega
    case measure=>simp [intOf];omega
   ·have hneg:¬cc < 0:=fun g=>hkey (hcc.1 g)
    clear hcc
    go_wp2
    go_roundw
    case rel=>
     refine ⟨i,h,hi,by omega,by omega,rfl,rfl,HLO.out,fun t g1 g2=>?_,hR3,hg3⟩
     have k1:=HS.out.le (i:=h) (j:=t) (by omega) g1 g2
     rw [Srt.kf_some HZ.out] at k1
     rw [Srt.kf_some HX.out];omega
    case measure=>simp [intOf];omega
  ·obtain rfl:i=j:=by omega
   obtain ⟨wo,rfl⟩:∃wo:World,wo=wr:=⟨_,rfl⟩
   go_wp2_with fail
   go_loopw [13] (fun u wr=>∃(k:Nat) (d1:List Int),p≤k∧k+1≤i∧u=.int .i64 k∧Srt.Rot d d1 p (p+1) (k+1)∧Row wr b off e pre post d1∧w.grownBy wr (some b)) (fun u _=>i - (intOf u).toNat)
   case atStart=>exact ⟨p,d,Nat.le_refl _,hi,rfl,Srt.rot_triv (by omega) (by omega) (.inr rfl),hR1,hg⟩
   case round=>
    obtain ⟨k,d1,hk1,hk2,rfl,hrot,hR2,hg2⟩:=hrel
    by_cases hki:k+1 < i
    ·obtain ⟨x1,hx1⟩:=get_of_lt (d:=d1) (i:=k) (by rw [hrot.1];omega)
     obtain ⟨y1,hy1⟩:=get_of_lt (d:=d1) (i:=k+1) (by rw [hrot.1];omega)
     have cx:=hR2.cell hx1
     have cy:=hR2.cell hy1
     have fx:=hR2.frozen (off+k)
     have fy:=hR2.frozen (off+(k+1))
     have HX1:=Lib.hid hx1;have HY1:=Lib.hid hy1;have HRO:=Lib.hid hrot;clear hx1 hy1 hrot
     go_wp2
     go_region
     go_wp2
     go_roundw
     case rel=>
      refine ⟨k+1,Srt.swp d1 k (k+1) x1 y1,by omega,by omega,by go_num,Srt.rot_snoc HRO.out hk1 HX1.out HY1.out,?_,?_⟩
      ·exact (Row.set (hR2.set (i:=k) (by rw [HRO.out.1];omega) y1) (i:=k+1) (by rw [List.length_set,HRO.out.1];omega) x1).drew
      ·exact grownR_drew (grown_row (grown_row hg2 _ _) _ _)
     case measure=>simp [intOf];omega
    ·obtain rfl:i=k+1:=by omega
     have HRO:=Lib.hid hrot;clear hrot
     go_wp2
     go_end0
     exact ⟨rfl,d1,Srt.Done.left HRO.out hi hj hy HS.out HLO.out HHI.out,hR2,hg2⟩
theorem symRight_any (b B off n c p m:Nat) (e:TypeId) (key:Int→Int) (d:List Int) (pre post:List Value) (w:World) (hR:Row w b off e pre post d) (hn:d.length=n)
  (hpm:p+1 < m) (hm:m+1≤n) (hbig:n≤1099511627776) (hC:Cmps b B w key) (hs:Srt.SortedOn key d p m) :
  Calls Tryz.prog 192 #[.slice (some ⟨b,off,none⟩) n c,.int .i64 p,.int .i64 m,.int .i64 ((m:Int)+1),.func (.func 123) #[] #[.pointer (some ⟨B,0,none⟩)]] w
   (RetRow (fun d'=>Srt.Done key d d' p (m+1)) b off e pre post w):=by
 subst hn
 have HC:=Lib.hid hC;have HS:=Lib.hid hs;clear hC hs
 obtain ⟨x,hx⟩:=get_of_lt (d:=d) (i:=m) (by omega)
 have HX:=Lib.hid hx;clear hx
 have e1:((m:Int) - (p:Int)==1)=false:=by simp;omega
 have e2:((m:Int)+1 - (m:Int)==1)=true:=by simp;omega
 go_enter Tryz.func192,Tryz.ntmps192
 go_wp2_with fail
 go_loopw [14,15] (fun u v wr=>∃i j:Nat,p≤i∧i≤j∧j≤m∧u=.int .i64 i∧v=.int .i64 j∧(∀t,p≤t→t < i→Srt.kf key d t≤Srt.kf key d m)∧(∀t,j≤t→t < m→Srt.kf key d m < Srt.kf key d t)∧
   Row wr b off e pre post d∧w.grownBy wr (some b)) (fun u v _=>(intOf v).toNat - (intOf u).toNat)
 case atStart=>exact ⟨p,m,Nat.le_refl _,by omega,Nat.le_refl _,rfl,rfl,fun t h1 h2=>by omega,fun t h1 h2=>by omega,hR,grownR_refl _ _⟩
 case round=>
  obtain ⟨i,j,hi,hij,hj,rfl,rfl,hlo,hhi,hR1,hg⟩:=hrel
  have HLO:=Lib.hid hlo;have HHI:=Lib.hid hhi;clear hlo hhi
  by_cases hlt:i < j
  ·obtain ⟨h,hh,h1,h2,h3⟩:∃h:Nat,((i:Int)+(j:Int)) / 2=(h:Int)∧i≤h∧h < j∧h < d.length:=⟨(i+j) / 2,by omega,by omega,by omega,by omega⟩
   obtain ⟨z,hz⟩:=get_of_lt (d:=d) (i:=h) h3
   have cx:=hR1.cell HX.out
   have cz:=hR1.cell hz
   have HZ:=Lib.hid hz
   have C:=Lib.hid (fun W hW=>HC.out W hW x z)
   clear hz
   have hpn:m < d.length:=by omega
   go_wp2_with fail
   clear hh
   refine wp_region_still_tail 9 (by kernel_rfl) (by kernel_rfl) ?_
   simp only [List.take_succ_cons,List.take_zero,List.drop_succ_cons,List.drop_zero]
   change wpStill _ _ wr.drew _ _ _
   repeat still_step
   refine wpStill_nil ?_
   change wpList _ _ _ _ _ wr.drew
   go_wp2_with fail
   refine (C.out _ (grownR_drew hg)).mono ?_
   rintro e w3 ⟨cc,rfl,hcc,hb3⟩
   have hR3:=(hR1.drew).below hb3
   have hg3:=grownR_below (grownR_drew hg) hb3
   clear hR1 hg hb3 cx cz
   by_cases hkey:key x < key z
   ·have hneg:decide (cc < 0)=true:=by simpa using hcc.2 hkey
    clear hcc
    go_wp2
    go_roundw
    case rel=>
     refine ⟨i,h,hi,by omega,by omega,rfl,rfl,HLO.out,fun t g1 g2=>?_,hR3,hg3⟩
     have k1:=HS.out.le (i:=h) (j:=t) (by omega) g1 g2
     rw [Srt.kf_some HZ.out] at k1
     rw [Srt.kf_some HX.out];omega
    case measure=>simp [intOf];omega
   ·have hneg:decide (cc < 0)=false:=by simpa using fun g=>hkey (hcc.1 g)
    clear hcc
    go_wp2
    go_roundw
    case rel=>
     refine ⟨h+1,j,by omega,by omega,hj,by go_num,rfl,fun t g1 g2=>?_,HHI.out,hR3,hg3⟩
     have k1:=HS.out.le (i:=t) (j:=h) g1 (by omega) (by omega)
     rw [Srt.kf_some HZ.out] at k1
     rw [Srt.kf_some HX.out];omega
    case measure=>simp [intOf];omega
  ·obtain rfl:i=j:=by omega
   obtain ⟨wo,rfl⟩:∃wo:World,wo=wr:=⟨_,rfl⟩
   go_wp2_with fail
   go_loopw [17] (fun u wr=>∃(k:Nat) (d1:List Int),i≤k∧k≤m∧u=.int .i64 k∧Srt.Rot d d1 k m (m+1)∧Row wr b off e pre post d1∧w.grownBy wr (some b)) (fun u _=>(intOf u).toNat)
   case atStart=>exact ⟨m,d,hj,Nat.le_refl _,rfl,Srt.rot_triv (by omega) (by omega) (.inl rfl),hR1,hg⟩
   case round=>
    obtain ⟨k,d1,hk1,hk2,rfl,hrot,hR2,hg2⟩:=hrel
    by_cases hki:i < k
    ·obtain ⟨x1,hx1⟩:=get_of_lt (d:=d1) (i:=k - 1) (by rw [hrot.1];omega)
     obtain ⟨y1,hy1⟩:=get_of_lt (d:=d1) (i:=k) (by rw [hrot.1];omega)
     have cx:=hR2.cell hx1
     have cy:=hR2.cell hy1
     have fx:=hR2.frozen (off+(k - 1))
     have fy:=hR2.frozen (off+k)
     have HX1:=Lib.hid hx1;have HY1:=Lib.hid hy1;have HRO:=Lib.hid hrot;clear hx1 hy1 hrot
     have i1:IntKind.i64.wrap ((k:Int) - 1)=(k:Int) - 1:=IntWalk.i64_in _ (by omega)
     have i2:(0:Int)≤(k:Int) - 1:=by omega
     have i2':(1:Int)≤(k:Int):=by omega
     have i2'':1≤k:=by omega
     have i3:((k:Int) - 1).toNat=k - 1:=by omega
     have i4:(k:Int) - 1 < (d.length:Int):=by omega
     have hne:¬(k - 1=k):=by omega
     go_wp2
     go_region
     go_wp2
     go_roundw
     case rel=>
      refine ⟨k - 1,Srt.swp d1 (k - 1) k x1 y1,by omega,by omega,by go_num,?_,?_,?_⟩
      ·have:=Srt.rot_cons (d:=d) (d1:=d1) (k:=k - 1) (m:=m) (x:=x1) (y:=y1) (by rw [show k - 1+1=k by omega];exact HRO.out) (by omega) HX1.out (by rw [show k - 1+1=k by omega];exact HY1.out)
       rw [show k - 1+1=k by omega] at this;exact this
      ·rw [Srt.swp,List.set_comm _ _ (by omega)]
       exact (Row.set (hR2.set (i:=k) (by rw [HRO.out.1];omega) x1) (i:=k - 1) (by rw [List.length_set,HRO.out.1];omega) y1).drew
      ·exact grownR_drew (grown_row (grown_row hg2 _ _) _ _)
     case measure=>simp [intOf];omega
    ·obtain rfl:i=k:=by omega
     have HRO:=Lib.hid hrot;clear hrot
     go_wp2
     go_end0
     exact ⟨rfl,d1,Srt.Done.right HRO.out hj hi hm HS.out HLO.out HHI.out,hR2,hg2⟩
end Go.Proofs.YtkhmjidaeliccaaGreatDoor
namespace Go.Proofs.YtkhmjidaeliccaaGreatDoor
open Go.RowKit
theorem sym_step (b B off n c p m y:Nat) (e:TypeId) (key:Int→Int) (d:List Int) (pre post:List Value) (w:World)
  (ih:∀(p' m' y':Nat) (d':List Int) (w':World),Row w' b off e pre post d'→d'.length=n→p' < m'→m' < y'→y'≤n→n≤1099511627776→Cmps b B w' key→Srt.SortedOn key d' p' m'→Srt.SortedOn key d' m' y'→y' - p' < y - p→
   Calls Tryz.prog 192 #[.slice (some ⟨b,off,none⟩) n c,.int .i64 p',.int .i64 m',.int .i64 y',(.func (.func 123) #[] #[.pointer (some ⟨B,0,none⟩)])] w' (RetRow (fun d''=>Srt.Done key d' d'' p' y') b off e pre post w'))
  (hR:Row w b off e pre post d) (hn:d.length=n) (hpm:p < m) (hmy:m < y) (hy:y≤n) (hbig:n≤1099511627776) (hC:Cmps b B w key) (hs1:Srt.SortedOn key d p m) (hs2:Srt.SortedOn key d m y)
  (hp1:¬m=p+1) (hy1:¬y=m+1) :
  Calls Tryz.prog 192 #[.slice (some ⟨b,off,none⟩) n c,.int .i64 p,.int .i64 m,.int .i64 y,(.func (.func 123) #[] #[.pointer (some ⟨B,0,none⟩)])] w (RetRow (fun d'=>Srt.Done key d d' p y) b off e pre post w):=by
 subst hn
 have HC:=Lib.hid hC;have HS1:=Lib.hid hs1;have HS2:=Lib.hid hs2;have IH:=Lib.hid ih
 clear hC hs1 hs2 ih
 have e1:((m:Int) - (p:Int)==1)=false:=by simp;omega
 have e2:((y:Int) - (m:Int)==1)=false:=by simp;omega
 obtain ⟨M,hM,hMn,hM1,hM2⟩:∃M:Nat,((p:Int)+(y:Int)) / 2=(M:Int)∧(p+y) / 2=M∧p < M∧M < y:=⟨(p+y) / 2,by omega,rfl,by omega,by omega⟩
 have hMa:2*M≤p+y:=by omega
 have hMb:p+y≤2*M+1:=by omega
 by_cases hmm:M < m
 ·obtain ⟨s0,hz,hz'⟩:∃s0:Nat,(M:Int)+(m:Int) - (y:Int)=(s0:Int)∧s0=M+m - y:=⟨M+m - y,by omega,rfl⟩
  have hdm:decide (M < m)=true:=by simpa using hmm
  go_enter Tryz.func192,Tryz.ntmps192
  have HMN0:=Lib.hid hMn;have HZ0:=Lib.hid hz'
  clear hMn hz'
  go_wp2_with fail
  clear hM hz
  have hMn:=HMN0.out
  have hz1:s0+y=M+m:=by have:=HZ0.out;omega
  clear HMN0
  go_loopw [20,21] (fun u v wr=>∃st r:Nat,s0≤st∧st≤r∧r≤M∧u=.int .i64 st∧v=.int .i64 r∧(∀c,s0≤c→c < st→Srt.kf key d c≤Srt.kf key d (M+m - 1 - c))∧(∀c,r≤c→c < M→Srt.kf key d (M+m - 1 - c) < Srt.kf key d c)∧
    Row wr b off e pre post d∧w.grownBy wr (some b)) (fun u v _=>(intOf v).toNat - (intOf u).toNat)
  case atStart=>exact ⟨s0,M,Nat.le_refl _,by omega,Nat.le_refl _,rfl,rfl,fun t h1 h2=>by omega,fun t h1 h2=>by omega,hR,grownR_refl _ _⟩
  case round=>
   obtain ⟨st,r,hs1,hsr,hs2,rfl,rfl,hyes,hno,hR2,hg2⟩:=hrel
   have HYES:=Lib.hid hyes;have HNO:=Lib.hid hno;clear hyes hno
   by_cases hlt:st < r
   ·obtain ⟨h,hh,h1,h2,h3⟩:∃h:Nat,((st:Int)+(r:Int)) / 2=(h:Int)∧st≤h∧h < r∧h < d.length:=⟨(st+r) / 2,by omega,by omega,by omega,by omega⟩
    obtain ⟨g,hg0,hgn⟩:∃g:Nat,g=M+m - 1 - h∧g < d.length:=⟨M+m - 1 - h,rfl,by omega⟩
    obtain ⟨x,hx⟩:=get_of_lt (d:=d) (i:=h) h3
    obtain ⟨z,hz⟩:=get_of_lt (d:=d) (i:=g) hgn
    have cx:=hR2.cell hx
    have cz:=hR2.cell hz
    have HX:=Lib.hid hx;have HZ:=Lib.hid hz
    have C:=Lib.hid (fun W hW=>HC.out W hW z x)
    have i0:(M:Int)+(m:Int) - 1 - (h:Int)=(g:Int):=by omega
    have i1:IntKind.i64.wrap ((M:Int)+(m:Int) - 1 - (h:Int))=(g:Int):=by rw [i0];exact IntWalk.i64_in _ (by omega)
    have i1':IntKind.i64.wrap (g:Int)=(g:Int):=IntWalk.i64_in _ (by omega)
    have HG:=Lib.hid hg0;have HMN:=Lib.hid hMn
    clear hx hz hg0 hMn
    go_wp2_with fail
    clear hh
    refine wp_region_still_tail 11 (by kernel_rfl) (by kernel_rfl) ?_
    simp only [List.take_succ_cons,List.take_zero,List.drop_succ_cons,List.drop_zero]
    change wpStill _ _ wr.drew _ _ _
    repeat still_step
    refine wpStill_nil ?_
    change wpList _ _ _ _ _ wr.drew
    clear i0 i1 i1'
    go_wp2_with fail
    refine (C.out _ (grownR_drew hg2)).mono ?_
    rintro e w3 ⟨cc,rfl,hcc,hb3⟩
    have hR3:=(hR2.drew).below hb3
    have hg3:=grownR_below (grownR_drew hg2) hb3
    clear hR2 hg2 hb3 cx cz
    by_cases hkey:key z < key x
    ·have hneg:decide (cc < 0)=true:=by simpa using hcc.2 hkey
     clear hcc
     go_wp2
     go_roundw
     case rel=>
      refine ⟨st,h,by omega,by omega,by omega,rfl,rfl,HYES.out,fun t g1 g2=>?_,hR3,hg3⟩
      have hgg:=HG.out
      have kz:Srt.kf key d (M+m - 1 - h)=key z:=by rw [←hgg];exact Srt.kf_some HZ.out
      have kx:=Srt.kf_some (key:=key) HX.out
      by_cases et:t < r
      ·have k1:=HS1.out.le (i:=h) (j:=t) (by omega) g1 (by omega)
       have k2:=HS2.out.le (i:=M+m - 1 - t) (j:=M+m - 1 - h) (by omega) (by omega) (by omega)
       omega
      ·exact HNO.out t (by omega) g2
     case measure=>simp [intOf];omega
    ·have hneg:decide (cc < 0)=false:=by simpa using fun g=>hkey (hcc.1 g)
     clear hcc
     go_wp2
     go_roundw
     case rel=>
      refine ⟨h+1,r,by omega,by omega,by omega,by go_num,rfl,fun t g1 g2=>?_,HNO.out,hR3,hg3⟩
      have hgg:=HG.out
      have kz:Srt.kf key d (M+m - 1 - h)=key z:=by rw [←hgg];exact Srt.kf_some HZ.out
      have kx:=Srt.kf_some (key:=key) HX.out
      by_cases et:st≤t
      ·have k1:=HS1.out.le (i:=t) (j:=h) (by omega) (by omega) (by omega)
       have k2:=HS2.out.le (i:=M+m - 1 - h) (j:=M+m - 1 - t) (by omega) (by omega) (by omega)
       omega
      ·exact HYES.out t g1 (by omega)
     case measure=>simp [intOf];omega
   ·obtain rfl:st=r:=by omega
    have f:=Srt.found_of (key:=key) (d:=d) (a:=p) (m:=m) (b:=y) (st:=st) (s0:=s0) (r0:=M) hpm HS1.out HS2.out (by rw [hMn];exact .inl ⟨hmm,HZ0.out,rfl⟩) hs1 hs2 (by rw [hMn];exact HYES.out) (by rw [hMn];exact HNO.out)
    obtain ⟨E,hE,hE'⟩:∃E:Nat,((M:Int)+(m:Int)) - (st:Int)=(E:Int)∧M+m - st=E:=⟨M+m - st,by omega,rfl⟩
    have hM':=hMn
    by_cases hrr:st < m∧m < E
    ·obtain ⟨hr1,hr2⟩:=hrr
     have hEy:E≤y:=by rw [←hE',←hMn];exact f.en2
     have C:=Lib.hid (rotate_any b off d.length c st m E e (.func (.func 123) #[] #[.pointer (some ⟨B,0,none⟩)]) d pre post wr hR2 rfl hr1 hr2 (by omega) hbig)
     have F0:=Lib.hid f;have HMM0:=Lib.hid hM';have HEE0:=Lib.hid hE'
     clear f hM' hE' hMn
     go_wp2_with fail
     all_goals
      refine C.out.mono ?_
      rintro e W1 ⟨rfl,d1,hrot0,hR1,hg1x⟩
      have hg1:=grownR_trans hg2 hg1x
      have f:=F0.out;have hM':=HMM0.out;have hE':=HEE0.out
      have hrot:Srt.Rot d d1 st m ((p+y) / 2+m - st):=by rw [hM',hE'];exact hrot0
      clear hrot0 hg1x hR2 hg2 C F0 HMM0 HEE0
      obtain ⟨q1,q2,q3,q4,q5,q6,q7⟩:=f.halves hy HS1.out HS2.out hrot
      rw [hM'] at q4 q7
      rw [hM',hE'] at q5 q6
      have Q1:=Lib.hid q1;have Q2:=Lib.hid q2;have Q3:=Lib.hid q3;have Q4:=Lib.hid q4;have Q5:=Lib.hid q5;have Q6:=Lib.hid q6;have Q7:=Lib.hid q7;have F:=Lib.hid f;have HMM:=Lib.hid hM';have HEE:=Lib.hid hE'
      have hn1:d1.length=d.length:=q1.1
      have HN1:=Lib.hid hn1
      have f1:=f.lo;have f2:=f.hi
      have f3:m≤E:=by rw [←hE',←hM'];exact f.en
      have f4:E≤y:=by rw [←hE',←hM'];exact f.en2
      have f5:st≤M:=by rw [←hM'];exact f.mid
      clear q1 q2 q3 q4 q5 q6 q7 f hM' hE' hrot hn1
      by_cases hll:p < st∧st < M
      ·obtain ⟨hl1,hl2⟩:=hll
       have C:=Lib.hid (IH.out p st M d1 W1 hR1 HN1.out hl1 hl2 (by omega) hbig (HC.out.later hg1) Q3.out Q4.out (by omega))
       go_wp2_with fail
       all_goals
        refine C.out.mono ?_
        rintro e W2 ⟨rfl,d2,hD2,hR2,hg2x⟩
        have hg2:=grownR_trans hg1 hg2x
        have hl:=Srt.left_done Q3.out Q4.out (fun _=>hD2) (fun h=>absurd ⟨hl1,hl2⟩ h) f1 f5
        clear hD2 hg2x hR1 hg1
        have s1:Srt.SortedOn key d2 M E:=Q5.out.same hl.1 (.inr (Nat.le_refl _))
        have s2:Srt.SortedOn key d2 E y:=Q6.out.same hl.1 (.inr (by omega))
        have hn2:d2.length=d.length:=by rw [hl.1.1,HN1.out]
        have HL:=Lib.hid hl;have S1:=Lib.hid s1;have S2:=Lib.hid s2;have HN:=Lib.hid hn2
        clear hl s1 s2 hn2
        by_cases hrr:M < E∧E < y
        ·obtain ⟨hr1,hr2⟩:=hrr
         have C:=Lib.hid (IH.out M E y d2 W2 hR2 HN.out hr1 hr2 hy hbig (HC.out.later hg2) S1.out S2.out (by omega))
         go_wp2_with fail
         all_goals
          refine C.out.mono ?_
          rintro e W3 ⟨rfl,d3,hD3,hR3,hg3⟩
          go_wp2_with fail
          go_end0
          exact ⟨rfl,d3,Srt.both_done (by omega) (by omega) hy Q1.out Q2.out Q7.out HL.out hD3,hR3,grownR_trans hg2 hg3⟩
        ·have hD3:Srt.Done key d2 d2 M y:=by
          refine Srt.Done.refl_of ?_
          by_cases e9:M < E
          ·obtain rfl:E=y:=by omega
           exact S1.out
          ·obtain rfl:M=E:=by omega
           exact S2.out
         have HD3:=Lib.hid hD3
         have hr0:¬(M < E)∨¬(E < y):=by omega
         clear hD3 hrr
         rcases hr0 with hr0 | hr0
         all_goals
          go_wp2_with fail
          all_goals
           go_end0
           exact ⟨rfl,d2,Srt.both_done (by omega) (by omega) hy Q1.out Q2.out Q7.out HL.out HD3.out,hR2,hg2⟩
      ·have hl0:¬(p < st)∨¬(st < M):=by omega
       have hl:=Srt.left_done (d2:=d1) Q3.out Q4.out (fun h=>absurd h hll) (fun _=>rfl) f1 f5
       clear hll
       obtain ⟨d2,rfl⟩:∃d2,d2=d1:=⟨_,rfl⟩
       obtain ⟨W2,rfl⟩:∃W2:World,W2=W1:=⟨_,rfl⟩
       have hR2:=hR1
       have hg2:=hg1
       clear hR1 hg1
       rcases hl0 with hl0 | hl0
       all_goals
        have s1:Srt.SortedOn key d2 M E:=Q5.out.same hl.1 (.inr (Nat.le_refl _))
        have s2:Srt.SortedOn key d2 E y:=Q6.out.same hl.1 (.inr (by omega))
        have hn2:d2.length=d.length:=by rw [hl.1.1,HN1.out]
        have HL:=Lib.hid hl;have S1:=Lib.hid s1;have S2:=Lib.hid s2;have HN:=Lib.hid hn2
        clear hl s1 s2 hn2
        by_cases hrr:M < E∧E < y
        ·obtain ⟨hr1,hr2⟩:=hrr
         have C:=Lib.hid (IH.out M E y d2 W2 hR2 HN.out hr1 hr2 hy hbig (HC.out.later hg2) S1.out S2.out (by omega))
         go_wp2_with fail
         all_goals
          refine C.out.mono ?_
          rintro e W3 ⟨rfl,d3,hD3,hR3,hg3⟩
          go_wp2_with fail
          go_end0
          exact ⟨rfl,d3,Srt.both_done (by omega) (by omega) hy Q1.out Q2.out Q7.out HL.out hD3,hR3,grownR_trans hg2 hg3⟩
        ·have hD3:Srt.Done key d2 d2 M y:=by
          refine Srt.Done.refl_of ?_
          by_cases e9:M < E
          ·obtain rfl:E=y:=by omega
           exact S1.out
          ·obtain rfl:M=E:=by omega
           exact S2.out
         have HD3:=Lib.hid hD3
         have hr0:¬(M < E)∨¬(E < y):=by omega
         clear hD3 hrr
         rcases hr0 with hr0 | hr0
         all_goals
          go_wp2_with fail
          all_goals
           go_end0
           exact ⟨rfl,d2,Srt.both_done (by omega) (by omega) hy Q1.out Q2.out Q7.out HL.out HD3.out,hR2,hg2⟩
    ·have hr0:¬(st < m)∨¬(m < E):=by omega
     have hrot:Srt.Rot d d st m ((p+y) / 2+m - st):=Srt.rot_triv f.hi f.en (by have:=f.hi;have:=f.en;rw [hM',hE'] at *;omega)
     clear hrr hMn
     obtain ⟨d1,hd1⟩:∃d1,d1=d:=⟨_,rfl⟩
     obtain ⟨W1,rfl⟩:∃W1:World,W1=wr:=⟨_,rfl⟩
     have hR1:=hR2
     have hg1:=hg2
     rw [←hd1] at hR1
     have hrot1:Srt.Rot d d1 st m ((p+y) / 2+m - st):=by rw [hd1];exact hrot
     clear hrot hR2 hg2 hd1
     have hrot:=hrot1
     clear hrot1
     rcases hr0 with hr0 | hr0
     all_goals
      obtain ⟨q1,q2,q3,q4,q5,q6,q7⟩:=f.halves hy HS1.out HS2.out hrot
      rw [hM'] at q4 q7
      rw [hM',hE'] at q5 q6
      have Q1:=Lib.hid q1;have Q2:=Lib.hid q2;have Q3:=Lib.hid q3;have Q4:=Lib.hid q4;have Q5:=Lib.hid q5;have Q6:=Lib.hid q6;have Q7:=Lib.hid q7;have F:=Lib.hid f;have HMM:=Lib.hid hM';have HEE:=Lib.hid hE'
      have hn1:d1.length=d.length:=q1.1
      have HN1:=Lib.hid hn1
      have f1:=f.lo;have f2:=f.hi
      have f3:m≤E:=by rw [←hE',←hM'];exact f.en
      have f4:E≤y:=by rw [←hE',←hM'];exact f.en2
      have f5:st≤M:=by rw [←hM'];exact f.mid
      clear q1 q2 q3 q4 q5 q6 q7 f hM' hE' hrot hn1
      by_cases hll:p < st∧st < M
      ·obtain ⟨hl1,hl2⟩:=hll
       have C:=Lib.hid (IH.out p st M d1 W1 hR1 HN1.out hl1 hl2 (by omega) hbig (HC.out.later hg1) Q3.out Q4.out (by omega))
       go_wp2_with fail
       all_goals
        refine C.out.mono ?_
        rintro e W2 ⟨rfl,d2,hD2,hR2,hg2x⟩
        have hg2:=grownR_trans hg1 hg2x
        have hl:=Srt.left_done Q3.out Q4.out (fun _=>hD2) (fun h=>absurd ⟨hl1,hl2⟩ h) f1 f5
        clear hD2 hg2x hR1 hg1
        have s1:Srt.SortedOn key d2 M E:=Q5.out.same hl.1 (.inr (Nat.le_refl _))
        have s2:Srt.SortedOn key d2 E y:=Q6.out.same hl.1 (.inr (by omega))
        have hn2:d2.length=d.length:=by rw [hl.1.1,HN1.out]
        have HL:=Lib.hid hl;have S1:=Lib.hid s1;have S2:=Lib.hid s2;have HN:=Lib.hid hn2
        clear hl s1 s2 hn2
        by_cases hrr:M < E∧E < y
        ·obtain ⟨hr1,hr2⟩:=hrr
         have C:=Lib.hid (IH.out M E y d2 W2 hR2 HN.out hr1 hr2 hy hbig (HC.out.later hg2) S1.out S2.out (by omega))
         go_wp2_with fail
         all_goals
          refine C.out.mono ?_
          rintro e W3 ⟨rfl,d3,hD3,hR3,hg3⟩
          go_wp2_with fail
          go_end0
          exact ⟨rfl,d3,Srt.both_done (by omega) (by omega) hy Q1.out Q2.out Q7.out HL.out hD3,hR3,grownR_trans hg2 hg3⟩
        ·have hD3:Srt.Done key d2 d2 M y:=by
          refine Srt.Done.refl_of ?_
          by_cases e9:M < E
          ·obtain rfl:E=y:=by omega
           exact S1.out
          ·obtain rfl:M=E:=by omega
           exact S2.out
         have HD3:=Lib.hid hD3
         have hr0:¬(M < E)∨¬(E < y):=by omega
         clear hD3 hrr
         rcases hr0 with hr0 | hr0
         all_goals
          go_wp2_with fail
          all_goals
           go_end0
           exact ⟨rfl,d2,Srt.both_done (by omega) (by omega) hy Q1.out Q2.out Q7.out HL.out HD3.out,hR2,hg2⟩
      ·have hl0:¬(p < st)∨¬(st < M):=by omega
       have hl:=Srt.left_done (d2:=d1) Q3.out Q4.out (fun h=>absurd h hll) (fun _=>rfl) f1 f5
       clear hll
       obtain ⟨d2,rfl⟩:∃d2,d2=d1:=⟨_,rfl⟩
       obtain ⟨W2,rfl⟩:∃W2:World,W2=W1:=⟨_,rfl⟩
       have hR2:=hR1
       have hg2:=hg1
       clear hR1 hg1
       rcases hl0 with hl0 | hl0
       all_goals
        have s1:Srt.SortedOn key d2 M E:=Q5.out.same hl.1 (.inr (Nat.le_refl _))
        have s2:Srt.SortedOn key d2 E y:=Q6.out.same hl.1 (.inr (by omega))
        have hn2:d2.length=d.length:=by rw [hl.1.1,HN1.out]
        have HL:=Lib.hid hl;have S1:=Lib.hid s1;have S2:=Lib.hid s2;have HN:=Lib.hid hn2
        clear hl s1 s2 hn2
        by_cases hrr:M < E∧E < y
        ·obtain ⟨hr1,hr2⟩:=hrr
         have C:=Lib.hid (IH.out M E y d2 W2 hR2 HN.out hr1 hr2 hy hbig (HC.out.later hg2) S1.out S2.out (by omega))
         go_wp2_with fail
         all_goals
          refine C.out.mono ?_
          rintro e W3 ⟨rfl,d3,hD3,hR3,hg3⟩
          go_wp2_with fail
          go_end0
          exact ⟨rfl,d3,Srt.both_done (by omega) (by omega) hy Q1.out Q2.out Q7.out HL.out hD3,hR3,grownR_trans hg2 hg3⟩
        ·have hD3:Srt.Done key d2 d2 M y:=by
          refine Srt.Done.refl_of ?_
          by_cases e9:M < E
          ·obtain rfl:E=y:=by omega
           exact S1.out
          ·obtain rfl:M=E:=by omega
           exact S2.out
         have HD3:=Lib.hid hD3
         have hr0:¬(M < E)∨¬(E < y):=by omega
         clear hD3 hrr
         rcases hr0 with hr0 | hr0
         all_goals
          go_wp2_with fail
          all_goals
           go_end0
           exact ⟨rfl,d2,Srt.both_done (by omega) (by omega) hy Q1.out Q2.out Q7.out HL.out HD3.out,hR2,hg2⟩
 ·go_enter Tryz.func192,Tryz.ntmps192
  have HMN0:=Lib.hid hMn
  clear hMn
  go_wp2_with fail
  clear hM
  have hMn:=HMN0.out
  clear HMN0
  go_loopw [20,21] (fun u v wr=>∃st r:Nat,p≤st∧st≤r∧r≤m∧u=.int .i64 st∧v=.int .i64 r∧(∀c,p≤c→c < st→Srt.kf key d c≤Srt.kf key d (M+m - 1 - c))∧(∀c,r≤c→c < m→Srt.kf key d (M+m - 1 - c) < Srt.kf key d c)∧
    Row wr b off e pre post d∧w.grownBy wr (some b)) (fun u v _=>(intOf v).toNat - (intOf u).toNat)
  case atStart=>exact ⟨p,m,Nat.le_refl _,by omega,Nat.le_refl _,rfl,rfl,fun t h1 h2=>by omega,fun t h1 h2=>by omega,hR,grownR_refl _ _⟩
  case round=>
   obtain ⟨st,r,hs1,hsr,hs2,rfl,rfl,hyes,hno,hR2,hg2⟩:=hrel
   have HYES:=Lib.hid hyes;have HNO:=Lib.hid hno;clear hyes hno
   by_cases hlt:st < r
   ·obtain ⟨h,hh,h1,h2,h3⟩:∃h:Nat,((st:Int)+(r:Int)) / 2=(h:Int)∧st≤h∧h < r∧h < d.length:=⟨(st+r) / 2,by omega,by omega,by omega,by omega⟩
    obtain ⟨g,hg0,hgn⟩:∃g:Nat,g=M+m - 1 - h∧g < d.length:=⟨M+m - 1 - h,rfl,by omega⟩
    obtain ⟨x,hx⟩:=get_of_lt (d:=d) (i:=h) h3
    obtain ⟨z,hz⟩:=get_of_lt (d:=d) (i:=g) hgn
    have cx:=hR2.cell hx
    have cz:=hR2.cell hz
    have HX:=Lib.hid hx;have HZ:=Lib.hid hz
    have C:=Lib.hid (fun W hW=>HC.out W hW z x)
    have i0:(M:Int)+(m:Int) - 1 - (h:Int)=(g:Int):=by omega
    have i1:IntKind.i64.wrap ((M:Int)+(m:Int) - 1 - (h:Int))=(g:Int):=by rw [i0];exact IntWalk.i64_in _ (by omega)
    have i1':IntKind.i64.wrap (g:Int)=(g:Int):=IntWalk.i64_in _ (by omega)
    have HG:=Lib.hid hg0;have HMN:=Lib.hid hMn
    clear hx hz hg0 hMn
    go_wp2_with fail
    clear hh
    refine wp_region_still_tail 11 (by kernel_rfl) (by kernel_rfl) ?_
    simp only [List.take_succ_cons,List.take_zero,List.drop_succ_cons,List.drop_zero]
    change wpStill _ _ wr.drew _ _ _
    repeat still_step
    refine wpStill_nil ?_
    change wpList _ _ _ _ _ wr.drew
    clear i0 i1 i1'
    go_wp2_with fail
    refine (C.out _ (grownR_drew hg2)).mono ?_
    rintro e w3 ⟨cc,rfl,hcc,hb3⟩
    have hR3:=(hR2.drew).below hb3
    have hg3:=grownR_below (grownR_drew hg2) hb3
    clear hR2 hg2 hb3 cx cz
    by_cases hkey:key z < key x
    ·have hneg:decide (cc < 0)=true:=by simpa using hcc.2 hkey
     clear hcc
     go_wp2
     go_roundw
     case rel=>
      refine ⟨st,h,by omega,by omega,by omega,rfl,rfl,HYES.out,fun t g1 g2=>?_,hR3,hg3⟩
      have hgg:=HG.out
      have kz:Srt.kf key d (M+m - 1 - h)=key z:=by rw [←hgg];exact Srt.kf_some HZ.out
      have kx:=Srt.kf_some (key:=key) HX.out
      by_cases et:t < r
      ·have k1:=HS1.out.le (i:=h) (j:=t) (by omega) g1 (by omega)
       have k2:=HS2.out.le (i:=M+m - 1 - t) (j:=M+m - 1 - h) (by omega) (by omega) (by omega)
       omega
      ·exact HNO.out t (by omega) g2
     case measure=>simp [intOf];omega
    ·have hneg:decide (cc < 0)=false:=by simpa using fun g=>hkey (hcc.1 g)
     clear hcc
     go_wp2
     go_roundw
     case rel=>
      refine ⟨h+1,r,by omega,by omega,by omega,by go_num,rfl,fun t g1 g2=>?_,HNO.out,hR3,hg3⟩
      have hgg:=HG.out
      have kz:Srt.kf key d (M+m - 1 - h)=key z:=by rw [←hgg];exact Srt.kf_some HZ.out
      have kx:=Srt.kf_some (key:=key) HX.out
      by_cases et:st≤t
      ·have k1:=HS1.out.le (i:=t) (j:=h) (by omega) (by omega) (by omega)
       have k2:=HS2.out.le (i:=M+m - 1 - h) (j:=M+m - 1 - t) (by omega) (by omega) (by omega)
       omega
      ·exact HYES.out t g1 (by omega)
     case measure=>simp [intOf];omega
   ·obtain rfl:st=r:=by omega
    have f:=Srt.found_of (key:=key) (d:=d) (a:=p) (m:=m) (b:=y) (st:=st) (s0:=p) (r0:=m) hpm HS1.out HS2.out (by rw [hMn];exact .inr ⟨by omega,rfl,rfl⟩) hs1 hs2 (by rw [hMn];exact HYES.out) (by rw [hMn];exact HNO.out)
    obtain ⟨E,hE,hE'⟩:∃E:Nat,((M:Int)+(m:Int)) - (st:Int)=(E:Int)∧M+m - st=E:=⟨M+m - st,by omega,rfl⟩
    have hM':=hMn
    by_cases hrr:st < m∧m < E
    ·obtain ⟨hr1,hr2⟩:=hrr
     have hEy:E≤y:=by rw [←hE',←hMn];exact f.en2
     have C:=Lib.hid (rotate_any b off d.length c st m E e (.func (.func 123) #[] #[.pointer (some ⟨B,0,none⟩)]) d pre post wr hR2 rfl hr1 hr2 (by omega) hbig)
     have F0:=Lib.hid f;have HMM0:=Lib.hid hM';have HEE0:=Lib.hid hE'
     clear f hM' hE' hMn
     go_wp2_with fail
     all_goals
      refine C.out.mono ?_
      rintro e W1 ⟨rfl,d1,hrot0,hR1,hg1x⟩
      have hg1:=grownR_trans hg2 hg1x
      have f:=F0.out;have hM':=HMM0.out;have hE':=HEE0.out
      have hrot:Srt.Rot d d1 st m ((p+y) / 2+m - st):=by rw [hM',hE'];exact hrot0
      clear hrot0 hg1x hR2 hg2 C F0 HMM0 HEE0
      obtain ⟨q1,q2,q3,q4,q5,q6,q7⟩:=f.halves hy HS1.out HS2.out hrot
      rw [hM'] at q4 q7
      rw [hM',hE'] at q5 q6
      have Q1:=Lib.hid q1;have Q2:=Lib.hid q2;have Q3:=Lib.hid q3;have Q4:=Lib.hid q4;have Q5:=Lib.hid q5;have Q6:=Lib.hid q6;have Q7:=Lib.hid q7;have F:=Lib.hid f;have HMM:=Lib.hid hM';have HEE:=Lib.hid hE'
      have hn1:d1.length=d.length:=q1.1
      have HN1:=Lib.hid hn1
      have f1:=f.lo;have f2:=f.hi
      have f3:m≤E:=by rw [←hE',←hM'];exact f.en
      have f4:E≤y:=by rw [←hE',←hM'];exact f.en2
      have f5:st≤M:=by rw [←hM'];exact f.mid
      clear q1 q2 q3 q4 q5 q6 q7 f hM' hE' hrot hn1
      by_cases hll:p < st∧st < M
      ·obtain ⟨hl1,hl2⟩:=hll
       have C:=Lib.hid (IH.out p st M d1 W1 hR1 HN1.out hl1 hl2 (by omega) hbig (HC.out.later hg1) Q3.out Q4.out (by omega))
       go_wp2_with fail
       all_goals
        refine C.out.mono ?_
        rintro e W2 ⟨rfl,d2,hD2,hR2,hg2x⟩
        have hg2:=grownR_trans hg1 hg2x
        have hl:=Srt.left_done Q3.out Q4.out (fun _=>hD2) (fun h=>absurd ⟨hl1,hl2⟩ h) f1 f5
        clear hD2 hg2x hR1 hg1
        have s1:Srt.SortedOn key d2 M E:=Q5.out.same hl.1 (.inr (Nat.le_refl _))
        have s2:Srt.SortedOn key d2 E y:=Q6.out.same hl.1 (.inr (by omega))
        have hn2:d2.length=d.length:=by rw [hl.1.1,HN1.out]
        have HL:=Lib.hid hl;have S1:=Lib.hid s1;have S2:=Lib.hid s2;have HN:=Lib.hid hn2
        clear hl s1 s2 hn2
        by_cases hrr:M < E∧E < y
        ·obtain ⟨hr1,hr2⟩:=hrr
         have C:=Lib.hid (IH.out M E y d2 W2 hR2 HN.out hr1 hr2 hy hbig (HC.out.later hg2) S1.out S2.out (by omega))
         go_wp2_with fail
         all_goals
          refine C.out.mono ?_
          rintro e W3 ⟨rfl,d3,hD3,hR3,hg3⟩
          go_wp2_with fail
          go_end0
          exact ⟨rfl,d3,Srt.both_done (by omega) (by omega) hy Q1.out Q2.out Q7.out HL.out hD3,hR3,grownR_trans hg2 hg3⟩
        ·have hD3:Srt.Done key d2 d2 M y:=by
          refine Srt.Done.refl_of ?_
          by_cases e9:M < E
          ·obtain rfl:E=y:=by omega
           exact S1.out
          ·obtain rfl:M=E:=by omega
           exact S2.out
         have HD3:=Lib.hid hD3
         have hr0:¬(M < E)∨¬(E < y):=by omega
         clear hD3 hrr
         rcases hr0 with hr0 | hr0
         all_goals
          go_wp2_with fail
          all_goals
           go_end0
           exact ⟨rfl,d2,Srt.both_done (by omega) (by omega) hy Q1.out Q2.out Q7.out HL.out HD3.out,hR2,hg2⟩
      ·have hl0:¬(p < st)∨¬(st < M):=by omega
       have hl:=Srt.left_done (d2:=d1) Q3.out Q4.out (fun h=>absurd h hll) (fun _=>rfl) f1 f5
       clear hll
       obtain ⟨d2,rfl⟩:∃d2,d2=d1:=⟨_,rfl⟩
       obtain ⟨W2,rfl⟩:∃W2:World,W2=W1:=⟨_,rfl⟩
       have hR2:=hR1
       have hg2:=hg1
       clear hR1 hg1
       rcases hl0 with hl0 | hl0
       all_goals
        have s1:Srt.SortedOn key d2 M E:=Q5.out.same hl.1 (.inr (Nat.le_refl _))
        have s2:Srt.SortedOn key d2 E y:=Q6.out.same hl.1 (.inr (by omega))
        have hn2:d2.length=d.length:=by rw [hl.1.1,HN1.out]
        have HL:=Lib.hid hl;have S1:=Lib.hid s1;have S2:=Lib.hid s2;have HN:=Lib.hid hn2
        clear hl s1 s2 hn2
        by_cases hrr:M < E∧E < y
        ·obtain ⟨hr1,hr2⟩:=hrr
         have C:=Lib.hid (IH.out M E y d2 W2 hR2 HN.out hr1 hr2 hy hbig (HC.out.later hg2) S1.out S2.out (by omega))
         go_wp2_with fail
         all_goals
          refine C.out.mono ?_
          rintro e W3 ⟨rfl,d3,hD3,hR3,hg3⟩
          go_wp2_with fail
          go_end0
          exact ⟨rfl,d3,Srt.both_done (by omega) (by omega) hy Q1.out Q2.out Q7.out HL.out hD3,hR3,grownR_trans hg2 hg3⟩
        ·have hD3:Srt.Done key d2 d2 M y:=by
          refine Srt.Done.refl_of ?_
          by_cases e9:M < E
          ·obtain rfl:E=y:=by omega
           exact S1.out
          ·obtain rfl:M=E:=by omega
           exact S2.out
         have HD3:=Lib.hid hD3
         have hr0:¬(M < E)∨¬(E < y):=by omega
         clear hD3 hrr
         rcases hr0 with hr0 | hr0
         all_goals
          go_wp2_with fail
          all_goals
           go_end0
           exact ⟨rfl,d2,Srt.both_done (by omega) (by omega) hy Q1.out Q2.out Q7.out HL.out HD3.out,hR2,hg2⟩
    ·have hr0:¬(st < m)∨¬(m < E):=by omega
     have hrot:Srt.Rot d d st m ((p+y) / 2+m - st):=Srt.rot_triv f.hi f.en (by have:=f.hi;have:=f.en;rw [hM',hE'] at *;omega)
     clear hrr hMn
     obtain ⟨d1,hd1⟩:∃d1,d1=d:=⟨_,rfl⟩
     obtain ⟨W1,rfl⟩:∃W1:World,W1=wr:=⟨_,rfl⟩
     have hR1:=hR2
     have hg1:=hg2
     rw [←hd1] at hR1
     have hrot1:Srt.Rot d d1 st m ((p+y) / 2+m - st):=by rw [hd1];exact hrot
     clear hrot hR2 hg2 hd1
     have hrot:=hrot1
     clear hrot1
     rcases hr0 with hr0 | hr0
     all_goals
      obtain ⟨q1,q2,q3,q4,q5,q6,q7⟩:=f.halves hy HS1.out HS2.out hrot
      rw [hM'] at q4 q7
      rw [hM',hE'] at q5 q6
      have Q1:=Lib.hid q1;have Q2:=Lib.hid q2;have Q3:=Lib.hid q3;have Q4:=Lib.hid q4;have Q5:=Lib.hid q5;have Q6:=Lib.hid q6;have Q7:=Lib.hid q7;have F:=Lib.hid f;have HMM:=Lib.hid hM';have HEE:=Lib.hid hE'
      have hn1:d1.length=d.length:=q1.1
      have HN1:=Lib.hid hn1
      have f1:=f.lo;have f2:=f.hi
      have f3:m≤E:=by rw [←hE',←hM'];exact f.en
      have f4:E≤y:=by rw [←hE',←hM'];exact f.en2
      have f5:st≤M:=by rw [←hM'];exact f.mid
      clear q1 q2 q3 q4 q5 q6 q7 f hM' hE' hrot hn1
      by_cases hll:p < st∧st < M
      ·obtain ⟨hl1,hl2⟩:=hll
       have C:=Lib.hid (IH.out p st M d1 W1 hR1 HN1.out hl1 hl2 (by omega) hbig (HC.out.later hg1) Q3.out Q4.out (by omega))
       go_wp2_with fail
       all_goals
        refine C.out.mono ?_
        rintro e W2 ⟨rfl,d2,hD2,hR2,hg2x⟩
        have hg2:=grownR_trans hg1 hg2x
        have hl:=Srt.left_done Q3.out Q4.out (fun _=>hD2) (fun h=>absurd ⟨hl1,hl2⟩ h) f1 f5
        clear hD2 hg2x hR1 hg1
        have s1:Srt.SortedOn key d2 M E:=Q5.out.same hl.1 (.inr (Nat.le_refl _))
        have s2:Srt.SortedOn key d2 E y:=Q6.out.same hl.1 (.inr (by omega))
        have hn2:d2.length=d.length:=by rw [hl.1.1,HN1.out]
        have HL:=Lib.hid hl;have S1:=Lib.hid s1;have S2:=Lib.hid s2;have HN:=Lib.hid hn2
        clear hl s1 s2 hn2
        by_cases hrr:M < E∧E < y
        ·obtain ⟨hr1,hr2⟩:=hrr
         have C:=Lib.hid (IH.out M E y d2 W2 hR2 HN.out hr1 hr2 hy hbig (HC.out.later hg2) S1.out S2.out (by omega))
         go_wp2_with fail
         all_goals
          refine C.out.mono ?_
          rintro e W3 ⟨rfl,d3,hD3,hR3,hg3⟩
          go_wp2_with fail
          go_end0
          exact ⟨rfl,d3,Srt.both_done (by omega) (by omega) hy Q1.out Q2.out Q7.out HL.out hD3,hR3,grownR_trans hg2 hg3⟩
        ·have hD3:Srt.Done key d2 d2 M y:=by
          refine Srt.Done.refl_of ?_
          by_cases e9:M < E
          ·obtain rfl:E=y:=by omega
           exact S1.out
          ·obtain rfl:M=E:=by omega
           exact S2.out
         have HD3:=Lib.hid hD3
         have hr0:¬(M < E)∨¬(E < y):=by omega
         clear hD3 hrr
         rcases hr0 with hr0 | hr0
         all_goals
          go_wp2_with fail
          all_goals
           go_end0
           exact ⟨rfl,d2,Srt.both_done (by omega) (by omega) hy Q1.out Q2.out Q7.out HL.out HD3.out,hR2,hg2⟩
      ·have hl0:¬(p < st)∨¬(st < M):=by omega
       have hl:=Srt.left_done (d2:=d1) Q3.out Q4.out (fun h=>absurd h hll) (fun _=>rfl) f1 f5
       clear hll
       obtain ⟨d2,rfl⟩:∃d2,d2=d1:=⟨_,rfl⟩
       obtain ⟨W2,rfl⟩:∃W2:World,W2=W1:=⟨_,rfl⟩
       have hR2:=hR1
       have hg2:=hg1
       clear hR1 hg1
       rcases hl0 with hl0 | hl0
       all_goals
        have s1:Srt.SortedOn key d2 M E:=Q5.out.same hl.1 (.inr (Nat.le_refl _))
        have s2:Srt.SortedOn key d2 E y:=Q6.out.same hl.1 (.inr (by omega))
        have hn2:d2.length=d.length:=by rw [hl.1.1,HN1.out]
        have HL:=Lib.hid hl;have S1:=Lib.hid s1;have S2:=Lib.hid s2;have HN:=Lib.hid hn2
        clear hl s1 s2 hn2
        by_cases hrr:M < E∧E < y
        ·obtain ⟨hr1,hr2⟩:=hrr
         have C:=Lib.hid (IH.out M E y d2 W2 hR2 HN.out hr1 hr2 hy hbig (HC.out.later hg2) S1.out S2.out (by omega))
         go_wp2_with fail
         all_goals
          refine C.out.mono ?_
          rintro e W3 ⟨rfl,d3,hD3,hR3,hg3⟩
          go_wp2_with fail
          go_end0
          exact ⟨rfl,d3,Srt.both_done (by omega) (by omega) hy Q1.out Q2.out Q7.out HL.out hD3,hR3,grownR_trans hg2 hg3⟩
        ·have hD3:Srt.Done key d2 d2 M y:=by
          refine Srt.Done.refl_of ?_
          by_cases e9:M < E
          ·obtain rfl:E=y:=by omega
           exact S1.out
          ·obtain rfl:M=E:=by omega
           exact S2.out
         have HD3:=Lib.hid hD3
         have hr0:¬(M < E)∨¬(E < y):=by omega
         clear hD3 hrr
         rcases hr0 with hr0 | hr0
         all_goals
          go_wp2_with fail
          all_goals
           go_end0
           exact ⟨rfl,d2,Srt.both_done (by omega) (by omega) hy Q1.out Q2.out Q7.out HL.out HD3.out,hR2,hg2⟩
theorem sym_any (b B off n c:Nat) (e:TypeId) (key:Int→Int) (pre post:List Value) (f:Nat):∀(p m y:Nat) (d:List Int) (w:World),y - p≤f→Row w b off e pre post d→d.length=n→p < m→m < y→y≤n→n≤1099511627776→Cmps b B w key→
  Srt.SortedOn key d p m→Srt.SortedOn key d m y→
  Calls Tryz.prog 192 #[.slice (some ⟨b,off,none⟩) n c,.int .i64 p,.int .i64 m,.int .i64 y,(.func (.func 123) #[] #[.pointer (some ⟨B,0,none⟩)])] w (RetRow (fun d'=>Srt.Done key d d' p y) b off e pre post w):=by
 induction f with
 | zero=>intro p m y d w hf _ _ h1 h2;omega
 | succ f ih=>
  intro p m y d w hf hR hn hpm hmy hy hbig hC hs1 hs2
  by_cases h1:m=p+1
  ·subst h1
   have:=symLeft_any b B off n c p y e key d pre post w hR hn hmy hy hbig hC hs2
   rw [show ((p+1:Nat):Int)=(p:Int)+1 by omega]
   exact this
  ·by_cases h2:y=m+1
   ·subst h2
    have:=symRight_any b B off n c p m e key d pre post w hR hn (by omega) hy hbig hC hs1
    rw [show ((m+1:Nat):Int)=(m:Int)+1 by omega]
    exact this
   ·exact sym_step b B off n c p m y e key d pre post w (fun p' m' y' d' w' g1 g2 g3 g4 g5 g6 g7 g8 g9 g10=>ih p' m' y' d' w' (by omega) g1 g2 g3 g4 g5 g6 g7 g8 g9) hR hn hpm hmy hy hbig hC hs1 hs2 h1 h2
end Go.Proofs.YtkhmjidaeliccaaGreatDoor
