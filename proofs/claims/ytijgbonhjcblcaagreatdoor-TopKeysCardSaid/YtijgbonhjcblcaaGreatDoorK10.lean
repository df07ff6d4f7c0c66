/- Texts that are merged into one file: Row, SortFnA, SortFnB, SortPlain2, SortFnC. -/
import Derived.Test.YtijgbonhjcblcaaGreatDoorK01
import Derived.Test.YtijgbonhjcblcaaGreatDoorK03
import Derived.Test.YtijgbonhjcblcaaGreatDoorProg
import Derived.RegionTactic
import Derived.BigRegion
import Derived.Outline
import Derived.StillTailTactics
import Derived.Deep.RegionWith
import Derived.Deep.QuietTactic
import Derived.BigQuiet
set_option maxRecDepth 100000
set_option maxHeartbeats 51200000
namespace Go.Proofs.YtijgbonhjcblcaaGreatDoor
open Go.RowKit
def Blk (w:World) (b:Nat) (e:TypeId) (pre cs post:List Value):Prop:=w.heap[b]?=some (.cells (pre++cs++post).toArray e (0,0))
def Row (w:World) (b off:Nat) (e:TypeId) (pre post:List Value) (d:List Int):Prop:=pre.length=off∧Blk w b e pre (d.map (Value.int .i64)) post
section
variable {w w':World} {b off:Nat} {e:TypeId} {pre post:List Value} {d:List Int}
theorem Blk.lt {cs:List Value} (h:Blk w b e pre cs post):b < w.heap.size:=(Array.getElem?_eq_some_iff.1 h).1
theorem Row.lt (h:Row w b off e pre post d):b < w.heap.size:=Blk.lt h.2
theorem Row.cell (h:Row w b off e pre post d) {i:Nat} {x:Int} (hi:d[i]?=some x):w.cell? ⟨b,off+i,none⟩=some (.int .i64 x):=by
 rw [cell_of_row w b (off+i) _ e (0,0) h.2]
 have hl:i < d.length:=(List.getElem?_eq_some_iff.1 hi).1
 rw [List.getElem?_toArray,List.append_assoc,List.getElem?_append_right (by have:=h.1;omega),List.getElem?_append_left (by simp;have:=h.1;omega),List.getElem?_map]
 rw [show off+i - pre.length=i by have:=h.1;omega,hi]
 rfl
theorem Row.frozen (h:Row w b off e pre post d) (i:Nat):w.frozen? ⟨b,i,none⟩=false:=by
 have h2:=h.2
 unfold Blk at h2
 simp [World.frozen?,h2]
theorem Row.set (h:Row w b off e pre post d) {i:Nat} (hi:i < d.length) (v:Int):Row (w.setCell ⟨b,off+i,none⟩ (.int .i64 v)) b off e pre post (d.set i v):=by
 refine ⟨h.1,?_⟩
 have h2:=h.2
 have h1:=h.1
 unfold Blk at h2 ⊢
 simp only [World.setCell,Array.getElem?_modify,h2]
 simp only [if_true,Option.map_some,Option.some.injEq,Obj.cells.injEq,and_true]
 apply Array.ext'
 simp only [Option.isSome_none,Bool.false_eq_true,if_false,Array.toList_setIfInBounds,List.map_set]
 rw [List.append_assoc,List.set_append_right _ _ (by omega),List.set_append_left _ _ (by simp;omega),show off+i - pre.length=i by omega,←List.append_assoc]
theorem Row.keep (h:Row w b off e pre post d) (hb:w'.heap[b]?=w.heap[b]?):Row w' b off e pre post d:=⟨h.1,hb.trans h.2⟩
theorem Row.drewN (h:Row w b off e pre post d) (n:Nat):Row (w.drewN n) b off e pre post d:=h
theorem Row.drew (h:Row w b off e pre post d):Row w.drew b off e pre post d:=h
theorem Row.below (h:Row w b off e pre post d) (hb:Below w.heap.size w w'):Row w' b off e pre post d:=h.keep (hb.block b h.lt)
theorem grownR_refl (w:World) (r:Option Nat):w.grownBy w r:=⟨rfl,rfl,rfl,Nat.le_refl _,fun _ _ _=>rfl⟩
theorem grownR_trans {a c:World} {r:Option Nat} (h:a.grownBy w r) (g:w.grownBy c r):a.grownBy c r:=
 ⟨g.os.trans h.os,g.tape.trans h.tape,g.output.trans h.output,Nat.le_trans h.size g.size,fun k hk hne=>(g.block k (Nat.lt_of_lt_of_le hk h.size) hne).trans (h.block k hk hne)⟩
theorem grownR_below {a:World} {r:Option Nat} (h:a.grownBy w r) (g:Below w.heap.size w w'):a.grownBy w' r:=
 grownR_trans h ⟨g.os,g.tape,g.output,g.size,fun k hk _=>g.block k hk⟩
theorem grownR_drewN {a:World} {r:Option Nat} (h:a.grownBy w r) (n:Nat):a.grownBy (w.drewN n) r:=grownR_below h (below_of_drewN w n)
theorem grownR_drew {a:World} {r:Option Nat} (h:a.grownBy w r):a.grownBy w.drew r:=grownR_below h (below_of_drewN w 1)
theorem grown_row {a:World} (h:a.grownBy w (some b)) (i:Nat) (v:Value):a.grownBy (w.setCell ⟨b,i,none⟩ v) (some b):=
 grownR_trans h ⟨rfl,rfl,rfl,by simp [World.setCell],fun k _ hne=>Below.heap_setCell _ _ _ _ (by rintro rfl;exact hne rfl)⟩
end
end Go.Proofs.YtijgbonhjcblcaaGreatDoor
namespace Go.Proofs.YtijgbonhjcblcaaGreatDoor
open Go.RowKit
def RetRow (R:List Int→Prop) (b off:Nat) (e:TypeId) (pre post:List Value) (w:World) (x:Ending) (w':World):Prop:=
 x=.returned (.tuple #[])∧∃d',R d'∧Row w' b off e pre post d'∧w.grownBy w' (some b)
def SwR (d:List Int) (p q k:Nat) (d':List Int):Prop:=
 d'.length=d.length∧∀t,d'[t]?=if p≤t∧t < p+k then d[t+(q - p)]? else if q≤t∧t < q+k then d[t - (q - p)]? else d[t]?
theorem SwR.step {d d1:List Int} {p q k m:Nat} {x y:Int} (h:SwR d p q k d1) (hk:k < m) (hpq:p+m≤q) (hx:d1[p+k]?=some x) (hy:d1[q+k]?=some y) :
  SwR d p q (k+1) (Srt.swp d1 (p+k) (q+k) x y):=by
 refine ⟨(Srt.swp_len _ _ _ _ _).trans h.1,fun t=>?_⟩
 rw [Srt.swp_get d1 (p+k) (q+k) t x y hx hy (by omega),h.2,h.2,h.2]
 (repeat' split) <;> first | rfl | omega | (congr 1;omega)
theorem get_of_lt {d:List Int} {i:Nat} (h:i < d.length):∃x,d[i]?=some x:=⟨d[i],List.getElem?_eq_getElem h⟩
theorem swapRange_any (b off n c p q m:Nat) (e:TypeId) (g:Value) (d:List Int) (pre post:List Value) (w:World) (hR:Row w b off e pre post d) (hn:d.length=n)
  (hpq:p+m≤q) (hq:q+m≤n) (hbig:n≤1099511627776) :
  Calls Tryz.prog 171 #[.slice (some ⟨b,off,none⟩) n c,.int .i64 p,.int .i64 q,.int .i64 m,g] w (RetRow (SwR d p q m) b off e pre post w):=by
 subst hn
 go_enter Tryz.func171,Tryz.ntmps171
 go_wp2
 go_loopw [10] (fun i wr=>∃(k:Nat) (d1:List Int),k≤m∧i=.int .i64 k∧SwR d p q k d1∧Row wr b off e pre post d1∧w.grownBy wr (some b)) (fun i _=>m - (intOf i).toNat)
 case atStart=>
  refine ⟨0,d,Nat.zero_le _,rfl,⟨rfl,fun t=>?_⟩,hR,grownR_refl _ _⟩
  rw [if_neg (by omega),if_neg (by omega)]
 case round=>
  obtain ⟨k,d1,hk,rfl,hS,hR1,hg⟩:=hrel
  by_cases hlt:k < m
  ·obtain ⟨x,hx⟩:=get_of_lt (d:=d1) (i:=p+k) (by rw [hS.1];omega)
   obtain ⟨y,hy⟩:=get_of_lt (d:=d1) (i:=q+k) (by rw [hS.1];omega)
   have cx:=hR1.cell hx
   have cy:=hR1.cell hy
   have fx:=hR1.frozen (off+(p+k))
   have fy:=hR1.frozen (off+(q+k))
   have hne:¬(p+k=q+k):=by omega
   have HX:=Lib.hid hx;have HY:=Lib.hid hy;clear hx hy
   go_wp2
   go_region
   go_wp2
   go_roundw
   case rel=>
    refine ⟨k+1,Srt.swp d1 (p+k) (q+k) x y,by omega,by go_num,hS.step hlt hpq HX.out HY.out,?_,?_⟩
    ·exact (Row.set (hR1.set (by rw [hS.1];omega) y) (by rw [List.length_set,hS.1];omega) x).drew
    ·exact grownR_drew (grown_row (grown_row hg _ _) _ _)
   case measure=>simp [intOf];omega
  ·go_wp2
   go_end0
   obtain rfl:k=m:=by omega
   exact ⟨rfl,d1,hS,hR1,hg⟩
theorem rot_gt {d0 d1 d2:List Int} {a m b i j:Nat} (him:i≤m) (hij:j < i)
  (h:∀d',Srt.Rot d1 d' (m - i) m (m+j)→Srt.Rot d0 d' a m b) (hS:SwR d1 (m - i) m j d2):∀d',Srt.Rot d2 d' (m - (i - j)) m (m+j)→Srt.Rot d0 d' a m b:=by
 intro d' hr
 apply h
 refine ⟨hr.1.trans hS.1,fun t=>?_⟩
 rw [hr.2 t]
 simp only [hS.2]
 (repeat' split) <;> first | rfl | omega | (congr 1;omega)
theorem rot_lt {d0 d1 d2:List Int} {a m b i j:Nat} (him:i≤m) (hij:i < j)
  (h:∀d',Srt.Rot d1 d' (m - i) m (m+j)→Srt.Rot d0 d' a m b) (hS:SwR d1 (m - i) (m+j - i) i d2):∀d',Srt.Rot d2 d' (m - i) m (m+(j - i))→Srt.Rot d0 d' a m b:=by
 intro d' hr
 apply h
 refine ⟨hr.1.trans hS.1,fun t=>?_⟩
 rw [hr.2 t]
 simp only [hS.2]
 (repeat' split) <;> first | rfl | omega | (congr 1;omega)
theorem rot_eq {d0 d1 d2:List Int} {a m b i:Nat} (him:i≤m)
  (h:∀d',Srt.Rot d1 d' (m - i) m (m+i)→Srt.Rot d0 d' a m b) (hS:SwR d1 (m - i) m i d2):Srt.Rot d0 d2 a m b:=by
 apply h
 refine ⟨hS.1,fun t=>?_⟩
 rw [hS.2]
 (repeat' split) <;> first | rfl | omega | (congr 1;omega)
theorem rotate_any (b off n c x m y:Nat) (e:TypeId) (g:Value) (d:List Int) (pre post:List Value) (w:World) (hR:Row w b off e pre post d) (hn:d.length=n)
  (hxm:x < m) (hmy:m < y) (hy:y≤n) (hbig:n≤1099511627776) :
  Calls Tryz.prog 162 #[.slice (some ⟨b,off,none⟩) n c,.int .i64 x,.int .i64 m,.int .i64 y,g] w (RetRow (fun d'=>Srt.Rot d d' x m y) b off e pre post w):=by
 subst hn
 go_enter Tryz.func162,Tryz.ntmps162
 go_wp2
 go_loopw [10,11] (fun u v wr=>∃(i j:Nat) (d1:List Int),0 < i∧0 < j∧i≤m∧m+j≤d.length∧u=.int .i64 i∧v=.int .i64 j∧d1.length=d.length∧(∀d',Srt.Rot d1 d' (m - i) m (m+j)→Srt.Rot d d' x m y)∧
   Row wr b off e pre post d1∧w.grownBy wr (some b)) (fun u v _=>(intOf u).toNat+(intOf v).toNat)
 case atStart=>
  refine ⟨m - x,y - m,d,by omega,by omega,by omega,by omega,by go_num,by go_num,rfl,fun d' h=>?_,hR,grownR_refl _ _⟩
  rw [show m - (m - x)=x by omega,show m+(y - m)=y by omega] at h
  exact h
 case round=>
  obtain ⟨i,j,d1,hi,hj,him,hjn,rfl,rfl,hl,hrot,hR1,hg⟩:=hrel
  have HR:=Lib.hid hrot;have HL:=Lib.hid hl;clear hrot hl
  by_cases h1:j < i
  ·have e1:((i:Int) != (j:Int))=true:=by simp;omega
   have C:=Lib.hid (swapRange_any b off d.length c (m - i) m j e g d1 pre post wr hR1 HL.out (by omega) (by omega) hbig)
   have hz:((m:Int) - (i:Int))=((m - i:Nat):Int):=by omega
   rw [←hz] at C;clear hz
   go_wp2_with fail
   refine C.out.mono ?_
   rintro e w1 ⟨rfl,d2,hS,hR2,hg2⟩
   go_wp2_with fail
   go_roundw
   case rel=>exact ⟨i - j,j,d2,by omega,by omega,by omega,by omega,by go_num,rfl,hS.1.trans HL.out,rot_gt him h1 HR.out hS,hR2,grownR_trans hg hg2⟩
   case measure=>simp [intOf];omega
  ·by_cases h2:i < j
   ·have e1:((i:Int) != (j:Int))=true:=by simp;omega
    have C:=Lib.hid (swapRange_any b off d.length c (m - i) (m+j - i) i e g d1 pre post wr hR1 HL.out (by omega) (by omega) hbig)
    have hz:((m:Int) - (i:Int))=((m - i:Nat):Int):=by omega
    have hz':((m:Int)+(j:Int) - (i:Int))=((m+j - i:Nat):Int):=by omega
    rw [←hz,←hz'] at C;clear hz hz'
    go_wp2_with fail
    refine C.out.mono ?_
    rintro e w1 ⟨rfl,d2,hS,hR2,hg2⟩
    go_wp2_with fail
    go_roundw
    case rel=>exact ⟨i,j - i,d2,by omega,by omega,by omega,by omega,rfl,by go_num,hS.1.trans HL.out,rot_lt him h2 HR.out hS,hR2,grownR_trans hg hg2⟩
    case measure=>simp [intOf];omega
   ·obtain rfl:i=j:=by omega
    have e1:((i:Int) != (i:Int))=false:=by simp
    have C:=Lib.hid (swapRange_any b off d.length c (m - i) m i e g d1 pre post wr hR1 HL.out (by omega) (by omega) hbig)
    have hz:((m:Int) - (i:Int))=((m - i:Nat):Int):=by omega
    rw [←hz] at C;clear hz
    go_wp2_with fail
    refine C.out.mono ?_
    rintro e w1 ⟨rfl,d2,hS,hR2,hg2⟩
    go_wp2_with fail
    go_end0
    exact ⟨rfl,d2,rot_eq him HR.out hS,hR2,grownR_trans hg hg2⟩
end Go.Proofs.YtijgbonhjcblcaaGreatDoor
namespace Go.Proofs.YtijgbonhjcblcaaGreatDoor
open Go.RowKit
def RetCmpS (p:Prop) (w:World) (x:Ending) (w':World):Prop:=∃c:Int,x=.returned (.int .i64 c)∧(c < 0 ↔ p)∧Below w.heap.size w w'
def Cmps (b B:Nat) (w0:World) (key:Int→Int):Prop:=
 ∀W,w0.grownBy W (some b)→∀x y:Int,Calls Tryz.prog 121 #[.int .i64 x,.int .i64 y,.pointer (some ⟨B,0,none⟩)] W (RetCmpS (key x < key y) W)
theorem Cmps.later {b B:Nat} {w0 w1:World} {key:Int→Int} (h:Cmps b B w0 key) (hg:w0.grownBy w1 (some b)):Cmps b B w1 key:=fun W hW=>h W (grownR_trans hg hW)
theorem insertion_any (b B off n c p q:Nat) (e:TypeId) (key:Int→Int) (d:List Int) (pre post:List Value) (w:World) (hR:Row w b off e pre post d) (hn:d.length=n)
  (hpq:p≤q) (hq:q≤n) (hbig:n≤1099511627776) (hC:Cmps b B w key) :
  Calls Tryz.prog 139 #[.slice (some ⟨b,off,none⟩) n c,.int .i64 p,.int .i64 q,.func (.func 121) #[] #[.pointer (some ⟨B,0,none⟩)]] w
   (RetRow (fun d'=>Srt.Done key d d' p q) b off e pre post w):=by
 subst hn
 have HC:=Lib.hid hC;clear hC
 go_enter Tryz.func139,Tryz.ntmps139
 go_wp2
 go_loopw [8] (fun i wr=>∃(k:Nat) (d1:List Int),p+1≤k∧(k≤q∨k=p+1)∧i=.int .i64 k∧Srt.Same d d1 p q∧Srt.St key d d1∧Srt.SortedOn key d1 p k∧Row wr b off e pre post d1∧w.grownBy wr (some b)) (fun i _=>q - (intOf i).toNat)
 case atStart=>exact ⟨p+1,d,Nat.le_refl _,.inr rfl,by go_num,Srt.Same.refl _ _ _,Srt.St.refl _,Srt.SortedOn.short (Nat.le_refl _),hR,grownR_refl _ _⟩
 case round=>
  obtain ⟨k,d1,hk1,hk2,rfl,hsame,hst,hso,hR1,hg⟩:=hrel
  have HA:=Lib.hid hsame;have HT:=Lib.hid hst;have HO:=Lib.hid hso
  clear hsame hst hso
  by_cases hlt:k < q
  ·obtain ⟨wo,rfl⟩:∃wo:World,wo=wr:=⟨_,rfl⟩
   go_wp2
   go_loopw [9] (fun i wr=>∃(j:Nat) (d2:List Int),p≤j∧j≤k∧i=.int .i64 j∧Srt.Same d d2 p q∧Srt.St key d d2∧Srt.Ins key d2 p k j∧Row wr b off e pre post d2∧w.grownBy wr (some b)) (fun i _=>(intOf i).toNat)
   case atStart=>exact ⟨k,d1,by omega,Nat.le_refl _,rfl,HA.out,HT.out,Srt.Ins.start HO.out,hR1,hg⟩
   case round=>
    obtain ⟨j,d2,hj1,hj2,rfl,hsame,hst,hins,hR2,hg2⟩:=hrel
    have HA2:=Lib.hid hsame;have HT2:=Lib.hid hst;have HI:=Lib.hid hins
    clear hsame hst hins
    by_cases hpj:p < j
    ·have hjn:j < d.length:=by omega
     obtain ⟨x,hx⟩:=get_of_lt (d:=d2) (i:=j - 1) (by rw [HA2.out.1];omega)
     obtain ⟨y,hy⟩:=get_of_lt (d:=d2) (i:=j) (by rw [HA2.out.1];omega)
     have cx:=hR2.cell hx
     have cy:=hR2.cell hy
     have HX:=Lib.hid hx;have HY:=Lib.hid hy
     have C:=Lib.hid (fun W hW=>HC.out W hW y x)
     clear hx hy
     have i0:decide (p < j)=true:=by simp;omega
     have i1:IntKind.i64.wrap ((j:Int) - 1)=(j:Int) - 1:=IntWalk.i64_in _ (by omega)
     have i2:(0:Int)≤(j:Int) - 1:=by omega
     have i2':(1:Int)≤(j:Int):=by omega
     have i2'':1≤j:=by omega
     have i3:((j:Int) - 1).toNat=j - 1:=by omega
     have i4:(j:Int) - 1 < (d.length:Int):=by omega
     go_wp2
     refine wp_region_still_tail 14 (by kernel_rfl) (by kernel_rfl) ?_
     simp only [List.take_succ_cons,List.take_zero,List.drop_succ_cons,List.drop_zero]
     change wpStill _ _ wr.drew _ _ _
     repeat still_step
     refine wpStill_nil ?_
     change wpList _ _ _ _ _ wr.drew
     go_wp2_with fail
     refine (C.out _ (grownR_drew hg2)).mono ?_
     rintro e w3 ⟨cc,rfl,hcc,hb3⟩
     have hR3:=(hR2.drew).below hb3
     have hg3:=grownR_below (grownR_drew hg2) hb3
     have cx3:=hR3.cell HX.out
     have cy3:=hR3.cell HY.out
     have fx3:=hR3.frozen (off+(j - 1))
     have fy3:=hR3.frozen (off+j)
     clear hR2 hg2 hb3 cx cy
     by_cases hkey:key y < key x
     ·have hneg:cc < 0:=hcc.2 hkey
      clear hcc
      have hne:¬(j - 1=j):=by omega
      go_wp2
      go_region
      go_wp2
      go_roundw
      case rel=>
       refine ⟨j - 1,Srt.swp d2 (j - 1) j x y,by omega,by omega,by go_num,HA2.out.trans (Srt.swp_same HX.out HY.out (by omega) (by omega) (by omega) (by omega) (by omega)),HT2.out.trans ?_,?_,?_,?_⟩
       ·have:=Srt.swp_done (key:=key) (d:=d2) (j:=j - 1) HX.out (by rw [show j - 1+1=j by omega];exact HY.out) hkey
        rw [show j - 1+1=j by omega] at this;exact this
       ·have:=Srt.Ins.step (key:=key) (d:=d2) (a:=p) (i:=k) (j:=j - 1) (x:=x) (y:=y) (by rw [show j - 1+1=j by omega];exact HI.out) (by omega) (by omega) HX.out (by rw [show j - 1+1=j by omega];exact HY.out) hkey
        rw [show j - 1+1=j by omega] at this;exact this
       ·rw [Srt.swp,List.set_comm _ _ (by omega)]
        exact (Row.set (hR3.set (i:=j) (by rw [HA2.out.1];omega) x) (i:=j - 1) (by rw [List.length_set,HA2.out.1];omega) y).drew
       ·exact grownR_drew (grown_row (grown_row hg3 _ _) _ _)
      case measure=>simp [intOf];omega
     ·have hneg:¬cc < 0:=fun h=>hkey (hcc.1 h)
      clear hcc
      go_wp2
      go_roundw
      case rel=>
       refine ⟨k+1,d2,by omega,.inl (by omega),by go_num,HA2.out,HT2.out,HI.out.stop hj1 hj2 (.inr ?_),hR3,hg3⟩
       rw [Srt.kf_some HX.out,Srt.kf_some HY.out];omega
      case measure=>simp [intOf];omega
    ·have i0:decide (p < j)=false:=by simp;omega
     go_wp2
     go_quiet (fail)
     go_wp2
     go_roundw
     case rel=>exact ⟨k+1,d2,by omega,.inl (by omega),by go_num,HA2.out,HT2.out,HI.out.stop hj1 hj2 (.inl (by omega)),hR2.drewN _,grownR_drewN hg2 _⟩
     case measure=>simp [intOf];omega
  ·go_wp2
   go_end0
   refine ⟨rfl,d1,⟨HA.out,HT.out,?_⟩,hR1,hg⟩
   by_cases hkq:q≤k
   ·exact HO.out.sub (Nat.le_refl _) hkq
   ·omega
end Go.Proofs.YtijgbonhjcblcaaGreatDoor
namespace Go.Proofs.YtijgbonhjcblcaaGreatDoor.Srt
section
variable {α:Type} {key:α→Int}
theorem SortedOn.le {d:List α} {a b i j:Nat} (h:SortedOn key d a b) (h1:a≤i) (h2:i≤j) (h3:j < b):kf key d i≤kf key d j:=by
 by_cases e:i=j
 ·subst e;exact Int.le_refl _
 ·exact h i j h1 (by omega) h3
theorem found_of {d:List α} {a m b st s0 r0:Nat} (ham:a < m) (h1:SortedOn key d a m) (h2:SortedOn key d m b)
  (hs:((a+b) / 2 < m∧s0=(a+b) / 2+m - b∧r0=(a+b) / 2)∨(m≤(a+b) / 2∧s0=a∧r0=m))
  (hlo:s0≤st) (hhi:st≤r0) (hyes:∀c,s0≤c→c < st→kf key d c≤kf key d ((a+b) / 2+m - 1 - c)) (hno:∀c,st≤c→c < r0→kf key d ((a+b) / 2+m - 1 - c) < kf key d c) :
  Found key d a m b st:=by
 generalize hM:(a+b) / 2=M at *
 have hM1:2*M≤a+b:=by omega
 have hM2:a+b≤2*M+1:=by omega
 have e1:a≤st:=by omega
 have e2:st≤m:=by omega
 have e3:st≤M:=by omega
 have e4:M+m - st≤b:=by omega
 refine ⟨e1,e2,?_,?_,?_,?_,?_⟩
 ·rw [hM];omega
 ·rw [hM];exact e4
 ·rw [hM];exact e3
 ·intro i j g1 g2 g3 g4
  rw [hM] at g3
  by_cases e:s0 < st
  ·have k1:=hyes (st - 1) (by omega) (by omega)
   rw [show M+m - 1 - (st - 1)=M+m - st by omega] at k1
   have k2:=h1.le (i:=i) (j:=st - 1) g1 (by omega) (by omega)
   have k3:=h2.le (i:=M+m - st) (j:=j) (by omega) g3 g4
   omega
  ·omega
 ·intro i j g1 g2 g3 g4
  rw [hM] at g4
  by_cases e:st < r0
  ·have k1:=hno st (Nat.le_refl _) e
   have k2:=h1.le (i:=st) (j:=i) e1 g1 g2
   have k3:=h2.le (i:=j) (j:=M+m - 1 - st) g3 (by omega) (by omega)
   omega
  ·omega
theorem rot_triv {d:List α} {a m b:Nat} (h1:a≤m) (h2:m≤b) (h:a=m∨m=b):Rot d d a m b:=by
 refine ⟨rfl,fun t=>?_⟩
 (repeat' split) <;> first | rfl | (congr 1;omega)
theorem seg_mem {d d':List α} {a b:Nat} (hs:Same d d' a b) (ht:St key d d') (hab:a≤b) (hb:b≤d.length) {i:Nat} (h1:a≤i) (h2:i < b) :
  ∃i',a≤i'∧i' < b∧d'[i]?=d[i']?:=by
 have p1:=parts d a a b (Nat.le_refl _) hab
 have p2:=parts d' a a b (Nat.le_refl _) hab
 simp only [Nat.sub_self,List.take_zero,List.nil_append] at p1 p2
 have t1:d'.take a=d.take a:=by
  apply List.ext_getElem?
  intro t
  simp only [List.getElem?_take]
  split
  ·exact hs.2 t (by omega)
  ·rfl
 have t2:d'.drop b=d.drop b:=by
  apply List.ext_getElem?
  intro t
  simp only [List.getElem?_drop]
  exact hs.2 _ (by omega)
 rw [t1,t2] at p2
 have hlen:i < d'.length:=by rw [hs.1];omega
 obtain ⟨x,hx⟩:∃x,d'[i]?=some x:=⟨_,List.getElem?_eq_getElem hlen⟩
 have hf:=ht (key x)
 rw [p1,p2] at hf
 simp only [List.filter_append,List.append_assoc,List.append_cancel_left_eq,List.append_cancel_right_eq] at hf
 have hmem:x ∈ ((d'.drop a).take (b - a)).filter (fun y=>key y==key x):=by
  rw [List.mem_filter]
  refine ⟨?_,by simp⟩
  rw [List.mem_iff_getElem?]
  refine ⟨i - a,?_⟩
  rw [List.getElem?_take,if_pos (by omega),List.getElem?_drop,show a+(i - a)=i by omega,hx]
 rw [hf,List.mem_filter] at hmem
 obtain ⟨q,hq⟩:=List.mem_iff_getElem?.1 hmem.1
 rw [List.getElem?_take] at hq
 split at hq
 ·rw [List.getElem?_drop] at hq
  exact ⟨a+q,by omega,by omega,by rw [hx,hq]⟩
 ·cases hq
theorem seg_kf {d d':List α} {a b:Nat} (hs:Same d d' a b) (ht:St key d d') (hab:a≤b) (hb:b≤d.length) {i:Nat} (h1:a≤i) (h2:i < b) :
  ∃i',a≤i'∧i' < b∧kf key d' i=kf key d i':=by
 obtain ⟨i',g1,g2,g3⟩:=seg_mem hs ht hab hb h1 h2
 exact ⟨i',g1,g2,by unfold kf;rw [g3]⟩
theorem Done.refl_of {d:List α} {a b:Nat} (h:SortedOn key d a b):Done key d d a b:=⟨Same.refl _ _ _,St.refl _,h⟩
theorem left_done {d1 d2:List α} {a st M:Nat} (h1:SortedOn key d1 a st) (h2:SortedOn key d1 st M) (g1:a < st∧st < M→Done key d1 d2 a M) (g2:¬(a < st∧st < M)→d2=d1) (hast:a≤st) (hstM:st≤M):Done key d1 d2 a M:=by
 by_cases h:a < st∧st < M
 ·exact g1 h
 ·rw [g2 h]
  refine Done.refl_of ?_
  by_cases e:a=st
  ·subst e;exact h2
  ·obtain rfl:st=M:=by omega
   exact h1
theorem both_done {d d1 d2 d3:List α} {a M b:Nat} (haM:a≤M) (hMb:M≤b) (hb:b≤d.length) (h0:Same d d1 a b) (t0:St key d d1)
  (hx:∀i j,a≤i→i < M→M≤j→j < b→kf key d1 i≤kf key d1 j) (hl:Done key d1 d2 a M) (hr:Done key d2 d3 M b):Done key d d3 a b:=by
 refine ⟨(h0.trans (hl.1.mono (Nat.le_refl _) hMb)).trans (hr.1.mono haM (Nat.le_refl _)),(t0.trans hl.2.1).trans hr.2.1,?_⟩
 refine SortedOn.join (hl.2.2.same hr.1 (.inl (Nat.le_refl _))) hr.2.2 ?_
 intro i j g1 g2 g3 g4
 rw [hr.1.kf (t:=i) (by omega)]
 obtain ⟨i',a1,a2,a3⟩:=seg_kf hl.1 hl.2.1 haM (by rw [h0.1];omega) g1 g2
 obtain ⟨j',b1,b2,b3⟩:=seg_kf hr.1 hr.2.1 hMb (by rw [hl.1.1,h0.1];omega) g3 g4
 rw [a3,b3,hl.1.kf (t:=j') (by omega)]
 exact hx i' j' a1 a2 b1 b2
def Bl (key:α→Int) (d:List α) (bs s n:Nat):Prop:=∀r,SortedOn key d (s+r*bs) (min (s+(r+1)*bs) n)
theorem Bl.first {d:List α} {bs s n:Nat} (h:Bl key d bs s n):SortedOn key d s (min (s+bs) n):=by
 have:=h 0
 simpa using this
theorem Bl.next {d:List α} {bs s n:Nat} (h:Bl key d bs s n):Bl key d bs (s+bs) n:=by
 intro r
 have:=h (r+1)
 rw [show s+bs+r*bs=s+(r+1)*bs by rw [Nat.add_mul];omega,show s+bs+(r+1)*bs=s+(r+1+1)*bs by rw [Nat.add_mul (r+1)];omega]
 exact this
theorem Bl.same {d d':List α} {bs s n x y:Nat} (h:Bl key d bs s n) (hs:Same d d' x y) (hd:y≤s):Bl key d' bs s n:=fun r=>(h r).same hs (.inr (by omega))
theorem Bl.all {d:List α} {bs n:Nat} (h:Bl key d bs 0 n) (hn:n≤bs):SortedOn key d 0 n:=by
 have:=h.first
 rw [Nat.zero_add,Nat.min_eq_right hn] at this
 exact this
def Pf (key:α→Int) (d:List α) (bs q:Nat):Prop:=∀r,r < q→SortedOn key d (r*bs) (r*bs+bs)
theorem Pf.zero {d:List α} {bs:Nat}:Pf key d bs 0:=fun r h=>by omega
theorem Pf.succ {d d':List α} {bs q:Nat} (h:Pf key d bs q) (hs:Same d d' (q*bs) (q*bs+bs)) (hn:SortedOn key d' (q*bs) (q*bs+bs)):Pf key d' bs (q+1):=by
 intro r hr
 by_cases e:r=q
 ·subst e;exact hn
 ·refine (h r (by omega)).same hs (.inl ?_)
  have:=Nat.mul_le_mul_right bs (show r+1≤q by omega)
  rw [Nat.add_mul] at this;omega
theorem Bl.of_pf {d d':List α} {bs q n:Nat} (h:Pf key d bs q) (hq:q*bs≤n) (hn:n < q*bs+bs) (hs:Same d d' (q*bs) n) (hl:SortedOn key d' (q*bs) n):Bl key d' bs 0 n:=by
 intro r
 rw [Nat.zero_add,Nat.zero_add]
 by_cases e:r < q
 ·have h1:=Nat.mul_le_mul_right bs (show r+1≤q by omega)
  rw [Nat.min_eq_left (by omega),Nat.add_mul]
  rw [Nat.add_mul] at h1
  rw [Nat.one_mul]
  exact (h r e).same hs (.inl (by omega))
 ·by_cases e2:r=q
  ·subst e2
   rw [Nat.min_eq_right (by rw [Nat.add_mul];omega)]
   exact hl
  ·have h1:=Nat.mul_le_mul_right bs (show q+1≤r by omega)
   rw [Nat.add_mul] at h1
   intro i j g1 g2 g3
   omega
theorem rot_snoc {d d1:List α} {a k:Nat} {x y:α} (h:Rot d d1 a (a+1) (k+1)) (hak:a≤k) (hx:d1[k]?=some x) (hy:d1[k+1]?=some y):Rot d (swp d1 k (k+1) x y) a (a+1) (k+2):=by
 refine ⟨(swp_len _ _ _ _ _).trans h.1,fun t=>?_⟩
 rw [swp_get d1 k (k+1) t x y hx hy (by omega),h.2,h.2,h.2]
 (repeat' split) <;> first | rfl | omega | (congr 1;omega)
theorem rot_cons {d d1:List α} {k m:Nat} {x y:α} (h:Rot d d1 (k+1) m (m+1)) (hkm:k+1≤m) (hx:d1[k]?=some x) (hy:d1[k+1]?=some y):Rot d (swp d1 k (k+1) x y) k m (m+1):=by
 refine ⟨(swp_len _ _ _ _ _).trans h.1,fun t=>?_⟩
 rw [swp_get d1 k (k+1) t x y hx hy (by omega),h.2,h.2,h.2]
 (repeat' split) <;> first | rfl | omega | (congr 1;omega)
end
end Go.Proofs.YtijgbonhjcblcaaGreatDoor.Srt
namespace Go.Proofs.YtijgbonhjcblcaaGreatDoor
open Go.RowKit
theorem symLeft_any (b B off n c p y:Nat) (e:TypeId) (key:Int→Int) (d:List Int) (pre post:List Value) (w:World) (hR:Row w b off e pre post d) (hn:d.length=n)
  (hpy:p+1 < y) (hy:y≤n) (hbig:n≤1099511627776) (hC:Cmps b B w key) (hs:Srt.SortedOn key d (p+1) y) :
  Calls Tryz.prog 140 #[.slice (some ⟨b,off,none⟩) n c,.int .i64 p,.int .i64 ((p:Int)+1),.int .i64 y,.func (.func 121) #[] #[.pointer (some ⟨B,0,none⟩)]] w
   (RetRow (fun d'=>Srt.Done key d d' p y) b off e pre post w):=by
 subst hn
 have HC:=Lib.hid hC;have HS:=Lib.hid hs;clear hC hs
 obtain ⟨x,hx⟩:=get_of_lt (d:=d) (i:=p) (by omega)
 have HX:=Lib.hid hx;clear hx
 have e1:((p:Int)+1 - (p:Int)==1)=true:=by simp;omega
 go_enter Tryz.func140,Tryz.ntmps140
 go_wp2_with fail
 go_loopw [10,11] (fun u v wr=>∃i j:Nat,p+1≤i∧i≤j∧j≤y∧u=.int .i64 i∧v=.int .i64 j∧(∀t,p+1≤t→t < i→Srt.kf key d t < Srt.kf key d p)∧(∀t,j≤t→t < y→Srt.kf key d p≤Srt.kf key d t)∧
   Row wr b off e pre post d∧w.grownBy wr (some b)) (fun u v _=>(intOf v).toNat - (intOf u).toNat)
 case atStart=>exact ⟨p+1,y,Nat.le_refl _,by omega,Nat.le_refl _,by go_num,rfl,fun t h1 h2=>by omega,fun t h1 h2=>by omega,hR,grownR_refl _ _⟩
 case round=>
  obtain ⟨i,j,hi,hij,hj,rfl,rfl,hlo,hhi,hR1,hg⟩:=hrel
  have HLO:=Lib.hid hlo;have HHI:=Lib.hid hhi;clear hlo hhi
  by_cases hlt:i < j
  ·obtain ⟨h,hh,h1,h2,h3⟩:∃h:Nat,((i:Int)+(j:Int)) / 2=(h:Int)∧i≤h∧h < j∧h < d.length:=⟨(i+j) / 2,by omega,by omega,by omega,by omega⟩
   obtain ⟨z,hz⟩:=get_of_lt (d:=d) (i:=h) h3
   have cx:=hR1.cell HX.out
   have cz:=hR1.cell hz
   have HZ:=Lib.hid hz
   have C:=Lib.hid (fun W hW=>HC.out W hW z x)
   clear hz
   have hpn:p < d.length:=by omega
   go_wp2_with fail
   clear hh
   refine wp_region_still_tail 9 (by kernel_rfl) (by kernel_rfl) ?_
   simp only [List.take_succ_cons,List.take_zero,List.drop_succ_cons,List.drop_zero]
   change wpStill _ _ wr.drew _ _ _
   repeat still_step
   refine wpStill_nil ?_
   change wpList _ _ _ _ _ wr.drew
   go_wp2_with fail
   refine (C.out _ (grownR_drew hg)).mono ?_
   rintro e w3 ⟨cc,rfl,hcc,hb3⟩
   have hR3:=(hR1.drew).below hb3
   have hg3:=grownR_below (grownR_drew hg) hb3
   clear hR1 hg hb3 cx cz
   by_cases hkey:key z < key x
   ·have hneg:cc < 0:=hcc.2 hkey
    clear hcc
    go_wp2
    go_roundw
    case rel=>
     refine ⟨h+1,j,by omega,by omega,hj,by go_num,rfl,fun t g1 g2=>?_,HHI.out,hR3,hg3⟩
     have k1:=HS.out.le (i:=t) (j:=h) g1 (by omega) (by omega)
     rw [Srt.kf_some HZ.out] at k1
     rw [Srt.kf_some HX.out];omega
    case measure=>simp [intOf];omega
   ·have hneg:¬cc < 0:=fun g=>hkey (hcc.1 g)
    clear hcc
    go_wp2
    go_roundw
    case rel=>
     refine ⟨i,h,hi,by omega,by omega,rfl,rfl,HLO.out,fun t g1 g2=>?_,hR3,hg3⟩
     have k1:=HS.out.le (i:=h) (j:=t) (by omega) g1 g2
     rw [Srt.kf_some HZ.out] at k1
     rw [Srt.kf_some HX.out];omega
    case measure=>simp [intOf];omega
  ·obtain rfl:i=j:=by omega
   obtain ⟨wo,rfl⟩:∃wo:World,wo=wr:=⟨_,rfl⟩
   go_wp2_with fail
   go_loopw [13] (fun u wr=>∃(k:Nat) (d1:List Int),p≤k∧k+1≤i∧u=.int .i64 k∧Srt.Rot d d1 p (p+1) (k+1)∧Row wr b off e pre post d1∧w.grownBy wr (some b)) (fun u _=>i - (intOf u).toNat)
   case atStart=>exact ⟨p,d,Nat.le_refl _,hi,rfl,Srt.rot_triv (by omega) (by omega) (.inr rfl),hR1,hg⟩
   case round=>
    obtain ⟨k,d1,hk1,hk2,rfl,hrot,hR2,hg2⟩:=hrel
    by_cases hki:k+1 < i
    ·obtain ⟨x1,hx1⟩:=get_of_lt (d:=d1) (i:=k) (by rw [hrot.1];omega)
     obtain ⟨y1,hy1⟩:=get_of_lt (d:=d1) (i:=k+1) (by rw [hrot.1];omega)
     have cx:=hR2.cell hx1
     have cy:=hR2.cell hy1
     have fx:=hR2.frozen (off+k)
     have fy:=hR2.frozen (off+(k+1))
     have HX1:=Lib.hid hx1;have HY1:=Lib.hid hy1;have HRO:=Lib.hid hrot;clear hx1 hy1 hrot
     go_wp2
     go_region
     go_wp2
     go_roundw
     case rel=>
      refine ⟨k+1,Srt.swp d1 k (k+1) x1 y1,by omega,by omega,by go_num,Srt.rot_snoc HRO.out hk1 HX1.out HY1.out,?_,?_⟩
      ·exact (Row.set (hR2.set (i:=k) (by rw [HRO.out.1];omega) y1) (i:=k+1) (by rw [List.length_set,HRO.out.1];omega) x1).drew
      ·exact grownR_drew (grown_row (grown_row hg2 _ _) _ _)
     case measure=>simp [intOf];omega
    ·obtain rfl:i=k+1:=by omega
     have HRO:=Lib.hid hrot;clear hrot
     go_wp2
     go_end0
     exact ⟨rfl,d1,Srt.Done.left HRO.out hi hj hy HS.out HLO.out HHI.out,hR2,hg2⟩
theorem symRight_any (b B off n c p m:Nat) (e:TypeId) (key:Int→Int) (d:List Int) (pre post:List Value) (w:World) (hR:Row w b off e pre post d) (hn:d.length=n)
  (hpm:p+1 < m) (hm:m+1≤n) (hbig:n≤1099511627776) (hC:Cmps b B w key) (hs:Srt.SortedOn key d p m) :
  Calls Tryz.prog 140 #[.slice (some ⟨b,off,none⟩) n c,.int .i64 p,.int .i64 m,.int .i64 ((m:Int)+1),.func (.func 121) #[] #[.pointer (some ⟨B,0,none⟩)]] w
   (RetRow (fun d'=>Srt.Done key d d' p (m+1)) b off e pre post w):=by
 subst hn
 have HC:=Lib.hid hC;have HS:=Lib.hid hs;clear hC hs
 obtain ⟨x,hx⟩:=get_of_lt (d:=d) (i:=m) (by omega)
 have HX:=Lib.hid hx;clear hx
 have e1:((m:Int) - (p:Int)==1)=false:=by simp;omega
 have e2:((m:Int)+1 - (m:Int)==1)=true:=by simp;omega
 go_enter Tryz.func140,Tryz.ntmps140
 go_wp2_with fail
 go_loopw [14,15] (fun u v wr=>∃i j:Nat,p≤i∧i≤j∧j≤m∧u=.int .i64 i∧v=.int .i64 j∧(∀t,p≤t→t < i→Srt.kf key d t≤Srt.kf key d m)∧(∀t,j≤t→t < m→Srt.kf key d m < Srt.kf key d t)∧
   Row wr b off e pre post d∧w.grownBy wr (some b)) (fun u v _=>(intOf v).toNat - (intOf u).toNat)
 case atStart=>exact ⟨p,m,Nat.le_refl _,by omega,Nat.le_refl _,rfl,rfl,fun t h1 h2=>by omega,fun t h1 h2=>by omega,hR,grownR_refl _ _⟩
 case round=>
  obtain ⟨i,j,hi,hij,hj,rfl,rfl,hlo,hhi,hR1,hg⟩:=hrel
  have HLO:=Lib.hid hlo;have HHI:=Lib.hid hhi;clear hlo hhi
  by_cases hlt:i < j
  ·obtain ⟨h,hh,h1,h2,h3⟩:∃h:Nat,((i:Int)+(j:Int)) / 2=(h:Int)∧i≤h∧h < j∧h < d.length:=⟨(i+j) / 2,by omega,by omega,by omega,by omega⟩
   obtain ⟨z,hz⟩:=get_of_lt (d:=d) (i:=h) h3
   have cx:=hR1.cell HX.out
   have cz:=hR1.cell hz
   have HZ:=Lib.hid hz
   have C:=Lib.hid (fun W hW=>HC.out W hW x z)
   clear hz
   have hpn:m < d.length:=by omega
   go_wp2_with fail
   clear hh
   refine wp_region_still_tail 9 (by kernel_rfl) (by kernel_rfl) ?_
   simp only [List.take_succ_cons,List.take_zero,List.drop_succ_cons,List.drop_zero]
   change wpStill _ _ wr.drew _ _ _
   repeat still_step
   refine wpStill_nil ?_
   change wpList _ _ _ _ _ wr.drew
   go_wp2_with fail
   refine (C.out _ (grownR_drew hg)).mono ?_
   rintro e w3 ⟨cc,rfl,hcc,hb3⟩
   have hR3:=(hR1.drew).below hb3
   have hg3:=grownR_below (grownR_drew hg) hb3
   clear hR1 hg hb3 cx cz
   by_cases hkey:key x < key z
   ·have hneg:decide (cc < 0)=true:=by simpa using hcc.2 hkey
    clear hcc
    go_wp2
    go_roundw
    case rel=>
     refine ⟨i,h,hi,by omega,by omega,rfl,rfl,HLO.out,fun t g1 g2=>?_,hR3,hg3⟩
     have k1:=HS.out.le (i:=h) (j:=t) (by omega) g1 g2
     rw [Srt.kf_some HZ.out] at k1
     rw [Srt.kf_some HX.out];omega
    case measure=>simp [intOf];omega
   ·have hneg:decide (cc < 0)=false:=by simpa using fun g=>hkey (hcc.1 g)
    clear hcc
    go_wp2
    go_roundw
    case rel=>
     refine ⟨h+1,j,by omega,by omega,hj,by go_num,rfl,fun t g1 g2=>?_,HHI.out,hR3,hg3⟩
     have k1:=HS.out.le (i:=t) (j:=h) g1 (by omega) (by omega)
     rw [Srt.kf_some HZ.out] at k1
     rw [Srt.kf_some HX.out];omega
    case measure=>simp [intOf];omega
  ·obtain rfl:i=j:=by omega
   obtain ⟨wo,rfl⟩:∃wo:World,wo=wr:=⟨_,rfl⟩
   go_wp2_with fail
   go_loopw [17] (fun u wr=>∃(k:Nat) (d1:List Int),i≤k∧k≤m∧u=.int .i64 k∧Srt.Rot d d1 k m (m+1)∧Row wr b off e pre post d1∧w.grownBy wr (some b)) (fun u _=>(intOf u).toNat)
   case atStart=>exact ⟨m,d,hj,Nat.le_refl _,rfl,Srt.rot_triv (by omega) (by omega) (.inl rfl),hR1,hg⟩
   case round=>
    obtain ⟨k,d1,hk1,hk2,rfl,hrot,hR2,hg2⟩:=hrel
    by_cases hki:i < k
    ·obtain ⟨x1,hx1⟩:=get_of_lt (d:=d1) (i:=k - 1) (by rw [hrot.1];omega)
     obtain ⟨y1,hy1⟩:=get_of_lt (d:=d1) (i:=k) (by rw [hrot.1];omega)
     have cx:=hR2.cell hx1
     have cy:=hR2.cell hy1
     have fx:=hR2.frozen (off+(k - 1))
     have fy:=hR2.frozen (off+k)
     have HX1:=Lib.hid hx1;have HY1:=Lib.hid hy1;have HRO:=Lib.hid hrot;clear hx1 hy1 hrot
     have i1:IntKind.i64.wrap ((k:Int) - 1)=(k:Int) - 1:=IntWalk.i64_in _ (by omega)
     have i2:(0:Int)≤(k:Int) - 1:=by omega
     have i2':(1:Int)≤(k:Int):=by omega
     have i2'':1≤k:=by omega
     have i3:((k:Int) - 1).toNat=k - 1:=by omega
     have i4:(k:Int) - 1 < (d.length:Int):=by omega
     have hne:¬(k - 1=k):=by omega
     go_wp2
     go_region
     go_wp2
     go_roundw
     case rel=>
      refine ⟨k - 1,Srt.swp d1 (k - 1) k x1 y1,by omega,by omega,by go_num,?_,?_,?_⟩
      ·have:=Srt.rot_cons (d:=d) (d1:=d1) (k:=k - 1) (m:=m) (x:=x1) (y:=y1) (by rw [show k - 1+1=k by omega];exact HRO.out) (by omega) HX1.out (by rw [show k - 1+1=k by omega];exact HY1.out)
       rw [show k - 1+1=k by omega] at this;exact this
      ·rw [Srt.swp,List.set_comm _ _ (by omega)]
       exact (Row.set (hR2.set (i:=k) (by rw [HRO.out.1];omega) x1) (i:=k - 1) (by rw [List.length_set,HRO.out.1];omega) y1).drew
      ·exact grownR_drew (grown_row (grown_row hg2 _ _) _ _)
     case measure=>simp [intOf];omega
    ·obtain rfl:i=k:=by omega
     have HRO:=Lib.hid hrot;clear hrot
     go_wp2
     go_end0
     exact ⟨rfl,d1,Srt.Done.right HRO.out hj hi hm HS.out HLO.out HHI.out,hR2,hg2⟩
end Go.Proofs.YtijgbonhjcblcaaGreatDoor
