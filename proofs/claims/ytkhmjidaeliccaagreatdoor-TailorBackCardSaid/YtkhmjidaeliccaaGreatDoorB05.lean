/- Texts that are merged into one file: OClass, OCheckPlain, OCheck, ORefCheck, OClassB, ORunsPlain, ORuns, OCollect, SortFnA. -/
import Derived.Test.YtkhmjidaeliccaaGreatDoorB02
import Derived.Test.YtkhmjidaeliccaaGreatDoorB03
import Derived.Test.YtkhmjidaeliccaaGreatDoorB04
import Derived.Test.YtkhmjidaeliccaaGreatDoorProg
import Derived.Outline
import Derived.RegionTactic
import Derived.BigRegion
import Derived.Deep.Light
import Derived.Deep.QuietTactic
import Derived.BigQuiet
import Derived.RangeFuncNested
import Derived.RangeFuncBound
import Derived.RangeFuncCalls
import Derived.RangeFuncLeaves
import Derived.Shelf.Abstract
import Derived.Shelf.RegionOpen
import Derived.WalkKit
import Derived.OwnWalkIn
import Derived.TacticsInMore
import Derived.LoopNIn
import Derived.LoopIn
import Derived.RangeFuncBox
import Derived.Maps.AppendAt
import Derived.Maps.OwnIn
set_option maxRecDepth 100000
set_option maxHeartbeats 51200000
namespace Go.Proofs.YtkhmjidaeliccaaGreatDoor
open Go.RowKit
def scmp (lo hi c:Int):Int:=if hi < c then -1 else if c < lo then 1 else 0
theorem classF_any (lo hi v c:Int) (w:World):Calls Tryz.prog 170 #[.agg #[.int .i64 lo,.int .i64 hi,.int .i64 v],.int .i64 c] w (RetInt (scmp lo hi c) w):=by
 unfold scmp
 by_cases h1:hi < c
 ·rw [if_pos h1]
  go_enter Tryz.func170,Tryz.ntmps170
  go_wp2
  go_ret
  exact ⟨rfl,(Below.refl _ _).alloc (Nat.le_refl _) _⟩
 ·rw [if_neg h1]
  by_cases h2:c < lo
  ·rw [if_pos h2]
   go_enter Tryz.func170,Tryz.ntmps170
   go_wp2
   go_ret
   exact ⟨rfl,(Below.refl _ _).alloc (Nat.le_refl _) _⟩
  ·rw [if_neg h2]
   go_enter Tryz.func170,Tryz.ntmps170
   go_wp2
   go_ret
   exact ⟨rfl,(Below.refl _ _).alloc (Nat.le_refl _) _⟩
def Srch (ss:List Spn) (c:Int) (i:Nat) (found:Bool):Prop:=
 i≤ss.length∧(∀t,(ht:t < ss.length)→t < i→ss[t].hi < c)∧(∀t,(ht:t < ss.length)→i≤t→c≤ss[t].hi)∧found=decide (∃h:i < ss.length,ss[i].lo≤c)
def RetSrch (ss:List Spn) (c:Int) (w:World) (e:Ending) (w':World):Prop:=∃(i:Nat) (f:Bool),e=.returned (.tuple #[.int .i64 i,.bool f])∧Srch ss c i f∧Below w.heap.size w w'
theorem bsearch_any (A:Option Addr) (n k:Nat) (ss:List Spn) (c:Int) (w:World) (hA:Spans w A ss) (hn:ss.length=n) (hbig:n≤1099511627776) (hasc:Asc ss) :
  Calls Tryz.prog 169 #[.slice A n k,.int .i64 c,.func (.func 170) #[] #[]] w (RetSrch ss c w):=by
 subst hn
 have HS:=Lib.hid hasc;clear hasc
 go_enter Tryz.func169,Tryz.ntmps169
 go_wp2
 go_loopw [9,10] (fun u v wr=>∃i j:Nat,i≤j∧j≤ss.length∧u=.int .i64 i∧v=.int .i64 j∧(∀t,(ht:t < ss.length)→t < i→ss[t].hi < c)∧(∀t,(ht:t < ss.length)→j≤t→c≤ss[t].hi)∧Below w.heap.size w wr)
  (fun u v _=>(intOf v).toNat - (intOf u).toNat)
 case atStart=>exact ⟨0,ss.length,Nat.zero_le _,Nat.le_refl _,rfl,rfl,fun t _ h=>by omega,fun t h1 h2=>by omega,Below.refl _ _⟩
 case round=>
  obtain ⟨i,j,hij,hj,rfl,rfl,hlo,hhi,hbel⟩:=hrel
  have HLO:=Lib.hid hlo;have HHI:=Lib.hid hhi;clear hlo hhi
  by_cases hlt:i < j
  ·obtain ⟨h,hh,h1,h2,h3⟩:∃h:Nat,((i:Int)+(j:Int)) / 2=(h:Int)∧i≤h∧h < j∧h < ss.length:=⟨(i+j) / 2,by omega,by omega,by omega,by omega⟩
   obtain ⟨b,o,rfl,_,hcell⟩:=(hA.below hbel).at h3
   obtain ⟨c1,c2,c3⟩:=hcell h h3
   clear hcell
   have HO:=Lib.hid (fun t (ht:t < ss.length) (hth:t < h)=>(HS.out t h ht h3).2 hth)
   have HO2:=Lib.hid (fun t (ht:t < ss.length) (hth:h < t)=>(HS.out h t h3 ht).2 hth)
   have HO3:=Lib.hid (fun t (ht:t < ss.length)=>(HS.out t t ht ht).1)
   have HO4:=Lib.hid (HS.out h h h3 h3).1
   generalize hlo:ss[h].lo=lo at *
   generalize hhi:ss[h].hi=hi at *
   generalize ss[h].val=v at *
   have E1:=Lib.hid hlo;have E2:=Lib.hid hhi
   have C:=Lib.hid (classF_any lo hi v c)
   clear hlo hhi
   by_cases hk:hi < c
   ·have hsc:scmp lo hi c=-1:=by unfold scmp;rw [if_pos hk]
    rw [hsc] at C;clear hsc
    go_wp2_with (go_at_call 170;refine (C.out _).mono ?_;rintro e w1 ⟨rfl,hb1⟩)
    go_roundw
    case rel=>
     refine ⟨h+1,j,by omega,hj,by go_num,rfl,fun t ht g=>?_,HHI.out,hbel.trans (hb1.mono hbel.size)⟩
     by_cases e:t=h
     ·subst e;rw [E2.out];exact hk
     ·have a1:=HO.out t ht (by omega)
      have a2:=HO4.out
      omega
    case measure=>simp [intOf];omega
   ·have hsc:0≤scmp lo hi c:=by unfold scmp;rw [if_neg hk];split <;> omega
    generalize scmp lo hi c=sc at *
    go_wp2_with (go_at_call 170;refine (C.out _).mono ?_;rintro e w1 ⟨rfl,hb1⟩)
    go_roundw
    case rel=>
     refine ⟨i,h,h1,by omega,rfl,rfl,HLO.out,fun t ht g=>?_,hbel.trans (hb1.mono hbel.size)⟩
     by_cases e:t=h
     ·subst e;rw [E2.out];omega
     ·have a1:=HO2.out t ht (by omega)
      have a2:=HO3.out t ht
      omega
    case measure=>simp [intOf];omega
  ·obtain rfl:i=j:=by omega
   by_cases hend:i < ss.length
   ·obtain ⟨b,o,rfl,_,hcell⟩:=(hA.below hbel).at hend
    obtain ⟨c1,c2,c3⟩:=hcell i hend
    clear hcell
    have hci:=HHI.out i hend (Nat.le_refl _)
    have HF:=Lib.hid (show decide (∃h:i < ss.length,ss[i].lo≤c)=(scmp ss[i].lo ss[i].hi c==0) by
     rw [Bool.eq_iff_iff];simp only [decide_eq_true_eq,beq_iff_eq];unfold scmp;rw [if_neg (by omega)];split
     ·constructor
      ·rintro ⟨_,h⟩;omega
      ·intro h;omega
     ·exact ⟨fun _=>rfl,fun _=>⟨hend,by omega⟩⟩)
    clear hci
    generalize ss[i].lo=lo at *
    generalize ss[i].hi=hi at *
    generalize ss[i].val=v at *
    have C:=Lib.hid (classF_any lo hi v c)
    generalize scmp lo hi c=sc at *
    go_wp2_with (go_at_call 170;refine (C.out _).mono ?_;rintro e w1 ⟨rfl,hb1⟩)
    go_ret2
    refine ⟨i,_,rfl,⟨hj,HLO.out,HHI.out,?_⟩,hbel.trans (hb1.mono hbel.size)⟩
    exact HF.out.symm
   ·go_wp2_with fail
    go_ret2
    refine ⟨i,_,rfl,⟨hj,HLO.out,HHI.out,?_⟩,hbel⟩
    simp [hend]
theorem Srch.cls {ss:List Spn} {c:Int} {i:Nat} {f:Bool} (h:Srch ss c i f) (hasc:Asc ss):if f=true then ∃hi:i < ss.length,Go.Proofs.YtkhmjidaeliccaaGreatDoor.cls ss c=ss[i].val else Go.Proofs.YtkhmjidaeliccaaGreatDoor.cls ss c=0:=by
 obtain ⟨h1,h2,h3,h4⟩:=h
 by_cases e:∃g:i < ss.length,ss[i].lo≤c
 ·rw [if_pos (by rw [h4];simpa using e)]
  obtain ⟨g,hg⟩:=e
  exact ⟨g,cls_at ss c i g hasc hg (h3 i g (Nat.le_refl _))⟩
 ·rw [if_neg (by rw [h4];simpa using e)]
  refine cls_none ss c fun t ht hc=>?_
  by_cases e1:t < i
  ·have:=h2 t ht e1;omega
  ·by_cases e2:t=i
   ·subst e2;exact e ⟨ht,hc.1⟩
   ·have hi:i < ss.length:=by omega
    have a1:=(hasc i t hi ht).2 (by omega)
    have a2:=(hasc i i hi hi).1
    exact e ⟨hi,by omega⟩
theorem class_any (A:Option Addr) (n k:Nat) (ss:List Spn) (c:Int) (w:World) (hA:Spans w A ss) (hn:ss.length=n) (hbig:n≤1099511627776) (hasc:Asc ss) :
  Calls Tryz.prog 125 #[.slice A n k,.int .i64 c] w (RetInt (cls ss c) w):=by
 subst hn
 have C:=Lib.hid (bsearch_any A ss.length k ss c w hA rfl hbig hasc)
 have HS:=Lib.hid hasc
 clear hasc
 go_enter Tryz.func125,Tryz.ntmps125
 go_wp2_with fail
 refine C.out.mono ?_
 rintro e w1 ⟨i,f,rfl,hs,hb1⟩
 have h:=hs.cls HS.out
 cases f with
 | true=>
  rw [if_pos rfl] at h
  obtain ⟨hi,hcls⟩:=h
  obtain ⟨b,o,rfl,_,hcell⟩:=(hA.below hb1).at hi
  obtain ⟨c1,c2,c3⟩:=hcell i hi
  have HC:=Lib.hid hcls
  clear hcell hs hcls
  generalize ss[i].val=v at *
  go_wp2_with fail
  go_ret
  exact ⟨ret_int HC.out.symm,hb1⟩
 | false=>
  rw [if_neg (by simp)] at h
  have HC:=Lib.hid h
  clear hs h
  go_wp2_with fail
  go_ret
  exact ⟨ret_int HC.out.symm,hb1⟩
end Go.Proofs.YtkhmjidaeliccaaGreatDoor
namespace Go.Proofs.YtkhmjidaeliccaaGreatDoor
open Go.RowKit
def Bad1 (s:Spn):Prop:=s.lo < 0∨1114111 < s.hi∨s.hi < s.lo∨s.val < 1∨254 < s.val
def Bad2 (a b:Spn):Prop:=b.lo≤a.hi∨(b.lo=a.hi+1∧b.val=a.val)
def Bad3 (s:Spn):Prop:=(s.lo≤4370∧4352≤s.hi)∨(s.lo≤4469∧4449≤s.hi)∨(s.lo≤4546∧4520≤s.hi)∨(s.lo≤55203∧44032≤s.hi)
instance (s:Spn):Decidable (Bad1 s):=by unfold Bad1;exact inferInstance
instance (a b:Spn):Decidable (Bad2 a b):=by unfold Bad2;exact inferInstance
instance (s:Spn):Decidable (Bad3 s):=by unfold Bad3;exact inferInstance
def adj2:List Spn→Bool
 | a::b::r=>decide (Bad2 a b) || adj2 (b::r)
 | _=>false
def chk (ss:List Spn):Int:=if (ss.any fun s=>decide (Bad1 s))=true then 1 else if adj2 ss=true then 4 else if (ss.any fun s=>decide (Bad3 s))=true then 11 else 0
theorem any_true {p:Spn→Bool} {ss:List Spn} {k:Nat} (hk:k < ss.length) (h:p ss[k]=true):ss.any p=true:=List.any_eq_true.2 ⟨ss[k],List.getElem_mem hk,h⟩
theorem any_false {p:Spn→Bool} {ss:List Spn} (h:∀t,(ht:t < ss.length)→p ss[t]=false):ss.any p=false:=by
 rw [List.any_eq_false]
 intro x hx
 obtain ⟨i,hi,rfl⟩:=List.getElem_of_mem hx
 rw [h i hi];simp
theorem adj2_true {ss:List Spn} {k:Nat} (hk:k+1 < ss.length) (h:Bad2 ss[k] ss[k+1]):adj2 ss=true:=by
 induction ss generalizing k with
 | nil=>simp at hk
 | cons a r ih=>
  cases r with
  | nil=>simp at hk
  | cons b r=>
   cases k with
   | zero=>simp only [List.getElem_cons_zero,List.getElem_cons_succ] at h;simp [adj2,h]
   | succ k=>
    simp only [adj2,Bool.or_eq_true]
    right
    exact ih (k:=k) (by simpa using hk) (by simpa using h)
theorem adj2_false {ss:List Spn} (h:∀t,(ht:t+1 < ss.length)→¬Bad2 ss[t] ss[t+1]):adj2 ss=false:=by
 induction ss with
 | nil=>rfl
 | cons a r ih=>
  cases r with
  | nil=>rfl
  | cons b r=>
   have h0:=h 0 (by simp)
   simp only [List.getElem_cons_zero,List.getElem_cons_succ] at h0
   simp only [adj2,Bool.or_eq_false_iff]
   refine ⟨by simpa using h0,ih fun t ht=>?_⟩
   have:=h (t+1) (by simpa using ht)
   simpa using this
theorem chk_1 {ss:List Spn} {k:Nat} (hk:k < ss.length) (h:Bad1 ss[k]):chk ss=1:=by
 unfold chk;rw [if_pos (any_true hk (by simpa using h))]
theorem chk_4 {ss:List Spn} {k:Nat} (h1:∀t,(ht:t < ss.length)→¬Bad1 ss[t]) (hk:k+1 < ss.length) (h:Bad2 ss[k] ss[k+1]):chk ss=4:=by
 unfold chk;rw [if_neg (by rw [any_false fun t ht=>by simpa using h1 t ht];simp),if_pos (adj2_true hk h)]
theorem chk_11 {ss:List Spn} {k:Nat} (h1:∀t,(ht:t < ss.length)→¬Bad1 ss[t]) (h2:∀t,(ht:t+1 < ss.length)→¬Bad2 ss[t] ss[t+1]) (hk:k < ss.length) (h:Bad3 ss[k]):chk ss=11:=by
 unfold chk;rw [if_neg (by rw [any_false fun t ht=>by simpa using h1 t ht];simp),if_neg (by rw [adj2_false h2];simp),if_pos (any_true hk (by simpa using h))]
theorem chk_0 {ss:List Spn} (h1:∀t,(ht:t < ss.length)→¬Bad1 ss[t]) (h2:∀t,(ht:t+1 < ss.length)→¬Bad2 ss[t] ss[t+1]) (h3:∀t,(ht:t < ss.length)→¬Bad3 ss[t]):chk ss=0:=by
 unfold chk;rw [if_neg (by rw [any_false fun t ht=>by simpa using h1 t ht];simp),if_neg (by rw [adj2_false h2];simp),if_neg (by rw [any_false fun t ht=>by simpa using h3 t ht];simp)]
theorem all_succ {ss:List Spn} {P:Spn→Prop} {i:Nat} (hlt:i < ss.length) (h:∀t,(ht:t < ss.length)→t < i→¬P ss[t]) (hi:¬P ss[i]):∀t,(ht:t < ss.length)→t < i+1→¬P ss[t]:=by
 intro t ht g
 by_cases e:t < i
 ·exact h t ht e
 ·obtain rfl:t=i:=by omega
  exact hi
theorem pair_succ {ss:List Spn} {P:Spn→Spn→Prop} {i:Nat} (hlt:i+1 < ss.length) (h:∀t,(ht:t+1 < ss.length)→t < i→¬P ss[t] ss[t+1]) (hi:¬P ss[i] ss[i+1]):∀t,(ht:t+1 < ss.length)→t < i+1→¬P ss[t] ss[t+1]:=by
 intro t ht g
 by_cases e:t < i
 ·exact h t ht e
 ·obtain rfl:t=i:=by omega
  exact hi
theorem chk_ok {ss:List Spn} (h:chk ss=0):(∀t,(ht:t < ss.length)→¬Bad1 ss[t])∧(∀t,(ht:t+1 < ss.length)→¬Bad2 ss[t] ss[t+1]):=by
 unfold chk at h
 split at h
 ·omega
 ·next h1=>
  split at h
  ·omega
  ·next h2=>
   refine ⟨fun t ht hb=>h1 (any_true ht (by simpa using hb)),fun t ht hb=>h2 (adj2_true ht hb)⟩
theorem asc_of_ok {ss:List Spn} (h:chk ss=0):Asc ss:=by
 obtain ⟨h1,h2⟩:=chk_ok h
 have step:∀d i,(hi:i < ss.length)→(hj:i+d+1 < ss.length)→ss[i].hi < ss[i+d+1].lo:=by
  intro d
  induction d with
  | zero=>
   intro i hi hj
   have:=h2 i (by omega)
   unfold Bad2 at this
   have:¬ss[i+1].lo≤ss[i].hi:=fun h=>this (.inl h)
   simp only [Nat.add_zero];omega
  | succ d ih=>
   intro i hi hj
   have a1:=ih i hi (by omega)
   have a2:=h2 (i+d+1) (by omega)
   have a3:=h1 (i+d+1) (by omega)
   unfold Bad2 at a2
   unfold Bad1 at a3
   have a4:¬ss[i+d+1+1].lo≤ss[i+d+1].hi:=fun h=>a2 (.inl h)
   have:i+(d+1)+1=i+d+1+1:=by omega
   simp only [this]
   omega
 intro i j hi hj
 refine ⟨?_,fun hij=>?_⟩
 ·have:=h1 i hi
  unfold Bad1 at this
  omega
 ·have:=step (j - i - 1) i hi (by omega)
  have e:i+(j - i - 1)+1=j:=by omega
  simp only [e] at this
  exact this
end Go.Proofs.YtkhmjidaeliccaaGreatDoor
namespace Go.Proofs.YtkhmjidaeliccaaGreatDoor
open Go.RowKit
def Laid (w:World):Prop:=
 w.cell? ⟨1,0,none⟩=some (.int .i64 4352)∧w.cell? ⟨1,1,none⟩=some (.int .i64 4370)∧
 w.cell? ⟨1,2,none⟩=some (.int .i64 4449)∧w.cell? ⟨1,3,none⟩=some (.int .i64 4469)∧
 w.cell? ⟨1,4,none⟩=some (.int .i64 4520)∧w.cell? ⟨1,5,none⟩=some (.int .i64 4546)∧
 w.cell? ⟨1,6,none⟩=some (.int .i64 44032)∧w.cell? ⟨1,7,none⟩=some (.int .i64 55203)
theorem Laid.below {w w':World} (h:Laid w) (hb:Below w.heap.size w w'):Laid w':=by
 obtain ⟨h0,h1,h2,h3,h4,h5,h6,h7⟩:=h
 exact ⟨(hb.cell (World.block_lt_of_cell? w _ h0)).trans h0,(hb.cell (World.block_lt_of_cell? w _ h1)).trans h1,(hb.cell (World.block_lt_of_cell? w _ h2)).trans h2,(hb.cell (World.block_lt_of_cell? w _ h3)).trans h3,
  (hb.cell (World.block_lt_of_cell? w _ h4)).trans h4,(hb.cell (World.block_lt_of_cell? w _ h5)).trans h5,(hb.cell (World.block_lt_of_cell? w _ h6)).trans h6,(hb.cell (World.block_lt_of_cell? w _ h7)).trans h7⟩
theorem oidx0 (W:World):(Instr.index 222 (.agg #[.int .i64 4352,.int .i64 4370,.int .i64 4449,.int .i64 4469,.int .i64 4520,.int .i64 4546,.int .i64 44032,.int .i64 55203]) (.int .i64 0)).run Tryz.prog W=.ok (.agg #[.int .i64 4352,.int .i64 4370]) W:=by kernel_rfl
theorem oidx1 (W:World):(Instr.index 222 (.agg #[.int .i64 4352,.int .i64 4370,.int .i64 4449,.int .i64 4469,.int .i64 4520,.int .i64 4546,.int .i64 44032,.int .i64 55203]) (.int .i64 1)).run Tryz.prog W=.ok (.agg #[.int .i64 4449,.int .i64 4469]) W:=by kernel_rfl
theorem oidx2 (W:World):(Instr.index 222 (.agg #[.int .i64 4352,.int .i64 4370,.int .i64 4449,.int .i64 4469,.int .i64 4520,.int .i64 4546,.int .i64 44032,.int .i64 55203]) (.int .i64 2)).run Tryz.prog W=.ok (.agg #[.int .i64 4520,.int .i64 4546]) W:=by kernel_rfl
theorem oidx3 (W:World):(Instr.index 222 (.agg #[.int .i64 4352,.int .i64 4370,.int .i64 4449,.int .i64 4469,.int .i64 4520,.int .i64 4546,.int .i64 44032,.int .i64 55203]) (.int .i64 3)).run Tryz.prog W=.ok (.agg #[.int .i64 44032,.int .i64 55203]) W:=by kernel_rfl
theorem Check_any (A:Option Addr) (n k:Nat) (ss:List Spn) (w:World) (hA:Spans w A ss) (hn:ss.length=n) (hbig:n≤1099511627776) (hL:Laid w) :
  Calls Tryz.prog 139 #[.slice A n k] w (RetInt (chk ss) w):=by
 subst hn
 go_enter Tryz.func139,Tryz.ntmps139
 go_wp2
 go_loopw [14] (fun u wr=>∃i:Nat,i≤ss.length∧u=.int .i64 i∧(∀t,(ht:t < ss.length)→t < i→¬Bad1 ss[t])∧Below w.heap.size w wr) (fun u _=>ss.length - (intOf u).toNat)
 case atStart=>exact ⟨0,Nat.zero_le _,rfl,fun t _ h=>by omega,Below.refl _ _⟩
 case round=>
  obtain ⟨i,hi,rfl,h1,hbel⟩:=hrel
  have H1:=Lib.hid h1;clear h1
  by_cases hlt:i < ss.length
  ·obtain ⟨b,o,rfl,hbl,hcell⟩:=(hA.below hbel).at hlt
   obtain ⟨c1,c2,c3⟩:=hcell i hlt
   clear hcell
   have HB:=Lib.hid (show Bad1 ss[i] ↔ (ss[i].lo < 0∨1114111 < ss[i].hi∨ss[i].hi < ss[i].lo∨ss[i].val < 1∨254 < ss[i].val) from Iff.rfl)
   have HC:=Lib.hid (fun h=>chk_1 (ss:=ss) hlt h)
   have HN:=Lib.hid (fun h=>all_succ (P:=Bad1) hlt H1.out h)
   generalize Bad1 ss[i]=Bd at *
   generalize ss[i].lo=lo at *
   generalize ss[i].hi=hi' at *
   generalize ss[i].val=v at *
   go_wp2
   all_goals first
    | (go_ret
       exact ⟨ret_int (HC.out (HB.out.2 (by omega))).symm,hbel.alloc hbel.size _⟩)
    | (go_roundw
       case rel=>exact ⟨i+1,by omega,by go_num,HN.out (fun h=>by have:=HB.out.1 h;omega),hbel.alloc hbel.size _⟩
       case measure=>simp [intOf];omega)
  ·have H1':=Lib.hid (fun t (ht:t < ss.length)=>H1.out t ht (by omega))
   clear H1
   go_wp2
   go_loopw [5] (fun u wr=>∃i:Nat,i≤ss.length∧u=.int .i64 ((i:Int)+1)∧(∀t,(ht:t+1 < ss.length)→t < i→¬Bad2 ss[t] ss[t+1])∧Below w.heap.size w wr) (fun u _=>ss.length+1 - (intOf u).toNat)
   case atStart=>exact ⟨0,Nat.zero_le _,rfl,fun t _ h=>by omega,hbel⟩
   case round=>
    obtain ⟨j,hj,rfl,h2,hbel2⟩:=hrel
    have H2:=Lib.hid h2;clear h2
    by_cases hlt2:j+1 < ss.length
    ·obtain ⟨b,o,rfl,hbl,hcell⟩:=(hA.below hbel2).at hlt2
     obtain ⟨c1,c2,c3⟩:=hcell j (by omega)
     obtain ⟨c4,c5,c6⟩:=hcell (j+1) hlt2
     clear hcell
     have hmax:=H1'.out j (by omega)
     have hmax2:ss[j].hi≤1114111∧0≤ss[j].hi:=by unfold Bad1 at hmax;omega
     clear hmax
     have HB:=Lib.hid (show Bad2 ss[j] ss[j+1] ↔ (ss[j+1].lo≤ss[j].hi∨(ss[j+1].lo=ss[j].hi+1∧ss[j+1].val=ss[j].val)) from Iff.rfl)
     have HC:=Lib.hid (fun h=>chk_4 (ss:=ss) H1'.out hlt2 h)
     have HN:=Lib.hid (fun h=>pair_succ (P:=Bad2) hlt2 H2.out h)
     generalize Bad2 ss[j] ss[j+1]=Bd at *
     generalize ss[j].lo=lo at *
     generalize ss[j].hi=hi' at *
     generalize ss[j].val=v at *
     generalize ss[j+1].lo=lo2 at *
     generalize ss[j+1].hi=hi2 at *
     generalize ss[j+1].val=v2 at *
     obtain ⟨hm1,hm2⟩:=hmax2
     by_cases t1:lo2≤hi'
     ·have d1:decide (lo2≤hi')=true:=by simpa using t1
      go_wp2
      go_region
      all_goals
       go_wp2
       go_ret
       exact ⟨ret_int (HC.out (HB.out.2 (by omega))).symm,by repeat (first | exact hbel2 | refine Below.drew ?_ | refine Below.alloc ?_ (by have:=hbel2.size;simp;omega) _)⟩
     ·have d1:decide (lo2≤hi')=false:=by simpa using t1
      by_cases t2:lo2=hi'+1
      ·have d2:(lo2==hi'+1)=true:=by simpa using t2
       by_cases t3:v2=v
       ·have d3:(v2==v)=true:=by simpa using t3
        have HT2:=Lib.hid t2;have HT3:=Lib.hid t3;clear t2 t3
        go_wp2
        go_region
        all_goals
         go_wp2
         go_ret
         exact ⟨ret_int (HC.out (HB.out.2 (.inr ⟨HT2.out,HT3.out⟩))).symm,by repeat (first | exact hbel2 | refine Below.drew ?_ | refine Below.alloc ?_ (by have:=hbel2.size;simp;omega) _)⟩
       ·have d3:(v2==v)=false:=by simpa using t3
        have HT2:=Lib.hid t2;have HT3:=Lib.hid t3;clear t2 t3
        go_wp2
        go_region
        all_goals
         go_wp2
         go_roundw
         case rel=>exact ⟨j+1,by omega,by go_num,HN.out (fun h=>by have:=HB.out.1 h;have:=HT3.out;omega),by repeat (first | exact hbel2 | refine Below.drew ?_ | refine Below.alloc ?_ (by have:=hbel2.size;simp;omega) _)⟩
         case measure=>simp [intOf];omega
      ·have d2:(lo2==hi'+1)=false:=by simpa using t2
       have HT2:=Lib.hid t2;clear t2
       go_wp2
       go_region
       all_goals
        go_wp2
        go_roundw
        case rel=>exact ⟨j+1,by omega,by go_num,HN.out (fun h=>by have:=HB.out.1 h;have:=HT2.out;omega),by repeat (first | exact hbel2 | refine Below.drew ?_ | refine Below.alloc ?_ (by have:=hbel2.size;simp;omega) _)⟩
        case measure=>simp [intOf];omega
    ·have H2':=Lib.hid (fun t (ht:t+1 < ss.length)=>H2.out t ht (by omega))
     clear H2
     go_wp2
     go_loopw [81] (fun u wr=>∃i:Nat,i≤ss.length∧u=.int .i64 i∧(∀t,(ht:t < ss.length)→t < i→¬Bad3 ss[t])∧Below w.heap.size w wr) (fun u _=>ss.length - (intOf u).toNat)
     case atStart=>exact ⟨0,Nat.zero_le _,rfl,fun t _ h=>by omega,hbel2⟩
     case round=>
      obtain ⟨i,hi,rfl,h3,hbel3⟩:=hrel
      have H3:=Lib.hid h3;clear h3
      by_cases hlt3:i < ss.length
      ·obtain ⟨b,o,rfl,hbl,hcell⟩:=(hA.below hbel3).at hlt3
       obtain ⟨c1,c2,c3⟩:=hcell i hlt3
       obtain ⟨l0,l1,l2,l3,l4,l5,l6,l7⟩:=hL.below hbel3
       clear hcell
       have hz:1 < wr.heap.size:=World.block_lt_of_cell? wr _ l0
       have HB:=Lib.hid (show Bad3 ss[i] ↔ ((ss[i].lo≤4370∧4352≤ss[i].hi)∨(ss[i].lo≤4469∧4449≤ss[i].hi)∨(ss[i].lo≤4546∧4520≤ss[i].hi)∨(ss[i].lo≤55203∧44032≤ss[i].hi)) from Iff.rfl)
       have HC:=Lib.hid (fun h=>chk_11 (ss:=ss) H1'.out H2'.out hlt3 h)
       have HN:=Lib.hid (fun h=>all_succ (P:=Bad3) hlt3 H3.out h)
       generalize Bad3 ss[i]=Bd at *
       generalize ss[i].lo=lo at *
       generalize ss[i].hi=hi' at *
       generalize ss[i].val=v at *
       obtain ⟨wo,rfl⟩:∃wo:World,wo=wr:=⟨_,rfl⟩
       go_wp2
       have hB9:Below w.heap.size w (wo.alloc (.cells #[.int .i64 lo,.int .i64 hi',.int .i64 v] 182)):=hbel3.alloc hbel3.size _
       go_loopw [86] (fun u wr=>∃j:Int,0≤j∧j≤4∧u=.int .i64 j∧(0 < j→¬(lo≤4370∧4352≤hi'))∧(1 < j→¬(lo≤4469∧4449≤hi'))∧(2 < j→¬(lo≤4546∧4520≤hi'))∧(3 < j→¬(lo≤55203∧44032≤hi'))∧
         Below (wo.heap.size+1) (wo.alloc (.cells #[.int .i64 lo,.int .i64 hi',.int .i64 v] 182)) wr) (fun u _=>4 - (intOf u).toNat)
       case atStart=>exact ⟨0,by omega,by omega,rfl,by omega,by omega,by omega,by omega,Below.refl _ _⟩
       case round=>
        obtain ⟨j,hj0,hj4,rfl,g0,g1,g2,g3,hbw⟩:=hrel
        have a0:wr.cell? ⟨wo.heap.size,0,none⟩=some (.int .i64 lo):=(hbw.cell (p:=⟨wo.heap.size,0,none⟩) (by simp)).trans (by simp [World.cell?_alloc_at])
        have a1:wr.cell? ⟨wo.heap.size,1,none⟩=some (.int .i64 hi'):=(hbw.cell (p:=⟨wo.heap.size,1,none⟩) (by simp)).trans (by simp [World.cell?_alloc_at])
        have hsz:wo.heap.size < wr.heap.size:=by have:=hbw.size;simp at this;omega
        have HBW:=Lib.hid (hB9.trans (hbw.mono (by have:=hbel3.size;omega)))
        have HG:=Lib.hid (And.intro g0 (And.intro g1 (And.intro g2 g3)))
        clear g0 g1 g2 g3
        have x0:=oidx0;have x1:=oidx1;have x2:=oidx2;have x3:=oidx3
        obtain rfl | rfl | rfl | rfl | rfl:j=0∨j=1∨j=2∨j=3∨j=4:=by omega
        all_goals go_wp2
        all_goals first
         | (go_ret
            exact ⟨ret_int (HC.out (HB.out.2 (by omega))).symm,HBW.out.alloc (by have:=hbel3.size;omega) _⟩)
         | (go_roundw
            case rel=>exact ⟨i+1,by omega,by go_num,HN.out (fun h=>by have h1:=HB.out.1 h;have h2:=HG.out;omega),HBW.out⟩
            case measure=>simp [intOf];omega)
         | (go_roundw
            case rel=>exact ⟨1,by omega,by omega,rfl,by have:=HG.out;omega,by have:=HG.out;omega,by have:=HG.out;omega,by have:=HG.out;omega,hbw.alloc (by omega) _⟩
            case measure=>simp [intOf])
         | (go_roundw
            case rel=>exact ⟨2,by omega,by omega,rfl,by have:=HG.out;omega,by have:=HG.out;omega,by have:=HG.out;omega,by have:=HG.out;omega,hbw.alloc (by omega) _⟩
            case measure=>simp [intOf])
         | (go_roundw
            case rel=>exact ⟨3,by omega,by omega,rfl,by have:=HG.out;omega,by have:=HG.out;omega,by have:=HG.out;omega,by have:=HG.out;omega,hbw.alloc (by omega) _⟩
            case measure=>simp [intOf])
         | (go_roundw
            case rel=>exact ⟨4,by omega,by omega,rfl,by have:=HG.out;omega,by have:=HG.out;omega,by have:=HG.out;omega,by have:=HG.out;omega,hbw.alloc (by omega) _⟩
            case measure=>simp [intOf])
      ·have HC:=Lib.hid (chk_0 (ss:=ss) H1'.out H2'.out (fun t ht=>H3.out t ht (by omega)))
       go_wp2
       go_ret
       exact ⟨ret_int HC.out.symm,hbel3⟩
end Go.Proofs.YtkhmjidaeliccaaGreatDoor
namespace Go.Proofs.YtkhmjidaeliccaaGreatDoor
open Go.RowKit
end Go.Proofs.YtkhmjidaeliccaaGreatDoor
namespace Go.Proofs.YtkhmjidaeliccaaGreatDoor
open Go.RowKit
def us (ss:List Spn):List Spn:=if chk ss=0 then ss else []
def clz (ss:List Spn) (c:Int):Int:=cls (us ss) c
theorem us_ok {ss:List Spn} (h:chk ss=0):us ss=ss:=by unfold us;rw [if_pos h]
theorem us_no {ss:List Spn} (h:¬chk ss=0):us ss=[]:=by unfold us;rw [if_neg h]
theorem us_len (ss:List Spn):(us ss).length≤ss.length:=by unfold us;split <;> simp
theorem us_asc (ss:List Spn):Asc (us ss):=by
 by_cases h:chk ss=0
 ·rw [us_ok h];exact asc_of_ok h
 ·rw [us_no h];exact Asc.nil
theorem cls_range {ss:List Spn} (h:∀t,(ht:t < ss.length)→¬Bad1 ss[t]) (c:Int):0≤cls ss c∧cls ss c≤254:=by
 induction ss with
 | nil=>simp [cls]
 | cons s r ih=>
  unfold cls
  split
  ·have:=h 0 (by simp)
   simp only [List.getElem_cons_zero] at this
   unfold Bad1 at this
   omega
  ·exact ih fun t ht=>by
    have:=h (t+1) (by simpa using ht)
    simpa using this
theorem clz_range (ss:List Spn) (c:Int):0≤clz ss c∧clz ss c≤254:=by
 unfold clz
 by_cases h:chk ss=0
 ·rw [us_ok h];exact cls_range (chk_ok h).1 c
 ·rw [us_no h];simp [cls]
def RetSpans (ss:List Spn) (w:World) (e:Ending) (w':World):Prop:=∃A k,e=.returned (.slice A ss.length k)∧Spans w' A ss∧Below w.heap.size w w'
theorem usable_any (A:Option Addr) (n k:Nat) (ss:List Spn) (w:World) (hA:Spans w A ss) (hn:ss.length=n) (hbig:n≤1099511627776) (hL:Laid w) :
  Calls Tryz.prog 120 #[.slice A n k] w (RetSpans (us ss) w):=by
 subst hn
 have C:=Lib.hid (Check_any A ss.length k ss w hA rfl hbig hL)
 clear hL
 by_cases h:chk ss=0
 ·rw [us_ok h]
  rw [h] at C
  clear h
  go_enter Tryz.func120,Tryz.ntmps120
  go_wp2_with fail
  refine C.out.mono ?_
  rintro e w1 ⟨rfl,hb1⟩
  go_wp2_with fail
  go_ret
  exact ⟨A,k,rfl,hA.below hb1,hb1⟩
 ·rw [us_no h]
  have hne:(chk ss != 0)=true:=by simpa using h
  generalize chk ss=z at *
  clear h
  go_enter Tryz.func120,Tryz.ntmps120
  go_wp2_with fail
  refine C.out.mono ?_
  rintro e w1 ⟨rfl,hb1⟩
  go_wp2_with fail
  go_ret
  exact ⟨none,0,rfl,Sl.nil _ _,hb1⟩
end Go.Proofs.YtkhmjidaeliccaaGreatDoor
namespace Go.Proofs.YtkhmjidaeliccaaGreatDoor
def rns (cl:Int→Int):List Int→Nat→Option Nat→List (Nat × Nat)
 | [],_,none=>[]
 | [],i,some s=>[(s,i)]
 | c::r,i,none=>if cl c=0 then rns cl r (i+1) none else rns cl r (i+1) (some i)
 | c::r,i,some s=>if cl c=0 then (s,i)::rns cl r (i+1) none else rns cl r (i+1) (some s)
theorem rns_len (cl:Int→Int) (l:List Int) (i:Nat) (s:Option Nat):(rns cl l i s).length≤l.length+1:=by
 induction l generalizing i s with
 | nil=>cases s <;> simp [rns]
 | cons c r ih=>
  cases s with
  | none=>
   simp only [rns]
   split
   ·have:=ih (i+1) none;simp;omega
   ·have:=ih (i+1) (some i);simp;omega
  | some s=>
   simp only [rns]
   split
   ·have:=ih (i+1) none;simp;omega
   ·have:=ih (i+1) (some s);simp;omega
theorem rns_len0 (cl:Int→Int) (l:List Int) (i:Nat):(rns cl l i none).length≤l.length:=by
 induction l generalizing i with
 | nil=>simp [rns]
 | cons c r ih=>
  simp only [rns]
  split
  ·have:=ih (i+1);simp;omega
  ·have:=rns_len cl r (i+1) (some i);simp;omega
def stv:Option Nat→Int
 | none=>-1
 | some s=>s
theorem rns_step (cl:Int→Int) (l:List Int) (k:Nat) (h:k < l.length) (s:Option Nat) :
  rns cl (l.drop k) k s=match s with
   | none=>if cl l[k]=0 then rns cl (l.drop (k+1)) (k+1) none else rns cl (l.drop (k+1)) (k+1) (some k)
   | some s=>if cl l[k]=0 then (s,k)::rns cl (l.drop (k+1)) (k+1) none else rns cl (l.drop (k+1)) (k+1) (some s):=by
 rw [List.drop_eq_getElem_cons h]
 cases s <;> rfl
theorem rns_end (cl:Int→Int) (l:List Int) (k:Nat) (h:l.length≤k) (s:Option Nat):rns cl (l.drop k) k s=match s with | none=>[] | some s=>[(s,k)]:=by
 rw [List.drop_eq_nil_of_le h]
 cases s <;> rfl
end Go.Proofs.YtkhmjidaeliccaaGreatDoor
namespace Go.Proofs.YtkhmjidaeliccaaGreatDoor
open Go.RowKit Go.Shelf
attribute [local go_sem] Oper.semAt_some
def KeepX (n₀ bo:Nat) (W W':World):Prop:=W.heap.size≤W'.heap.size∧∀k,k < n₀→k≠bo→W'.heap[k]?=W.heap[k]?
theorem KeepX.refl (n₀ bo:Nat) (W:World):KeepX n₀ bo W W:=⟨Nat.le_refl _,fun _ _ _=>rfl⟩
theorem KeepX.trans {n₀ bo:Nat} {A B C:World} (h:KeepX n₀ bo A B) (g:KeepX n₀ bo B C):KeepX n₀ bo A C:=⟨Nat.le_trans h.1 g.1,fun k hk hne=>(g.2 k hk hne).trans (h.2 k hk hne)⟩
theorem KeepX.cell {n₀ bo:Nat} {W W':World} (h:KeepX n₀ bo W W') {p:Addr} (h1:p.block < n₀) (h2:p.block≠bo):W'.cell? p=W.cell? p:=World.cell?_of_block (w:=W) (h.2 p.block h1 h2)
def Within (n₀ bo:Nat) (A:Option Addr):Prop:=∀b o,A=some ⟨b,o,none⟩→b < n₀∧b≠bo
theorem Sl.keepX {n₀ bo:Nat} {W W':World} {A:Option Addr} {cs:List Value} (h:Sl W A cs) (hk:KeepX n₀ bo W W') (hw:cs≠[]→Within n₀ bo A):Sl W' A cs:=by
 intro hne
 obtain ⟨b,o,rfl,hc⟩:=h hne
 obtain ⟨h1,h2⟩:=hw hne b o rfl
 exact ⟨b,o,rfl,fun j u hu=>(hk.cell (p:=⟨b,o+j,none⟩) h1 h2).trans (hc j u hu)⟩
structure Mem (Bt Bs:Nat) (A:Option Addr) (nt kt:Nat) (text:List Int) (A':Option Addr) (ns ks:Nat) (ss:List Spn) (W:World):Prop where
 bt:W.cell? ⟨Bt,0,none⟩=some (.slice A nt kt)
 bs:W.cell? ⟨Bs,0,none⟩=some (.slice A' ns ks)
 tx:Ints W A text
 sp:Spans W A' ss
theorem Mem.below {Bt Bs:Nat} {A:Option Addr} {nt kt:Nat} {text:List Int} {A':Option Addr} {ns ks:Nat} {ss:List Spn} {W W':World} (h:Mem Bt Bs A nt kt text A' ns ks ss W) (hb:Below W.heap.size W W'):Mem Bt Bs A nt kt text A' ns ks ss W':=
 ⟨(hb.cell (World.block_lt_of_cell? W _ h.bt)).trans h.bt,(hb.cell (World.block_lt_of_cell? W _ h.bs)).trans h.bs,h.tx.below hb,h.sp.below hb⟩
theorem Mem.keepX {n₀ bo Bt Bs:Nat} {A:Option Addr} {nt kt:Nat} {text:List Int} {A':Option Addr} {ns ks:Nat} {ss:List Spn} {W W':World} (h:Mem Bt Bs A nt kt text A' ns ks ss W) (hk:KeepX n₀ bo W W')
  (h1:Bt < n₀∧Bt≠bo) (h2:Bs < n₀∧Bs≠bo) (h3:text≠[]→Within n₀ bo A) (h4:ss≠[]→Within n₀ bo A'):Mem Bt Bs A nt kt text A' ns ks ss W':=
 ⟨(hk.cell (p:=⟨Bt,0,none⟩) h1.1 h1.2).trans h.bt,(hk.cell (p:=⟨Bs,0,none⟩) h2.1 h2.2).trans h.bs,Sl.keepX h.tx hk (fun hne=>h3 (by rintro rfl;exact hne rfl)),Sl.keepX h.sp hk (fun hne=>h4 (by rintro rfl;exact hne rfl))⟩
def encR (x:Nat × Nat):Array Value:=#[.agg #[.int .i64 (x.1:Int),.int .i64 (x.2:Int)]]
theorem J_below {α:Type} {J:List α→World→Prop} {B:Nat} (h:AbidesFrom B J) {pre:List α} {W W':World} (hJ:J pre W) (hb:Below W.heap.size W W'):J pre W':=
 h pre W W' none hJ ⟨hb.os,hb.tape,hb.output,hb.size,fun k hk _=>hb.block k hk⟩ (fun r e=>by cases e)
def RunsPost {α:Type} (all:List α) (J Jx:List α→World→Prop) (e:Ending) (W':World):Prop:=(∃v,e=.returned v)∧((∃ys,ys=all∧J ys W')∨(∃pre,pre <+: all∧Jx pre W'))
theorem runs1_in {α:Type} (f:α→Nat × Nat) (n:Nat) (hn1:1≤n) (l n₀ bo Bt Bs:Nat) (A:Option Addr) (nt kt:Nat) (text:List Int) (A':Option Addr) (ns ks:Nat) (ss:List Spn) (all:List α)
  (hall:all.map f=rns (cls ss) text 0 none) (hnt:text.length=nt) (hns:ss.length=ns) (hb1:nt≤1099511627776) (hb2:ns≤1099511627776) (hasc:Asc ss)
  (h1:Bt < n₀∧Bt≠bo) (h2:Bs < n₀∧Bs≠bo) (h3:text≠[]→Within n₀ bo A) (h4:ss≠[]→Within n₀ bo A')
  (J Jx:List α→World→Prop) (B:Nat) (hJ:AbidesFrom B J)
  (hY:∀pre x W,J pre W→pre.length < all.length→YieldAt Fence.wide (n - 1) Tryz.prog l (encR (f x)) W fun e W'=>
   (e=.returned (.bool true)∧J (pre++[x]) W'∧KeepX n₀ bo W W')∨(e=.returned (.bool false)∧Jx (pre++[x]) W'))
  (W:World) (hM:Mem Bt Bs A nt kt text A' ns ks ss W) (h0:J [] W) :
  CallsIn Fence.wide n Tryz.prog 166 #[.func (.yield l) #[] #[],.pointer (some ⟨Bt,0,none⟩),.pointer (some ⟨Bs,0,none⟩)] W (RunsPost all J Jx):=by
 subst hnt hns
 have HALL:=Lib.hid hall;have HA:=Lib.hid hasc;have HY:=Lib.hid hY;have HJ:=Lib.hid hJ
 have H3:=Lib.hid h3;have H4:=Lib.hid h4
 clear hall hasc hY hJ h3 h4
 have cbt:=hM.bt;have cbs:=hM.bs
 refine callsIn_of_wp Tryz.func166 rfl trivial ?_ rfl
 simp only [Tryz.ntmps166,List.size_toArray,List.length_cons,List.length_nil,Nat.reduceAdd,Nat.reduceSub,Array.replicate_succ,Array.replicate_zero,List.push_toArray,List.append_toArray,List.nil_append,List.cons_append]
 gi_wp2
 gi_loopw [4,10] (fun u i wr=>∃(k:Nat) (s:Option Nat) (pre rest:List α),k≤text.length∧i=.int .i64 k∧u=.int .i64 (stv s)∧(pre++rest=all∧rest.map f=rns (cls ss) (text.drop k) k s)∧(∀x,s=some x→x≤k)∧J pre wr∧Mem Bt Bs A text.length kt text A' ss.length ks ss wr)
  (fun _ i _=>text.length - (intOf i).toNat)
 case atStart=>exact ⟨0,none,[],all,Nat.zero_le _,rfl,rfl,⟨rfl,HALL.out⟩,(fun _ h=>by cases h),h0,hM⟩
 case round=>
  obtain ⟨k,s,pre,rest,hk,rfl,rfl,⟨hpre,hrest⟩,hs,hJ1,hM1⟩:=hrel
  have HP:=Lib.hid hpre;have HT:=Lib.hid hrest;clear hrest;have HS:=Lib.hid hs;clear hpre hs
  by_cases hlt:k < text.length
  ·obtain ⟨b,o,rfl,hcell⟩:=hM1.tx.at hlt
   have c1:=hcell k hlt
   have c2:=hM1.bs
   clear hcell
   have HR:=Lib.hid (rns_step (cls ss) text k hlt s)
   generalize text[k]=c at *
   gi_wp2_with fail
   refine ⟨trivial,(callsIn_wide.2 (class_any A' ss.length ks ss c wr hM1.sp rfl hb2 HA.out)).mono ?_⟩
   rintro e w1 ⟨rfl,hbw⟩
   have hM2:=hM1.below hbw
   have hJ2:=J_below HJ.out hJ1 hbw
   clear hM1 hJ1 hbw c1 c2
   by_cases hz:cls ss c=0
   ·have hzb:(cls ss c==0)=true:=by simpa using hz
    cases s with
    | none=>
     have HR':=Lib.hid (HR.out.trans (show _=_ from if_pos hz))
     clear HR hz
     generalize cls ss c=z at *
     simp only [stv]
     gi_wp2
     go_roundw
     case rel=>exact ⟨k+1,none,pre,rest,by omega,by go_num,rfl,⟨HP.out,HT.out.trans HR'.out⟩,(fun _ h=>by cases h),hJ2,hM2⟩
     case measure=>simp [intOf];omega
    | some s=>
     have HR':=Lib.hid (HR.out.trans (show _=_ from if_pos hz))
     clear HR hz
     generalize cls ss c=z at *
     simp only [stv]
     obtain ⟨x,rest',hx,hfx,hrest'⟩:∃x rest',rest=x::rest'∧f x=(s,k)∧rest'.map f=rns (cls ss) (text.drop (k+1)) (k+1) none:=by
      have:=HT.out.trans HR'.out
      cases rest with
      | nil=>cases this
      | cons x r=>simp only [List.map_cons,List.cons.injEq] at this;exact ⟨x,r,rfl,this.1,this.2⟩
     have HPX:=Lib.hid (show (pre++[x])++rest'=all by rw [←HP.out,hx];simp)
     have HTX:=Lib.hid hrest'
     have hlen:pre.length < all.length:=by rw [←HP.out,hx];simp
     have hy0:=HY.out pre x w1 hJ2 hlen
     rw [hfx] at hy0
     clear hx hfx hrest'
     unfold encR at hy0
     obtain ⟨fn,tmps,assign,body,hy,hR⟩:=hy0
     dsimp only at hy
     have HRR:=Lib.hid hR
     clear hR hlen
     gi_wp2
     refine HRR.out.mono ?_
     rintro e W3 (⟨rfl,hJ3,hk3⟩ | ⟨rfl,hJx3⟩)
     ·have hM3:=hM2.keepX hk3 h1 h2 H3.out H4.out
      clear hM2 hJ2 hy HRR
      gi_wp2
      go_roundw
      case rel=>exact ⟨k+1,none,pre++[x],rest',by omega,by go_num,rfl,⟨HPX.out,HTX.out⟩,(fun _ h=>by cases h),hJ3,hM3⟩
      case measure=>simp [intOf];omega
     ·gi_wp2
      refine bodyPost_ret (results_none rfl _ _ _) rfl ?_
      exact ⟨⟨_,rfl⟩,.inr ⟨pre++[x],⟨rest',HPX.out⟩,hJx3⟩⟩
   ·have hzb:(cls ss c==0)=false:=by simpa using hz
    cases s with
    | none=>
     have HR':=Lib.hid (HR.out.trans (show _=_ from if_neg hz))
     clear HR hz
     generalize cls ss c=z at *
     simp only [stv]
     gi_wp2
     go_roundw
     case rel=>exact ⟨k+1,some k,pre,rest,by omega,by go_num,rfl,⟨HP.out,HT.out.trans HR'.out⟩,(fun x h=>by cases h;omega),hJ2,hM2⟩
     case measure=>simp [intOf];omega
    | some s=>
     have HR':=Lib.hid (HR.out.trans (show _=_ from if_neg hz))
     clear HR hz
     generalize cls ss c=z at *
     simp only [stv]
     gi_wp2
     go_roundw
     case rel=>exact ⟨k+1,some s,pre,rest,by omega,by go_num,rfl,⟨HP.out,HT.out.trans HR'.out⟩,(fun x h=>by have:=HS.out x h;omega),hJ2,hM2⟩
     case measure=>simp [intOf];omega
  ·have HE:=Lib.hid (rns_end (cls ss) text k (by omega) s)
   have cb:=hM1.bt
   cases s with
   | none=>
    simp only [stv]
    gi_wp2
    go_end0
    have hr0:rest=[]:=by have:=HT.out.trans HE.out;simpa using this
    exact ⟨⟨_,rfl⟩,.inl ⟨pre,by rw [←HP.out,hr0];simp,hJ1⟩⟩
   | some s=>
    obtain rfl:k=text.length:=by omega
    simp only [stv]
    obtain ⟨x,hx,hfx⟩:∃x,rest=[x]∧f x=(s,text.length):=by
     have:=HT.out.trans HE.out
     cases rest with
     | nil=>cases this
     | cons x r=>simp only [List.map_cons,List.cons.injEq,List.map_eq_nil_iff] at this;exact ⟨x,by rw [this.2],this.1⟩
    have HPX:=Lib.hid (show pre++[x]=all by rw [←HP.out,hx])
    have hlen:pre.length < all.length:=by rw [←HPX.out];simp
    have hy0:=HY.out pre x wr hJ1 hlen
    rw [hfx] at hy0
    clear hx hfx
    unfold encR at hy0
    obtain ⟨fn,tmps,assign,body,hy,hR⟩:=hy0
    dsimp only at hy
    have HRR:=Lib.hid hR
    clear hR hlen
    gi_wp2
    refine HRR.out.mono ?_
    rintro e W3 (⟨rfl,hJ3,hk3⟩ | ⟨rfl,hJx3⟩)
    ·gi_wp2
     go_end0
     exact ⟨⟨_,rfl⟩,.inl ⟨pre++[x],HPX.out,hJ3⟩⟩
    ·gi_wp2
     go_end0
     exact ⟨⟨_,rfl⟩,.inr ⟨pre++[x],⟨[],by rw [List.append_nil];exact HPX.out⟩,hJx3⟩⟩
theorem runs_stops {α:Type} (f:α→Nat × Nat) (n:Nat) (hn1:1≤n) (n₀ bo Bt Bs:Nat) (A:Option Addr) (nt kt:Nat) (text:List Int) (A':Option Addr) (ns ks:Nat) (ss:List Spn) (all:List α) (w:World)
  (hall:all.map f=rns (cls ss) text 0 none) (hnt:text.length=nt) (hns:ss.length=ns) (hb1:nt≤1099511627776) (hb2:ns≤1099511627776) (hasc:Asc ss)
  (h1:Bt < n₀∧Bt≠bo) (h2:Bs < n₀∧Bs≠bo) (h3:text≠[]→Within n₀ bo A) (h4:ss≠[]→Within n₀ bo A') (hM:Mem Bt Bs A nt kt text A' ns ks ss w) :
  SeqStopsK Fence.wide n Tryz.prog 166 #[.pointer (some ⟨Bt,0,none⟩),.pointer (some ⟨Bs,0,none⟩)] (fun x=>encR (f x)) (KeepX n₀ bo) (fun ys=>ys=all) (fun pre=>pre <+: all) all.length w:=
 fun l J Jx W hW hJ _ hY h0=>runs1_in f n hn1 l n₀ bo Bt Bs A nt kt text A' ns ks ss all hall hnt hns hb1 hb2 hasc h1 h2 h3 h4 J Jx _ hJ hY W (hM.below hW) h0
theorem runs_any (A:Option Addr) (nt kt:Nat) (A':Option Addr) (ns ks:Nat) (w:World) :
  Calls Tryz.prog 121 #[.slice A' ns ks,.slice A nt kt] w fun e w'=>
   e=.returned (.func (.func 166) #[] #[.pointer (some ⟨w.heap.size+1,0,none⟩),.pointer (some ⟨w.heap.size,0,none⟩)])∧
   (w.alloc (.cells #[.slice A' ns ks] 22)).alloc (.cells #[.slice A nt kt] 33)=w':=by
 go_enter Tryz.func121,Tryz.ntmps121
 go_wp2
 go_ret
 exact ⟨rfl,rfl⟩
end Go.Proofs.YtkhmjidaeliccaaGreatDoor
namespace Go.Proofs.YtkhmjidaeliccaaGreatDoor
open Go.RowKit Go.Shelf
attribute [local go_sem] Oper.semAt_some
def flat2 (rs:List (Nat × Nat)):List Value:=rs.flatMap fun r=>[.int .i64 (r.1:Int),.int .i64 (r.2:Int)]
theorem flat2_snoc (rs:List (Nat × Nat)) (x:Nat × Nat):flat2 (rs++[x])=flat2 rs++[.int .i64 (x.1:Int),.int .i64 (x.2:Int)]:=by simp [flat2]
def RetRanges (rs:List (Nat × Nat)) (w:World) (e:Ending) (w':World):Prop:=∃A c,e=.returned (.slice A rs.length c)∧rs.length≤c∧Sl w' A (flat2 rs)∧Below w.heap.size w w'
theorem info_range:(Tryz.prog.info? 179).map (fun i=>(i.zero,i.size,i.bytes))=some (some (.agg #[.int .i64 0,.int .i64 0]),2,16):=by kernel_rfl
theorem keepX_of_below {n₀ bo:Nat} {W W':World} (h:Below n₀ W W'):KeepX n₀ bo W W':=⟨h.size,fun k hk _=>h.block k hk⟩
theorem Mem.lt_bt {Bt Bs:Nat} {A:Option Addr} {nt kt:Nat} {text:List Int} {A':Option Addr} {ns ks:Nat} {ss:List Spn} {W:World} (h:Mem Bt Bs A nt kt text A' ns ks ss W):Bt < W.heap.size:=World.block_lt_of_cell? W _ h.bt
theorem Mem.lt_bs {Bt Bs:Nat} {A:Option Addr} {nt kt:Nat} {text:List Int} {A':Option Addr} {ns ks:Nat} {ss:List Spn} {W:World} (h:Mem Bt Bs A nt kt text A' ns ks ss W):Bs < W.heap.size:=World.block_lt_of_cell? W _ h.bs
theorem Sl.lt {W:World} {A:Option Addr} {cs:List Value} (h:Sl W A cs) (hne:cs≠[]) (bo:Nat) (hbo:W.heap.size≤bo):Within W.heap.size bo A:=by
 intro b o hA
 obtain ⟨b',o',hA',hc⟩:=h hne
 rw [hA] at hA'
 injection hA' with hA'
 injection hA' with h1 h2
 subst h1;subst h2
 obtain ⟨x,r,rfl⟩:∃x r,cs=x::r:=by cases cs with | nil=>exact absurd rfl hne | cons x r=>exact ⟨x,r,rfl⟩
 have:=World.block_lt_of_cell? W _ (hc 0 x rfl)
 simp at this
 exact ⟨this,by omega⟩
theorem AppendSeq_any (Bt Bs:Nat) (A:Option Addr) (nt kt:Nat) (text:List Int) (A':Option Addr) (ns ks:Nat) (ss:List Spn) (all:List (Nat × Nat)) (w:World)
  (hall:rns (cls ss) text 0 none=all) (hnt:text.length=nt) (hns:ss.length=ns) (hb1:nt≤1048576) (hb2:ns≤1099511627776) (hasc:Asc ss) (hM:Mem Bt Bs A nt kt text A' ns ks ss w) :
  Calls Tryz.prog 199 #[.slice none 0 0,.func (.func 166) #[] #[.pointer (some ⟨Bt,0,none⟩),.pointer (some ⟨Bs,0,none⟩)]] w (RetRanges all w):=by
 have hlen:all.length≤1048576:=by rw [←hall];have:=rns_len0 (cls ss) text 0;omega
 obtain ⟨i0,hi0,hz0,hz1,hz2⟩:=info_parts info_range
 refine (callsIn_wide (n:=6)).1 ?_
 refine callsIn_of_wp_marks Tryz.func199 rfl trivial ?_ rfl
 simp only [Tryz.ntmps199,List.size_toArray,List.length_cons,List.length_nil,Nat.reduceAdd,Nat.reduceSub,Array.replicate_succ,Array.replicate_zero,List.push_toArray,List.append_toArray,List.nil_append,List.cons_append]
 gi_wp2
 have bS:=Boxed.new w 24 (.slice none 0 0)
 have hB0:Below w.heap.size w (w.alloc (.cells #[.slice none 0 0] 24)):=(Below.refl _ w).alloc (Nat.le_refl _) _
 have hsz:(w.alloc (.cells #[.slice none 0 0] 24)).heap.size=w.heap.size+1:=by simp
 have hM0:=hM.below hB0
 obtain ⟨W0,hW0⟩:∃W0,w.alloc (.cells #[.slice none 0 0] 24)=W0:=⟨_,rfl⟩
 rw [hW0] at bS hB0 hsz hM0 ⊢
 clear hW0
 refine wpIn_rangeFunc_ownH rfl (by omega) (gf:=166) (lb:=#[.pointer (some ⟨Bt,0,none⟩),.pointer (some ⟨Bs,0,none⟩)]) rfl trivial (enters_of Tryz.func166 (by kernel_rfl) rfl)
  (runs_stops (fun x=>x) 5 (by omega) w.heap.size w.heap.size Bt Bs A nt kt text A' ns ks ss all W0 (by rw [hall];simp) hnt hns (by omega) hb2 hasc ⟨hM.lt_bt,by have:=hM.lt_bt;omega⟩ ⟨hM.lt_bs,by have:=hM.lt_bs;omega⟩
   (fun hne=>Sl.lt hM.tx (by simpa using hne) _ (Nat.le_refl _)) (fun hne=>Sl.lt hM.sp (by cases ss with | nil=>exact absurd rfl hne | cons s r=>simp [flat3]) _ (Nat.le_refl _)) hM0)
  (fun h k=>h.trans k) (fun W l o o' hl h hc hw=>keepX_of_below (belowK_b (w:=W0) (by omega) W l o o' hl h hc hw)) (Below.refl _ _) (fun _=>rfl)
  (fun pre W=>(∃v,Boxed W w.heap.size 24 v∧W.ownsRow w.heap.size 179 2 v pre.length (flat2 pre)∧True)∧Below w.heap.size w W)
  (fun _ _ _=>False)
  (OwnFrom.and (Own.from (holdsRow_own w.heap.size w.heap.size 24 179 2 (fun pre:List (Nat × Nat)=>pre.length) flat2 (fun _ _=>True)) _) (ownFrom_below (Nat.le_refl _) (by omega)))
  (fun _ _ _ _ _ hs _ _=>hs)
  ⟨⟨_,bS,World.ownsRow_nil _ _ _ _,trivial⟩,hB0⟩
  (fun x a' W=>∃Bx,w.heap.size < Bx∧W.heap[Bx]?=some (.cells #[.int .i64 (x.1:Int),.int .i64 (x.2:Int)] 179 (0,0))∧a'={ tmps:=#[.slice none 0 0,.func (.func 166) #[] #[.pointer (some ⟨Bt,0,none⟩),.pointer (some ⟨Bs,0,none⟩)],.pointer (some ⟨w.heap.size,0,none⟩),undef,.slice none 0 0,.pointer (some ⟨Bx,0,none⟩),.func (.func 166) #[] #[.pointer (some ⟨Bt,0,none⟩),.pointer (some ⟨Bs,0,none⟩)],.agg #[.int .i64 (x.1:Int),.int .i64 (x.2:Int)],undef,undef,undef,undef,undef],defers:=[] })
  (fun x a' _ X Y row hs hg hr=>by
   obtain ⟨Bx,h1,h2,h3⟩:=hs
   refine ⟨Bx,h1,(hg.block Bx (Array.getElem?_eq_some_iff.1 h2).1 (fun e=>?_)).trans h2,h3⟩
   obtain ⟨_,o,ho,hc⟩:=hr Bx e.symm
   rw [h2] at ho;cases ho;cases hc)
  ?assign ?body ?done ?stop
 case assign=>
  rintro l pre x W K ⟨⟨v,bS1,hr1,_⟩,hB1⟩ hK
  unfold encR at *
  gi_wp2
  exact hK _ _ ((KeepsOthers.alloc _ _).from _) (keepX_of_below ((Below.refl _ W).alloc hB1.size _)) ⟨⟨v,bS1.alloc _,hr1.alloc _,trivial⟩,hB1.alloc hB1.size _⟩ ⟨W.heap.size,bS1.lt,heap_alloc_new W _,rfl⟩
 case body=>
  rintro l pre x a' W hl ⟨r,hr⟩ ⟨⟨v,bS1,hr1,_⟩,hB1⟩ ⟨Bx,hBx,bX,rfl⟩ hlt
  obtain ⟨Av,cv,rfl,hcv⟩:=own_form hr1
  have cS:=bS1.cell
  have fS:=bS1.frozen
  have x0:W.cell? ⟨Bx,0,none⟩=some (.int .i64 (x.1:Int)):=by rw [cell_of_row W Bx 0 _ _ (0,0) bX];rfl
  have x1:W.cell? ⟨Bx,1,none⟩=some (.int .i64 (x.2:Int)):=by rw [cell_of_row W Bx 1 _ _ (0,0) bX];rfl
  have hltS:=bS1.lt
  gi_wp2_with (gi_at_builtin;refine wpListIn_append_own _ rfl _ _ 24 rfl w.heap.size 179 i0 (.agg #[.int .i64 0,.int .i64 0]) 2 16 Tryz.underlying24 hi0 hz0 hz1 hz2 rfl (by decide) _ _ _ rfl (hr1.alloc _) ⟨W.heap.size,0,none⟩ 1 1 [.int .i64 (x.1:Int),.int .i64 (x.2:Int)] rfl rfl ?c1 (oneCell_ints [_,_]) (by unfold maxLen;omega) (by omega) (by have:=hB1.size;simp;omega) ?_)
  case c1=>
   intro j u hu
   match j,hu with
   | 0,hu=>simp at hu;subst hu;simp [Addr.add]
   | 1,hu=>simp at hu;subst hu;simp [Addr.add]
  ·intro v' w1 hown' hgrow _
   obtain ⟨Av',cv',rfl,hcv'⟩:=own_form hown'
   obtain ⟨hv1,hv2,hr2,hk2,hb2⟩:=bS1.appended (by decide) hr1 hB1.size (Nat.le_refl _) hown' hgrow
   have hc1:=hv1.cell
   have hf1:=hv1.frozen
   clear hown' hgrow cS fS x0 x1 hr1 bX bS1
   gi_wp2
   refine ⟨hk2.from _,keepX_of_below hb2,⟨_,hv2,?_,trivial⟩,hB1.trans hb2⟩
   rw [flat2_snoc,List.length_append]
   exact hr2
 case done=>
  rintro D ys W hD rfl ⟨⟨v,bS1,hr1,_⟩,hB1⟩ hK
  obtain ⟨Av,cv,rfl,hcv⟩:=own_form hr1
  have cS:=bS1.cell
  have HRow:=Lib.hid (ownsRow_putObj hr1 (.deferred none) hK rfl)
  have HBel:=Lib.hid (hB1.trans (belowK_b (w:=w) (Nat.le_refl _) W D _ (.deferred none) (by omega) hK rfl rfl))
  gi_wp2
  refine ⟨by simp,.inl ⟨_,_,rfl,run_takeDeferred hK,?_⟩⟩
  exact ⟨_,results_tmp rfl _ _ _,Av,cv,rfl,hcv,Sl.of_own HRow.out,HBel.out⟩
 case stop=>
  rintro D c pre W _ _ h _
  exact h.elim
theorem Collect_any (Bt Bs:Nat) (A:Option Addr) (nt kt:Nat) (text:List Int) (A':Option Addr) (ns ks:Nat) (ss:List Spn) (all:List (Nat × Nat)) (w:World)
  (hall:rns (cls ss) text 0 none=all) (hnt:text.length=nt) (hns:ss.length=ns) (hb1:nt≤1048576) (hb2:ns≤1099511627776) (hasc:Asc ss) (hM:Mem Bt Bs A nt kt text A' ns ks ss w) :
  Calls Tryz.prog 180 #[.func (.func 166) #[] #[.pointer (some ⟨Bt,0,none⟩),.pointer (some ⟨Bs,0,none⟩)]] w (RetRanges all w):=by
 have C:=Lib.hid (AppendSeq_any Bt Bs A nt kt text A' ns ks ss all w hall hnt hns hb1 hb2 hasc hM)
 clear hall hnt hns hasc hM
 go_enter Tryz.func180,Tryz.ntmps180
 go_wp2_with fail
 refine C.out.mono ?_
 rintro e w1 ⟨A1,c1,rfl,hc1,hA1,hb1⟩
 go_wp2_with fail
 go_ret
 exact ⟨A1,c1,rfl,hc1,hA1,hb1⟩
theorem Runs_any (A':Option Addr) (ns ks:Nat) (ss:List Spn) (A:Option Addr) (nt kt:Nat) (text:List Int) (w:World) (hS:Spans w A' ss) (hT:Ints w A text)
  (hnt:text.length=nt) (hns:ss.length=ns) (hb1:nt≤1048576) (hb2:ns≤1099511627776) (hL:Laid w) :
  Calls Tryz.prog 143 #[.slice A' ns ks,.slice A nt kt] w (RetRanges (rns (clz ss) text 0 none) w):=by
 have hle:=us_len ss
 rw [hns] at hle
 have U:=Lib.hid (usable_any A' ns ks ss w hS hns hb2 hL)
 have hasc:=Lib.hid (us_asc ss)
 have hcl:clz ss=cls (us ss):=rfl
 rw [hcl]
 clear hS hL hns hcl
 generalize us ss=ts at *
 go_enter Tryz.func143,Tryz.ntmps143
 go_wp2_with fail
 refine U.out.mono ?_
 rintro e w1 ⟨A1,k1,rfl,hA1,hb3⟩
 have hT1:=hT.below hb3
 clear hT U
 go_wp2_with fail
 refine (runs_any A nt kt A1 ts.length k1 w1).mono ?_
 rintro e w2 ⟨rfl,hw2⟩
 have hM:Mem (w1.heap.size+1) w1.heap.size A nt kt text A1 ts.length k1 ts w2:=by
  rw [←hw2]
  exact ⟨by simp,by simp,Sl.alloc (Sl.alloc hT1 _) _,Sl.alloc (Sl.alloc hA1 _) _⟩
 have hb4:Below w.heap.size w w2:=by
  rw [←hw2]
  exact (hb3.alloc hb3.size _).alloc (by have:=hb3.size;simp;omega) _
 have HM:=Lib.hid hM
 clear hw2 hM hT1 hA1 hb3
 go_wp2_with fail
 refine (Collect_any (w1.heap.size+1) w1.heap.size A nt kt text A1 ts.length k1 ts _ w2 rfl hnt rfl hb1 (by omega) hasc.out HM.out).mono ?_
 rintro e w3 ⟨A3,c3,rfl,hc3,hA3,hb5⟩
 go_wp2_with fail
 go_ret
 exact ⟨A3,c3,rfl,hc3,hA3,hb4.trans (hb5.mono hb4.size)⟩
end Go.Proofs.YtkhmjidaeliccaaGreatDoor
namespace Go.Proofs.YtkhmjidaeliccaaGreatDoor
open Go.RowKit
def RetRow (R:List Int→Prop) (b off:Nat) (e:TypeId) (pre post:List Value) (w:World) (x:Ending) (w':World):Prop:=
 x=.returned (.tuple #[])∧∃d',R d'∧Row w' b off e pre post d'∧w.grownBy w' (some b)
def SwR (d:List Int) (p q k:Nat) (d':List Int):Prop:=
 d'.length=d.length∧∀t,d'[t]?=if p≤t∧t < p+k then d[t+(q - p)]? else if q≤t∧t < q+k then d[t - (q - p)]? else d[t]?
theorem SwR.step {d d1:List Int} {p q k m:Nat} {x y:Int} (h:SwR d p q k d1) (hk:k < m) (hpq:p+m≤q) (hx:d1[p+k]?=some x) (hy:d1[q+k]?=some y) :
  SwR d p q (k+1) (Srt.swp d1 (p+k) (q+k) x y):=by
 refine ⟨(Srt.swp_len _ _ _ _ _).trans h.1,fun t=>?_⟩
 rw [Srt.swp_get d1 (p+k) (q+k) t x y hx hy (by omega),h.2,h.2,h.2]
 (repeat' split) <;> first | rfl | omega | (congr 1;omega)
theorem get_of_lt {d:List Int} {i:Nat} (h:i < d.length):∃x,d[i]?=some x:=⟨d[i],List.getElem?_eq_getElem h⟩
theorem swapRange_any (b off n c p q m:Nat) (e:TypeId) (g:Value) (d:List Int) (pre post:List Value) (w:World) (hR:Row w b off e pre post d) (hn:d.length=n)
  (hpq:p+m≤q) (hq:q+m≤n) (hbig:n≤1099511627776) :
  Calls Tryz.prog 210 #[.slice (some ⟨b,off,none⟩) n c,.int .i64 p,.int .i64 q,.int .i64 m,g] w (RetRow (SwR d p q m) b off e pre post w):=by
 subst hn
 go_enter Tryz.func210,Tryz.ntmps210
 go_wp2
 go_loopw [10] (fun i wr=>∃(k:Nat) (d1:List Int),k≤m∧i=.int .i64 k∧SwR d p q k d1∧Row wr b off e pre post d1∧w.grownBy wr (some b)) (fun i _=>m - (intOf i).toNat)
 case atStart=>
  refine ⟨0,d,Nat.zero_le _,rfl,⟨rfl,fun t=>?_⟩,hR,grownR_refl _ _⟩
  rw [if_neg (by omega),if_neg (by omega)]
 case round=>
  obtain ⟨k,d1,hk,rfl,hS,hR1,hg⟩:=hrel
  by_cases hlt:k < m
  ·obtain ⟨x,hx⟩:=get_of_lt (d:=d1) (i:=p+k) (by rw [hS.1];omega)
   obtain ⟨y,hy⟩:=get_of_lt (d:=d1) (i:=q+k) (by rw [hS.1];omega)
   have cx:=hR1.cell hx
   have cy:=hR1.cell hy
   have fx:=hR1.frozen (off+(p+k))
   have fy:=hR1.frozen (off+(q+k))
   have hne:¬(p+k=q+k):=by omega
   have HX:=Lib.hid hx;have HY:=Lib.hid hy;clear hx hy
   go_wp2
   go_region
   go_wp2
   go_roundw
   case rel=>
    refine ⟨k+1,Srt.swp d1 (p+k) (q+k) x y,by omega,by go_num,hS.step hlt hpq HX.out HY.out,?_,?_⟩
    ·exact (Row.set (hR1.set (by rw [hS.1];omega) y) (by rw [List.length_set,hS.1];omega) x).drew
    ·exact grownR_drew (grown_row (grown_row hg _ _) _ _)
   case measure=>simp [intOf];omega
  ·go_wp2
   go_end0
   obtain rfl:k=m:=by omega
   exact ⟨rfl,d1,hS,hR1,hg⟩
theorem rot_gt {d0 d1 d2:List Int} {a m b i j:Nat} (him:i≤m) (hij:j < i)
  (h:∀d',Srt.Rot d1 d' (m - i) m (m+j)→Srt.Rot d0 d' a m b) (hS:SwR d1 (m - i) m j d2):∀d',Srt.Rot d2 d' (m - (i - j)) m (m+j)→Srt.Rot d0 d' a m b:=by
 intro d' hr
 apply h
 refine ⟨hr.1.trans hS.1,fun t=>?_⟩
 rw [hr.2 t]
 simp only [hS.2]
 (repeat' split) <;> first | rfl | omega | (congr 1;omega)
theorem rot_lt {d0 d1 d2:List Int} {a m b i j:Nat} (him:i≤m) (hij:i < j)
  (h:∀d',Srt.Rot d1 d' (m - i) m (m+j)→Srt.Rot d0 d' a m b) (hS:SwR d1 (m - i) (m+j - i) i d2):∀d',Srt.Rot d2 d' (m - i) m (m+(j - i))→Srt.Rot d0 d' a m b:=by
 intro d' hr
 apply h
 refine ⟨hr.1.trans hS.1,fun t=>?_⟩
 rw [hr.2 t]
 simp only [hS.2]
 (repeat' split) <;> first | rfl | omega | (congr 1;omega)
theorem rot_eq {d0 d1 d2:List Int} {a m b i:Nat} (him:i≤m)
  (h:∀d',Srt.Rot d1 d' (m - i) m (m+i)→Srt.Rot d0 d' a m b) (hS:SwR d1 (m - i) m i d2):Srt.Rot d0 d2 a m b:=by
 apply h
 refine ⟨hS.1,fun t=>?_⟩
 rw [hS.2]
 (repeat' split) <;> first | rfl | omega | (congr 1;omega)
theorem rotate_any (b off n c x m y:Nat) (e:TypeId) (g:Value) (d:List Int) (pre post:List Value) (w:World) (hR:Row w b off e pre post d) (hn:d.length=n)
  (hxm:x < m) (hmy:m < y) (hy:y≤n) (hbig:n≤1099511627776) :
  Calls Tryz.prog 204 #[.slice (some ⟨b,off,none⟩) n c,.int .i64 x,.int .i64 m,.int .i64 y,g] w (RetRow (fun d'=>Srt.Rot d d' x m y) b off e pre post w):=by
 subst hn
 go_enter Tryz.func204,Tryz.ntmps204
 go_wp2
 go_loopw [10,11] (fun u v wr=>∃(i j:Nat) (d1:List Int),0 < i∧0 < j∧i≤m∧m+j≤d.length∧u=.int .i64 i∧v=.int .i64 j∧d1.length=d.length∧(∀d',Srt.Rot d1 d' (m - i) m (m+j)→Srt.Rot d d' x m y)∧
   Row wr b off e pre post d1∧w.grownBy wr (some b)) (fun u v _=>(intOf u).toNat+(intOf v).toNat)
 case atStart=>
  refine ⟨m - x,y - m,d,by omega,by omega,by omega,by omega,by go_num,by go_num,rfl,fun d' h=>?_,hR,grownR_refl _ _⟩
  rw [show m - (m - x)=x by omega,show m+(y - m)=y by omega] at h
  exact h
 case round=>
  obtain ⟨i,j,d1,hi,hj,him,hjn,rfl,rfl,hl,hrot,hR1,hg⟩:=hrel
  have HR:=Lib.hid hrot;have HL:=Lib.hid hl;clear hrot hl
  by_cases h1:j < i
  ·have e1:((i:Int) != (j:Int))=true:=by simp;omega
   have C:=Lib.hid (swapRange_any b off d.length c (m - i) m j e g d1 pre post wr hR1 HL.out (by omega) (by omega) hbig)
   have hz:((m:Int) - (i:Int))=((m - i:Nat):Int):=by omega
   rw [←hz] at C;clear hz
   go_wp2_with fail
   refine C.out.mono ?_
   rintro e w1 ⟨rfl,d2,hS,hR2,hg2⟩
   go_wp2_with fail
   go_roundw
   case rel=>exact ⟨i - j,j,d2,by omega,by omega,by omega,by omega,by go_num,rfl,hS.1.trans HL.out,rot_gt him h1 HR.out hS,hR2,grownR_trans hg hg2⟩
   case measure=>simp [intOf];omega
  ·by_cases h2:i < j
   ·have e1:((i:Int) != (j:Int))=true:=by simp;omega
    have C:=Lib.hid (swapRange_any b off d.length c (m - i) (m+j - i) i e g d1 pre post wr hR1 HL.out (by omega) (by omega) hbig)
    have hz:((m:Int) - (i:Int))=((m - i:Nat):Int):=by omega
    have hz':((m:Int)+(j:Int) - (i:Int))=((m+j - i:Nat):Int):=by omega
    rw [←hz,←hz'] at C;clear hz hz'
    go_wp2_with fail
    refine C.out.mono ?_
    rintro e w1 ⟨rfl,d2,hS,hR2,hg2⟩
    go_wp2_with fail
    go_roundw
    case rel=>exact ⟨i,j - i,d2,by omega,by omega,by omega,by omega,rfl,by go_num,hS.1.trans HL.out,rot_lt him h2 HR.out hS,hR2,grownR_trans hg hg2⟩
    case measure=>simp [intOf];omega
   ·obtain rfl:i=j:=by omega
    have e1:((i:Int) != (i:Int))=false:=by simp
    have C:=Lib.hid (swapRange_any b off d.length c (m - i) m i e g d1 pre post wr hR1 HL.out (by omega) (by omega) hbig)
    have hz:((m:Int) - (i:Int))=((m - i:Nat):Int):=by omega
    rw [←hz] at C;clear hz
    go_wp2_with fail
    refine C.out.mono ?_
    rintro e w1 ⟨rfl,d2,hS,hR2,hg2⟩
    go_wp2_with fail
    go_end0
    exact ⟨rfl,d2,rot_eq him HR.out hS,hR2,grownR_trans hg hg2⟩
end Go.Proofs.YtkhmjidaeliccaaGreatDoor
