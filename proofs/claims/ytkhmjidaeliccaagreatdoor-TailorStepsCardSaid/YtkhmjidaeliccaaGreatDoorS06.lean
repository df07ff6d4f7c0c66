import Derived.Test.YtkhmjidaeliccaaGreatDoorS05
import Derived.Deep.Light
import Derived.RangeFuncNested
import Derived.RangeFuncBound
import Derived.Shelf.RegionOpen
import Derived.LoopNIn
import Derived.LoopIn
import Derived.Maps.OwnIn
set_option maxRecDepth 100000
set_option maxHeartbeats 51200000
namespace Go.Proofs.YtkhmjidaeliccaaGreatDoor
open Option renaming none->N,some->Z
open Value renaming int->I,slice->H
open IntKind renaming i64->J
open Go.Proofs.Tryz
section
open Go.RowKit
def dX(w:Wv):Prop:=
 w.cell? ⟨1,0,N⟩=Z (I J 4352)/\w.cell? ⟨1,1,N⟩=Z (I J 4370)/\
 w.cell? ⟨1,2,N⟩=Z (I J 4449)/\w.cell? ⟨1,3,N⟩=Z (I J 4469)/\
 w.cell? ⟨1,4,N⟩=Z (I J 4520)/\w.cell? ⟨1,5,N⟩=Z (I J 4546)/\
 w.cell? ⟨1,6,N⟩=Z (I J 44032)/\w.cell? ⟨1,7,N⟩=Z (I J 55203)
theorem dX.below{w w':Wv}(h:dX w)(hb:By w w'):dX w':=by
 obtain⟨a,b,c,d,e,f,g,i⟩:=h
 exact⟨(hb.cell (World.block_lt_of_cell? w _ a)).trans a,(hb.cell (World.block_lt_of_cell? w _ b)).trans b,(hb.cell (World.block_lt_of_cell? w _ c)).trans c,(hb.cell (World.block_lt_of_cell? w _ d)).trans d,
  (hb.cell (World.block_lt_of_cell? w _ e)).trans e,(hb.cell (World.block_lt_of_cell? w _ f)).trans f,(hb.cell (World.block_lt_of_cell? w _ g)).trans g,(hb.cell (World.block_lt_of_cell? w _ i)).trans i⟩
theorem TQ(W:Wv):(Instr.index 222 (.agg #[I J 4352,I J 4370,I J 4449,I J 4469,I J 4520,I J 4546,I J 44032,I J 55203]) (I J 0)).run prog W=.ok (.agg #[I J 4352,I J 4370]) W:=oK_
theorem TR(W:Wv):(Instr.index 222 (.agg #[I J 4352,I J 4370,I J 4449,I J 4469,I J 4520,I J 4546,I J 44032,I J 55203]) (I J 1)).run prog W=.ok (.agg #[I J 4449,I J 4469]) W:=oK_
theorem TS(W:Wv):(Instr.index 222 (.agg #[I J 4352,I J 4370,I J 4449,I J 4469,I J 4520,I J 4546,I J 44032,I J 55203]) (I J 2)).run prog W=.ok (.agg #[I J 4520,I J 4546]) W:=oK_
theorem TU(W:Wv):(Instr.index 222 (.agg #[I J 4352,I J 4370,I J 4449,I J 4469,I J 4520,I J 4546,I J 44032,I J 55203]) (I J 3)).run prog W=.ok (.agg #[I J 44032,I J 55203]) W:=oK_
theorem vA(A:Oa)(n k:Nat)(ss:List Spn)(w:Wv)(hA:bG w A ss)(hn:ss.length=n)(hbig:n<=1099511627776)(hL:dX w):
  Calls prog 139 #[H A n k] w (aU (chk ss) w):=by
 subst hn;go_enter func139,ntmps139;go_wp2;go_loopw [14] (λu wr=>∃i:Nat,i<=ss.length/\u=I J i/\(∀t,(ht:t<ss.length)->t<i->¬eH ss[t])/\By w wr) (λu _=>ss.length-(intOf u).toNat)
 case atStart=>exact⟨0,Nat.zero_le _,rfl,λt _ h=>O,Below.refl _ _⟩
 obtain⟨i,hi,rfl,K,e⟩:=hrel;have E:=G K;clear K;by_cases hlt:i<ss.length
 ·obtain⟨b,o,rfl,D,c⟩:=(hA.below e).at hlt
  obtain⟨S,T,V⟩:=c i hlt;clear c;have l:=U (eH ss[i] ↔ (ss[i].lo<0\/1114111<ss[i].hi\/ss[i].hi<ss[i].lo\/ss[i].val<1\/254<ss[i].val)) Iff.rfl;have r:=G (λh=>wM (ss:=ss) hlt h);have z:=G (λh=>oW (P:=eH) hlt E.o h);generalize eH ss[i]=Bd at *;generalize ss[i].lo=lo at *;generalize ss[i].hi=hi' at *;generalize ss[i].val=v at *;go_wp2
  all_goals first
   | (go_ret
      exact⟨aH (r.o (l.o.2 O)).symm,e.alloc e.size _⟩)
   | (go_roundw
      case rel=>exact⟨i+1,O,oN_,z.o (λh=>by have:=l.o.1 h;omega),e.alloc e.size _⟩
      case measure=>exact oI_)
 have m:=G (λt(ht:t<ss.length)=>E.o t ht O);clear E;go_wp2;go_loopw [5] (λu wr=>∃i:Nat,i<=ss.length/\u=I J ((i:Int)+1)/\(∀t,(ht:t+1<ss.length)->t<i->¬eT ss[t] ss[t+1])/\By w wr) (λu _=>ss.length+1-(intOf u).toNat)
 case atStart=>exact⟨0,Nat.zero_le _,rfl,λt _ h=>O,e⟩
 obtain⟨j,hj,rfl,M,a⟩:=hrel;have F:=G M;clear M;by_cases hlt2:j+1<ss.length
 ·obtain⟨b,o,rfl,D,c⟩:=(hA.below a).at hlt2
  obtain⟨S,T,V⟩:=c j O;obtain⟨c4,c5,c6⟩:=c (j+1) hlt2;clear c;have s:=m.o j O;have y:ss[j].hi<=1114111/\0<=ss[j].hi:=by unfold eH at s;omega
  clear s;have l:=U (eT ss[j] ss[j+1] ↔ (ss[j+1].lo<=ss[j].hi\/(ss[j+1].lo=ss[j].hi+1/\ss[j+1].val=ss[j].val))) Iff.rfl;have r:=G (λh=>wO (ss:=ss) m.o hlt2 h);have z:=G (λh=>AS (P:=eT) hlt2 F.o h);generalize eT ss[j] ss[j+1]=Bd at *;generalize ss[j].lo=lo at *;generalize ss[j].hi=hi' at *;generalize ss[j].val=v at *;generalize ss[j+1].lo=lo2 at *;generalize ss[j+1].hi=hi2 at *;generalize ss[j+1].val=v2 at *;obtain⟨ai,aj⟩:=y;by_cases t1:lo2<=hi'
  ·have d1:decide (lo2<=hi')=true:=by simpa using t1
   go_wp2;go_region
   all_goals
    go_wp2;go_ret;exact⟨aH (r.o (l.o.2 O)).symm,by repeat(first|exact a|refine Below.drew ?_|refine Below.alloc ?_ (by have:=a.size;simp;omega) _)⟩
  have d1:decide (lo2<=hi')=false:=by simpa using t1
  by_cases t2:lo2=hi'+1
  ·have d2:(lo2==hi'+1)=true:=by simpa using t2
   by_cases t3:v2=v
   ·have d3:(v2==v)=true:=by simpa using t3
    have q:=G t2;have x:=G t3;clear t2 t3;go_wp2;go_region
    all_goals
     go_wp2;go_ret;exact⟨aH (r.o (l.o.2 (.inr ⟨q.o,x.o⟩))).symm,by repeat(first|exact a|refine Below.drew ?_|refine Below.alloc ?_ (by have:=a.size;simp;omega) _)⟩
   have d3:(v2==v)=false:=by simpa using t3
   have q:=G t2;have x:=G t3;clear t2 t3;go_wp2;go_region
   all_goals
    go_wp2;go_roundw
    case rel=>exact⟨j+1,O,oN_,z.o (λh=>by have:=l.o.1 h;have:=x.o;omega),by repeat(first|exact a|refine Below.drew ?_|refine Below.alloc ?_ (by have:=a.size;simp;omega) _)⟩
    exact oI_
  have d2:(lo2==hi'+1)=false:=by simpa using t2
  have q:=G t2;clear t2;go_wp2;go_region
  all_goals
   go_wp2;go_roundw
   case rel=>exact⟨j+1,O,oN_,z.o (λh=>by have:=l.o.1 h;have:=q.o;omega),by repeat(first|exact a|refine Below.drew ?_|refine Below.alloc ?_ (by have:=a.size;simp;omega) _)⟩
   exact oI_
 have B:=G (λt(ht:t+1<ss.length)=>F.o t ht O);clear F;go_wp2;go_loopw [81] (λu wr=>∃i:Nat,i<=ss.length/\u=I J i/\(∀t,(ht:t<ss.length)->t<i->¬h_ ss[t])/\By w wr) (λu _=>ss.length-(intOf u).toNat)
 case atStart=>exact⟨0,Nat.zero_le _,rfl,λt _ h=>O,a⟩
 obtain⟨i,hi,rfl,h3,d⟩:=hrel;have R:=G h3;clear h3;by_cases hlt3:i<ss.length
 ·obtain⟨b,o,rfl,D,c⟩:=(hA.below d).at hlt3
  obtain⟨S,T,V⟩:=c i hlt3;obtain⟨l0,l1,l2,l3,l4,l5,l6,l7⟩:=hL.below d;clear c;have hz:1<wr.heap.size:=World.block_lt_of_cell? wr _ l0;have l:=U (h_ ss[i] ↔ ((ss[i].lo<=4370/\4352<=ss[i].hi)\/(ss[i].lo<=4469/\4449<=ss[i].hi)\/(ss[i].lo<=4546/\4520<=ss[i].hi)\/(ss[i].lo<=55203/\44032<=ss[i].hi))) Iff.rfl;have r:=G (λh=>wN (ss:=ss) m.o B.o hlt3 h);have z:=G (λh=>oW (P:=h_) hlt3 R.o h);generalize h_ ss[i]=Bd at *;generalize ss[i].lo=lo at *;generalize ss[i].hi=hi' at *;generalize ss[i].val=v at *;obtain⟨wo,rfl⟩:∃wo:Wv,wo=wr:=⟨_,rfl⟩;go_wp2;have Q:By w (wo.alloc (.cells #[I J lo,I J hi',I J v] 182)):=d.alloc d.size _
  go_loopw [86] (λu wr=>∃j:Int,0<=j/\j<=4/\u=I J j/\(0<j->¬(lo<=4370/\4352<=hi'))/\(1<j->¬(lo<=4469/\4449<=hi'))/\(2<j->¬(lo<=4546/\4520<=hi'))/\(3<j->¬(lo<=55203/\44032<=hi'))/\
    Below (wo.heap.size+1) (wo.alloc (.cells #[I J lo,I J hi',I J v] 182)) wr) (λu _=>4-(intOf u).toNat)
  case atStart=>exact⟨0,O,O,rfl,O,O,O,O,Below.refl _ _⟩
  obtain⟨j,ag,ah,rfl,W,X,Y,g3,g⟩:=hrel;have a0:wr.cell? ⟨wo.heap.size,0,N⟩=Z (I J lo):=(g.cell (p:=⟨wo.heap.size,0,N⟩) L).trans (by simp[World.cell?_alloc_at]);have a1:wr.cell? ⟨wo.heap.size,1,N⟩=Z (I J hi'):=(g.cell (p:=⟨wo.heap.size,1,N⟩) L).trans (by simp[World.cell?_alloc_at]);have ak:wo.heap.size<wr.heap.size:=by have:=g.size;simp at this;omega
  have C:=G (Q.trans (g.mono (by have:=d.size;omega)));have f:=G (And.intro W (And.intro X (And.intro Y g3)));clear W X Y g3;have x0:=TQ;have x1:=TR;have x2:=TS;have x3:=TU;obtain rfl|rfl|rfl|rfl|rfl:j=0\/j=1\/j=2\/j=3\/j=4:=O;all_goals go_wp2
  all_goals first
   | (go_ret
      exact⟨aH (r.o (l.o.2 O)).symm,C.o.alloc (by have:=d.size;omega) _⟩)
   | (go_roundw
      case rel=>exact⟨i+1,O,oN_,z.o (λh=>by have K:=l.o.1 h;have M:=f.o;omega),C.o⟩
      case measure=>exact oI_)
   | (go_roundw
      case rel=>exact⟨1,O,O,rfl,by have:=f.o;omega,by have:=f.o;omega,by have:=f.o;omega,by have:=f.o;omega,g.alloc O _⟩
      case measure=>simp[intOf])
   | (go_roundw
      case rel=>exact⟨2,O,O,rfl,by have:=f.o;omega,by have:=f.o;omega,by have:=f.o;omega,by have:=f.o;omega,g.alloc O _⟩
      case measure=>simp[intOf])
   | (go_roundw
      case rel=>exact⟨3,O,O,rfl,by have:=f.o;omega,by have:=f.o;omega,by have:=f.o;omega,by have:=f.o;omega,g.alloc O _⟩
      case measure=>simp[intOf])
   | (go_roundw
      case rel=>exact⟨4,O,O,rfl,by have:=f.o;omega,by have:=f.o;omega,by have:=f.o;omega,by have:=f.o;omega,g.alloc O _⟩
      case measure=>simp[intOf])
 have r:=G (wL (ss:=ss) m.o B.o (λt ht=>R.o t ht O));go_wp2;go_ret;exact⟨aH r.o.symm,d⟩
def vld(c:Int):Bool:=decide (0<=c/\c<=1114111)
theorem mO(c:Int)(w:Wv):Calls prog 107 #[I J c] w λe w'=>e=.returned (.bool (vld c))/\w'=w:=by
 by_cases h1:0<=c
 ·by_cases h2:c<=1114111
  ·rw[show vld c=true by unfold vld;simp[h1,h2]]
   go_enter func107,ntmps107;go_wp2;go_ret;exact⟨rfl,rfl⟩
  rw[show vld c=false by unfold vld;simp[h1,h2]];go_enter func107,ntmps107;go_wp2;go_ret;exact⟨rfl,rfl⟩
 rw[show vld c=false by unfold vld;simp[h1]];go_enter func107,ntmps107;go_wp2;go_ret;exact⟨rfl,rfl⟩
def s_:Lv:=[I J 4352,I J 4370,I J 4449,I J 4469,I J 4520,I J 4546,I J 44032,I J 55203]
theorem PF(w:Wv):Calls prog 147 #[] w λe w'=>∃b,e=.returned (H (Z ⟨b,0,N⟩) 4 4)/\Sl w' (Z ⟨b,0,N⟩) s_/\By w w':=by
 go_enter func147,ntmps147;go_wp2;go_ret;exact⟨_,rfl,bI _ s_ _ rfl,ba _ _⟩
theorem BP(A:Oa)(n k:Nat)(ss:List Spn)(w:Wv)(hA:bG w A ss)(hn:ss.length=n)(hbig:n<=1099511627776):
  Calls prog 96 #[H A n k] w (aU (chk ss) w):=by
 subst hn;go_enter func96,ntmps96;go_wp2;go_loopw [3] (λu wr=>∃i:Nat,i<=ss.length/\u=I J i/\(∀t,(ht:t<ss.length)->t<i->¬eH ss[t])/\By w wr) (λu _=>ss.length-(intOf u).toNat)
 case atStart=>exact⟨0,Nat.zero_le _,rfl,λt _ h=>O,Below.refl _ _⟩
 obtain⟨i,hi,rfl,h1,g⟩:=hrel;have H1:=G h1;clear h1;by_cases hlt:i<ss.length
 ·obtain⟨b,o,rfl,X,c⟩:=(hA.below g).at hlt
  obtain⟨c1,c2,c3⟩:=c i hlt;clear c;have r:=U (eH ss[i] ↔ (ss[i].lo<0\/1114111<ss[i].hi\/ss[i].hi<ss[i].lo\/ss[i].val<1\/254<ss[i].val)) Iff.rfl;have s:=G (λh=>wM (ss:=ss) hlt h);have S:=G (λh=>oW (P:=eH) hlt H1.o h);generalize eH ss[i]=Bd at *;generalize ss[i].lo=lo at *;generalize ss[i].hi=hi' at *;generalize ss[i].val=v at *;by_cases q0:0<=lo/\lo<=1114111
  ·have t0:vld lo=true:=by unfold vld;simpa using q0
   by_cases q1:0<=hi'/\hi'<=1114111
   ·have Y:vld hi'=true:=by unfold vld;simpa using q1
    by_cases q2:¬hi' < lo
    ·have y:decide (hi' < lo)=false:=by simpa using q2
     by_cases q3:¬v<1
     ·have K:decide (v<1)=false:=by simpa using q3
      by_cases q4:¬254<v
      ·have t4:decide (254<v)=false:=by simpa using q4
       go_wp2;go_quiet((go_at_call 107;exact Calls.quiet_of_same (mO _ _)));go_wp2;go_roundw
       case rel=>exact⟨i+1,O,oN_,S.o (λh=>by have:=r.o.1 h;omega),bU g _⟩
       exact oI_
      have t4:decide (254<v)=true:=by simpa using q4
      go_wp2;go_quiet((go_at_call 107;exact Calls.quiet_of_same (mO _ _)));go_wp2;go_ret;exact⟨aH (s.o (r.o.2 O)).symm,bU g _⟩
     have K:decide (v<1)=true:=by simpa using q3
     go_wp2;go_quiet((go_at_call 107;exact Calls.quiet_of_same (mO _ _)));go_wp2;go_ret;exact⟨aH (s.o (r.o.2 O)).symm,bU g _⟩
    have y:decide (hi' < lo)=true:=by simpa using q2
    go_wp2;go_quiet((go_at_call 107;exact Calls.quiet_of_same (mO _ _)));go_wp2;go_ret;exact⟨aH (s.o (r.o.2 O)).symm,bU g _⟩
   have Y:vld hi'=false:=by unfold vld;simpa using q1
   go_wp2;go_quiet((go_at_call 107;exact Calls.quiet_of_same (mO _ _)));go_wp2;go_ret;exact⟨aH (s.o (r.o.2 O)).symm,bU g _⟩
  have t0:vld lo=false:=by unfold vld;simpa using q0
  go_wp2;go_quiet((go_at_call 107;exact Calls.quiet_of_same (mO _ _)));go_wp2;go_ret;exact⟨aH (s.o (r.o.2 O)).symm,bU g _⟩
 have z:=G (λt(ht:t<ss.length)=>H1.o t ht O);clear H1;go_wp2;go_loopw [4] (λu wr=>∃i:Nat,i<=ss.length/\u=I J ((i:Int)+1)/\(∀t,(ht:t+1<ss.length)->t<i->¬eT ss[t] ss[t+1])/\By w wr) (λu _=>ss.length+1-(intOf u).toNat)
 case atStart=>exact⟨0,Nat.zero_le _,rfl,λt _ h=>O,g⟩
 obtain⟨j,hj,rfl,h2,f⟩:=hrel;have H2:=G h2;clear h2;by_cases hlt2:j+1<ss.length
 ·obtain⟨b,o,rfl,X,c⟩:=(hA.below f).at hlt2
  obtain⟨c1,c2,c3⟩:=c j O;obtain⟨c4,c5,c6⟩:=c (j+1) hlt2;clear c;have F:=z.o j O;have R:ss[j].hi<=1114111/\0<=ss[j].hi:=by unfold eH at F;omega
  clear F;have r:=U (eT ss[j] ss[j+1] ↔ (ss[j+1].lo<=ss[j].hi\/(ss[j+1].lo=ss[j].hi+1/\ss[j+1].val=ss[j].val))) Iff.rfl;have s:=G (λh=>wO (ss:=ss) z.o hlt2 h);have S:=G (λh=>AS (P:=eT) hlt2 H2.o h);generalize eT ss[j] ss[j+1]=Bd at *;generalize ss[j].lo=lo at *;generalize ss[j].hi=hi' at *;generalize ss[j].val=v at *;generalize ss[j+1].lo=lo2 at *;generalize ss[j+1].hi=hi2 at *;generalize ss[j+1].val=v2 at *;obtain⟨a3,a4⟩:=R;have i1:IntKind.i64.wrap ((j:Int)+1-1)=(j:Int):=by rw[show(j:Int)+1-1=(j:Int) by omega];exact IntWalk.i64_in _ O
  have i2:(j:Int)+1-1=(j:Int):=O;have i3:((j:Int)+1).toNat=j+1:=O;have i4:(j:Int)+1<(ss.length:Int):=O;have i5:(0:Int)<=(j:Int)+1:=O;have i6:(j:Int)<(ss.length:Int):=O;have i7:IntKind.i64.wrap (j:Int)=(j:Int):=IntWalk.i64_in _ O;have i8:IntKind.i64.wrap (hi'+1)=hi'+1:=IntWalk.i64_in _ O;by_cases Y:lo2<=hi'
  ·have D:decide (lo2<=hi')=true:=by simpa using Y
   go_wp2;go_quiet(fail);go_wp2;go_ret;exact⟨aH (s.o (r.o.2 (.inl Y))).symm,bU f _⟩
  have D:decide (lo2<=hi')=false:=by simpa using Y
  by_cases y:lo2=hi'+1
  ·have E:(lo2==hi'+1)=true:=by simpa using y
   by_cases K:v2=v
   ·have d3:(v2==v)=true:=by simpa using K
    have C:=G y;have L:=G K;clear y K;go_wp2;go_quiet(fail);go_wp2;go_ret;exact⟨aH (s.o (r.o.2 (.inr ⟨C.o,L.o⟩))).symm,bU f _⟩
   have d3:(v2==v)=false:=by simpa using K
   have C:=G y;have L:=G K;clear y K;go_wp2;go_quiet(fail);go_wp2;go_roundw
   case rel=>exact⟨j+1,O,oN_,S.o (λh=>by have:=r.o.1 h;have:=L.o;omega),bU f _⟩
   exact oI_
  have E:(lo2==hi'+1)=false:=by simpa using y
  have C:=G y;clear y;go_wp2;go_quiet(fail);go_wp2;go_roundw
  case rel=>exact⟨j+1,O,oN_,S.o (λh=>by have:=r.o.1 h;have:=C.o;omega),bU f _⟩
  exact oI_
 have T:=G (λt(ht:t+1<ss.length)=>H2.o t ht O);clear H2;have CH:=G PF;go_wp2_with fail;refine(CH.o _).mono ?_;rintro e W1 ⟨bh,rfl,V,W⟩;have Q:=tb f W;clear f W;obtain⟨_,_,M,m⟩:=V (by simp[s_]);injection M with M;injection M with ha1 ha2;subst ha1;subst ha2;have k0:=m 0 _ rfl;have k1:=m 1 _ rfl;have k2:=m 2 _ rfl;have k3:=m 3 _ rfl;have k4:=m 4 _ rfl;have k5:=m 5 _ rfl;have k6:=m 6 _ rfl;have k7:=m 7 _ rfl;simp only[Nat.zero_add]at k0 k1 k2 k3 k4 k5 k6 k7;have l:bh<W1.heap.size:=World.block_lt_of_cell? W1 _ k0;clear m V;go_wp2;go_loopw [6] (λu wr=>∃i:Nat,i<=ss.length/\u=I J i/\(∀t,(ht:t<ss.length)->t<i->¬h_ ss[t])/\By W1 wr) (λu _=>ss.length-(intOf u).toNat)
 case atStart=>exact⟨0,Nat.zero_le _,rfl,λt _ h=>O,Below.refl _ _⟩
 obtain⟨i,hi,rfl,h3,a⟩:=hrel;have x:By w wr:=tb Q a;have H3:=G h3;clear h3;by_cases hlt3:i<ss.length
 ·obtain⟨b,o,rfl,X,c⟩:=(hA.below x).at hlt3
  obtain⟨c1,c2,c3⟩:=c i hlt3;clear c;have r:=U (h_ ss[i] ↔ ((ss[i].lo<=4370/\4352<=ss[i].hi)\/(ss[i].lo<=4469/\4449<=ss[i].hi)\/(ss[i].lo<=4546/\4520<=ss[i].hi)\/(ss[i].lo<=55203/\44032<=ss[i].hi))) Iff.rfl;have s:=G (λh=>wN (ss:=ss) z.o T.o hlt3 h);have S:=G (λh=>oW (P:=h_) hlt3 H3.o h);generalize h_ ss[i]=Bd at *;generalize ss[i].lo=lo at *;generalize ss[i].hi=hi' at *;generalize ss[i].val=v at *;have m0:=(a.cell (p:=⟨bh,0,N⟩) l).trans k0;have m1:=(a.cell (p:=⟨bh,1,N⟩) l).trans k1;have m2:=(a.cell (p:=⟨bh,2,N⟩) l).trans k2;have m3:=(a.cell (p:=⟨bh,3,N⟩) l).trans k3;have m4:=(a.cell (p:=⟨bh,4,N⟩) l).trans k4;have m5:=(a.cell (p:=⟨bh,5,N⟩) l).trans k5;have m6:=(a.cell (p:=⟨bh,6,N⟩) l).trans k6;have m7:=(a.cell (p:=⟨bh,7,N⟩) l).trans k7;clear k0 k1 k2 k3 k4 k5 k6 k7;obtain⟨wo,rfl⟩:∃wo:Wv,wo=wr:=⟨_,rfl⟩;go_wp2
  go_loopw [7] (λu wr=>∃j:Int,0<=j/\j<=4/\u=I J j/\(0<j->¬(lo<=4370/\4352<=hi'))/\(1<j->¬(lo<=4469/\4449<=hi'))/\(2<j->¬(lo<=4546/\4520<=hi'))/\(3<j->¬(lo<=55203/\44032<=hi'))/\
    Qt wo wr) (λu _=>4-(intOf u).toNat)
  case atStart=>exact⟨0,O,O,rfl,O,O,O,O,Qt.refl _⟩
  obtain⟨j,a1,a2,rfl,g0,g1,g2,g3,q,rfl⟩:=hrel;have B:=G (bU x q);have d:=G (And.intro g0 (And.intro g1 (And.intro g2 g3)));clear g0 g1 g2 g3;obtain rfl|rfl|rfl|rfl|rfl:j=0\/j=1\/j=2\/j=3\/j=4:=O
  ·by_cases e1:lo<=4370
   ·have D:decide (lo<=4370)=true:=by simpa using e1
    by_cases e2:4352<=hi'
    ·have E:decide (4352<=hi')=true:=by simpa using e2
     go_wp2;go_quiet(fail);go_wp2;go_ret;exact⟨aH (s.o (r.o.2 O)).symm,bU B.o _⟩
    have E:decide (4352<=hi')=false:=by simpa using e2
    go_wp2;go_quiet(fail);go_wp2;go_roundw
    case rel=>exact⟨1,O,O,rfl,by have:=d.o;omega,by have:=d.o;omega,by have:=d.o;omega,by have:=d.o;omega,⟨_,rfl⟩⟩
    simp[intOf]
   have D:decide (lo<=4370)=false:=by simpa using e1
   go_wp2;go_quiet(fail);go_wp2;go_roundw
   case rel=>exact⟨1,O,O,rfl,by have:=d.o;omega,by have:=d.o;omega,by have:=d.o;omega,by have:=d.o;omega,⟨_,rfl⟩⟩
   simp[intOf]
  ·by_cases e1:lo<=4469
   ·have D:decide (lo<=4469)=true:=by simpa using e1
    by_cases e2:4449<=hi'
    ·have E:decide (4449<=hi')=true:=by simpa using e2
     go_wp2;go_quiet(fail);go_wp2;go_ret;exact⟨aH (s.o (r.o.2 O)).symm,bU B.o _⟩
    have E:decide (4449<=hi')=false:=by simpa using e2
    go_wp2;go_quiet(fail);go_wp2;go_roundw
    case rel=>exact⟨2,O,O,rfl,by have:=d.o;omega,by have:=d.o;omega,by have:=d.o;omega,by have:=d.o;omega,⟨_,rfl⟩⟩
    simp[intOf]
   have D:decide (lo<=4469)=false:=by simpa using e1
   go_wp2;go_quiet(fail);go_wp2;go_roundw
   case rel=>exact⟨2,O,O,rfl,by have:=d.o;omega,by have:=d.o;omega,by have:=d.o;omega,by have:=d.o;omega,⟨_,rfl⟩⟩
   simp[intOf]
  ·by_cases e1:lo<=4546
   ·have D:decide (lo<=4546)=true:=by simpa using e1
    by_cases e2:4520<=hi'
    ·have E:decide (4520<=hi')=true:=by simpa using e2
     go_wp2;go_quiet(fail);go_wp2;go_ret;exact⟨aH (s.o (r.o.2 O)).symm,bU B.o _⟩
    have E:decide (4520<=hi')=false:=by simpa using e2
    go_wp2;go_quiet(fail);go_wp2;go_roundw
    case rel=>exact⟨3,O,O,rfl,by have:=d.o;omega,by have:=d.o;omega,by have:=d.o;omega,by have:=d.o;omega,⟨_,rfl⟩⟩
    simp[intOf]
   have D:decide (lo<=4546)=false:=by simpa using e1
   go_wp2;go_quiet(fail);go_wp2;go_roundw
   case rel=>exact⟨3,O,O,rfl,by have:=d.o;omega,by have:=d.o;omega,by have:=d.o;omega,by have:=d.o;omega,⟨_,rfl⟩⟩
   simp[intOf]
  ·by_cases e1:lo<=55203
   ·have D:decide (lo<=55203)=true:=by simpa using e1
    by_cases e2:44032<=hi'
    ·have E:decide (44032<=hi')=true:=by simpa using e2
     go_wp2;go_quiet(fail);go_wp2;go_ret;exact⟨aH (s.o (r.o.2 O)).symm,bU B.o _⟩
    have E:decide (44032<=hi')=false:=by simpa using e2
    go_wp2;go_quiet(fail);go_wp2;go_roundw
    case rel=>exact⟨4,O,O,rfl,by have:=d.o;omega,by have:=d.o;omega,by have:=d.o;omega,by have:=d.o;omega,⟨_,rfl⟩⟩
    simp[intOf]
   have D:decide (lo<=55203)=false:=by simpa using e1
   go_wp2;go_quiet(fail);go_wp2;go_roundw
   case rel=>exact⟨4,O,O,rfl,by have:=d.o;omega,by have:=d.o;omega,by have:=d.o;omega,by have:=d.o;omega,⟨_,rfl⟩⟩
   simp[intOf]
  go_wp2;go_roundw
  case rel=>exact⟨i+1,O,oN_,S.o (λh=>by have h1:=r.o.1 h;have h2:=d.o;omega),bU a _⟩
  exact oI_
 have s:=G (wL (ss:=ss) z.o T.o (λt ht=>H3.o t ht O));go_wp2;go_ret;exact⟨aH s.o.symm,x⟩
def us(ss:List Spn):List Spn:=if chk ss=0 then ss else []
def clz(ss:List Spn)(c:Int):Int:=cls (us ss) c
theorem oL{ss:List Spn}(h:chk ss=0):us ss=ss:=by unfold us;rw[if_pos h]
theorem qI{ss:List Spn}(h:¬chk ss=0):us ss=[]:=by unfold us;rw[if_neg h]
theorem FU(ss:List Spn):(us ss).length<=ss.length:=by unfold us;split<;>simp
theorem FR(ss:List Spn):Asc (us ss):=by
 by_cases h:chk ss=0
 ·rw[oL h];exact v_ h
 rw[qI h];exact Asc.nil
theorem LO{ss:List Spn}(h:∀t,(ht:t<ss.length)->¬eH ss[t])(c:Int):0<=cls ss c/\cls ss c<=254:=by
 induction ss with
 |nil=>simp[cls]
 |cons s r ih=>
  unfold cls;split
  ·have:=h 0 L
   simp only[List.getElem_cons_zero]at this;unfold eH at this;omega
  exact ih λt ht=>by
   have:=h (t+1) (by simpa using ht);simpa using this
theorem wV(ss:List Spn)(c:Int):0<=clz ss c/\clz ss c<=254:=by
 unfold clz;by_cases h:chk ss=0
 ·rw[oL h];exact LO (wP h).1 c
 rw[qI h];simp[cls]
def G_(ss:List Spn)(w:Wv)(e:Ending)(w':Wv):Prop:=∃A k,e=.returned (H A ss.length k)/\bG w' A ss/\By w w'
theorem FV(A:Oa)(n k:Nat)(ss:List Spn)(w:Wv)(hA:bG w A ss)(hn:ss.length=n)(hbig:n<=1099511627776)(hL:dX w):
  Calls prog 120 #[H A n k] w (G_ (us ss) w):=by
 subst hn;have C:=G (vA A ss.length k ss w hA rfl hbig hL);clear hL;by_cases h:chk ss=0
 ·rw[oL h]
  rw[h]at C;clear h;go_enter func120,ntmps120;go_wp2_with fail;refine C.o.mono ?_;rintro e c ⟨rfl,a⟩;go_wp2;go_ret;exact⟨A,k,rfl,hA.below a,a⟩
 rw[qI h];have b:(chk ss !=0)=true:=by simpa using h
 generalize chk ss=z at *;clear h;go_enter func120,ntmps120;go_wp2_with fail;refine C.o.mono ?_;rintro e c ⟨rfl,a⟩;go_wp2;go_ret;exact⟨N,0,rfl,Sl.nil _ _,a⟩
theorem LN(ss:List Spn)(c:Int)(i:Nat)(h:i<ss.length):cls (ss.drop i) c=if ss[i].lo<=c/\c<=ss[i].hi then ss[i].val else cls (ss.drop (i+1)) c:=by
 rw[List.drop_eq_getElem_cons h];rfl
theorem pW(A:Oa)(n k:Nat)(ss:List Spn)(c:Int)(w:Wv)(hA:bG w A ss)(hn:ss.length=n)(hbig:n<=1099511627776):
  Calls prog 101 #[H A n k,I J c] w (aU (clz ss c) w):=by
 subst hn;have C:=G (BP A ss.length k ss w hA rfl hbig);unfold clz;by_cases h:chk ss=0
 ·rw[oL h]
  rw[h]at C;clear h;go_enter func101,ntmps101;go_wp2_with fail;refine C.o.mono ?_;rintro e m ⟨rfl,a⟩;go_wp2;go_loop [5] (λu=>∃i:Nat,i<=ss.length/\u=I J i/\cls ss c=cls (ss.drop i) c) (λu=>ss.length-(intOf u).toNat)
  case atStart=>exact⟨0,Nat.zero_le _,rfl,rfl⟩
  obtain⟨i,hi,rfl,hc⟩:=hrel;have g:=G hc;clear hc;by_cases hlt:i<ss.length
  ·obtain⟨b,o,rfl,j,d⟩:=(hA.below a).at hlt
   obtain⟨p,q,r⟩:=d i hlt;clear d;have f:=G (LN ss c i hlt);generalize ss[i].lo=lo at *;generalize ss[i].hi=hi' at *;generalize ss[i].val=v at *;by_cases t1:lo<=c
   ·by_cases t2:c<=hi'
    ·go_wp2
     go_ret;exact⟨aH (by rw[g.o,f.o,if_pos ⟨t1,t2⟩]),a⟩
    go_wp2;go_round
    case rel=>exact⟨i+1,O,oN_,by rw[g.o,f.o,if_neg O]⟩
    exact oI_
   go_wp2;go_round
   case rel=>exact⟨i+1,O,oN_,by rw[g.o,f.o,if_neg O]⟩
   exact oI_
  have f:=G (show cls (ss.drop i) c=0 by rw[List.drop_eq_nil_of_le O];rfl);go_wp2;go_ret;exact⟨aH (by rw[g.o,f.o]),a⟩
 rw[qI h];have l:(chk ss !=0)=true:=by simpa using h
 generalize chk ss=z at *;clear h;go_enter func101,ntmps101;go_wp2_with fail;refine C.o.mono ?_;rintro e m ⟨rfl,a⟩;go_wp2;go_ret;exact⟨rfl,a⟩
theorem WM(A:Oa)(n k:Nat)(ss:List Spn)(c:Int)(w:Wv)(hA:bG w A ss)(hn:ss.length=n)(hbig:n<=1099511627776):
  Calls prog 187 #[H A n k,I J c] w (c_ (clz ss c==0) w):=by
 have U:=G (pW A n k ss c w hA hn hbig);clear hA hn;generalize clz ss c=z at *;go_enter func187,ntmps187;go_wp2_with fail;refine U.o.mono ?_;rintro e b ⟨rfl,a⟩;go_wp2;go_ret;exact⟨rfl,a⟩
theorem II(A:Oa)(n k:Nat)(w:Wv):Calls prog 81 #[H A n k] w λe w'=>e=.returned (.bool (decide (n<=16)))/\w=w':=by
 go_enter func81,ntmps81;go_wp2;go_ret;refine⟨cY ?_,rfl⟩;rw[Bool.eq_iff_iff];simp;omega
end
section
def rns(cl:Int->Int):Li->Nat->Option Nat->List (Nat×Nat)
 | [],_,N=>[]
 | [],i,Z s=>[(s,i)]
 |c::r,i,N=>if cl c=0 then rns cl r (i+1) N else rns cl r (i+1) (Z i)
 |c::r,i,Z s=>if cl c=0 then(s,i)::rns cl r (i+1) N else rns cl r (i+1) (Z s)
theorem XW(cl:Int->Int)(l:Li)(i:Nat)(s:Option Nat):(rns cl l i s).length<=l.length+1:=by
 induction l generalizing i s with
 |nil=>cases s<;>simp[rns]
 |cons c r ih=>
  cases s with
  |none=>
   simp only[rns];split
   ·have:=ih (i+1) N;simp;omega
   have:=ih (i+1) (Z i);simp;omega
  |some s=>
   simp only[rns];split
   ·have:=ih (i+1) N;simp;omega
   have:=ih (i+1) (Z s);simp;omega
theorem XX(cl:Int->Int)(l:Li)(i:Nat):(rns cl l i N).length<=l.length:=by
 induction l generalizing i with
 |nil=>simp[rns]
 |cons c r ih=>
  simp only[rns];split
  ·have:=ih (i+1);simp;omega
  have:=XW cl r (i+1) (Z i);simp;omega
def stv:Option Nat->Int
 |none=>-1
 |some s=>s
theorem XY(cl:Int->Int)(l:Li)(k:Nat)(h:k<l.length)(s:Option Nat):
  rns cl (l.drop k) k s=match s with
   |none=>if cl l[k]=0 then rns cl (l.drop (k+1)) (k+1) N else rns cl (l.drop (k+1)) (k+1) (Z k)
   |some s=>if cl l[k]=0 then(s,k)::rns cl (l.drop (k+1)) (k+1) N else rns cl (l.drop (k+1)) (k+1) (Z s):=by
 rw[List.drop_eq_getElem_cons h];cases s<;>rfl
theorem XR(cl:Int->Int)(l:Li)(k:Nat)(h:l.length<=k)(s:Option Nat):rns cl (l.drop k) k s=match s with|none=>[]|some s=>[(s,k)]:=by
 rw[List.drop_eq_nil_of_le h];cases s<;>rfl
end
section
open Go.RowKit
def stB(ms:List Mp):Bool:=(List.range (ms.length-1)).all λi=>decide (kQ ms i<kQ ms (i+1))
def cV(m:Mp):Bool:=decide (m.tag.size=0)&&(decide (¬m.toq.length=1)&&decide (¬m.toq.length=2))
def dD(ss:List Spn)(m:Mp):Bool:=decide (¬Hg.kind m.frm=0)||(decide (¬m.tag.size=0)&&decide (¬clz ss m.frm=0))
def dN(ms:List Mp):Bool:=(bY ms.length (toM ms) (aD ms true) ms.length).all id
def gW(ms:List Mp)(compat:Bool):Nat->Li
 |0=>List.replicate ms.length 0
 |r+1=>(List.range ms.length).foldl (dW (toM ms) (aD ms compat) dlM aM (aX ms compat)) (gW ms compat r)
def gV(ms:List Mp)(compat:Bool):Li:=gW ms compat ms.length
def fE(ms:List Mp):Bool:=(List.range ms.length).any λi=>decide (64<(gV ms false).getD i 0)||decide (64<(gV ms true).getD i 0)
def bW(x:Nrm):Int:=
 if¬chk x.cls=0 then chk x.cls else if¬cH x.dec=0 then cH x.dec else if iE x.exc=false then 11 else if stB x.dec=false then 5
 else if x.dec.any cV=true then 8 else if x.dec.any (dD x.cls)=true then 11 else if dN x.dec=false then 12 else if fE x.dec=true then 13 else 0
structure Ck3(x:Nrm):Prop where
 c:chk x.cls=0
 m:cH x.dec=0
 s:iE x.exc=true
structure Ck4(x:Nrm):Prop extends Ck3 x where
 t:stB x.dec=true
structure Ck5(x:Nrm):Prop extends Ck4 x where
 k:x.dec.any cV=false
structure Ck6(x:Nrm):Prop extends Ck5 x where
 d:x.dec.any (dD x.cls)=false
section
variable {x:Nrm}
theorem tS(h:¬chk x.cls=0):bW x=chk x.cls:=by unfold bW;rw[if_pos h]
theorem tU(h:chk x.cls=0)(h2:¬cH x.dec=0):bW x=cH x.dec:=by unfold bW;rw[if_neg (by simpa using h),if_pos h2]
theorem tW(h:chk x.cls=0)(h2:cH x.dec=0)(h3:iE x.exc=false):bW x=11:=by unfold bW;rw[if_neg (by simpa using h),if_neg (by simpa using h2),if_pos h3]
theorem Ck3.rest(h:Ck3 x):bW x=if stB x.dec=false then 5
 else if x.dec.any cV=true then 8 else if x.dec.any (dD x.cls)=true then 11 else if dN x.dec=false then 12 else if fE x.dec=true then 13 else 0:=by
 unfold bW;rw[if_neg (by simpa using h.c),if_neg (by simpa using h.m),if_neg (by simp[h.s])]
theorem Ck3.twice(h:Ck3 x)(h2:stB x.dec=false):bW x=5:=by rw[h.rest,if_pos h2]
theorem Ck4.rest(h:Ck4 x):bW x=if x.dec.any cV=true then 8 else if x.dec.any (dD x.cls)=true then 11 else if dN x.dec=false then 12 else if fE x.dec=true then 13 else 0:=by
 rw[h.toCk3.rest,if_neg (by simp[h.t])]
theorem Ck4.kind(h:Ck4 x)(h2:x.dec.any cV=true):bW x=8:=by rw[h.rest,if_pos h2]
theorem Ck5.rest(h:Ck5 x):bW x=if x.dec.any (dD x.cls)=true then 11 else if dN x.dec=false then 12 else if fE x.dec=true then 13 else 0:=by
 rw[h.toCk4.rest,if_neg (by simp[h.k])]
theorem Ck5.data(h:Ck5 x)(h2:x.dec.any (dD x.cls)=true):bW x=11:=by rw[h.rest,if_pos h2]
theorem Ck6.rest(h:Ck6 x):bW x=if dN x.dec=false then 12 else if fE x.dec=true then 13 else 0:=by
 rw[h.toCk5.rest,if_neg (by simp[h.d])]
theorem tT(h:bW x=0):Ck6 x/\dN x.dec=true/\fE x.dec=false:=by
 by_cases h1:chk x.cls=0
 ·by_cases h2:cH x.dec=0
  ·cases h3:iE x.exc with
   |false=>rw[tW h1 h2 h3]at h;omega
   |true=>
    have a:Ck3 x:=⟨h1,h2,h3⟩;cases h4:stB x.dec with
    |false=>rw[a.twice h4]at h;omega
    |true=>
     have b:Ck4 x:=⟨a,h4⟩;cases h5:x.dec.any cV with
     |true=>rw[b.kind h5]at h;omega
     |false=>
      have c:Ck5 x:=⟨b,h5⟩;cases h6:x.dec.any (dD x.cls)with
      |true=>rw[c.data h6]at h;omega
      |false=>
       have d:Ck6 x:=⟨c,h6⟩;rw[d.rest]at h;cases h7:dN x.dec with
       |false=>rw[h7]at h;simp at h
       |true=>
        cases h8:fE x.dec with
        |true=>rw[h7,h8]at h;simp at h
        |false=>exact⟨d,rfl,rfl⟩
  rw[tU h1 h2]at h;exact absurd h h2
 rw[tS h1]at h;exact absurd h h1
end
theorem A_{ms:List Mp}(h:cH ms=0):cX ms=0:=by
 unfold cH at h;by_cases hp:cX ms=0
 ·exact hp
 rw[if_pos hp]at h;exact h
theorem RZ{ms:List Mp}(h:cH ms=0):dQ ms=true:=by
 have hp:=A_ h;unfold cH at h;rw[if_neg (by simp[hp])]at h;cases ha:dQ ms with
 |true=>rfl
 |false=>rw[ha]at h;by_cases hn:(ms.map aY).Nodup<;>simp[hn]at h
theorem zL{ms:List Mp}(h:cH ms=0):gG ms:=by
 intro i hi;have hm:=List.getElem_mem hi;have hp:=A_ h;unfold cX at hp;cases h1:ms.any dF with
 |true=>rw[h1]at hp;simp at hp
 |false=>
  cases h2:ms.any (λm=>decide (64<m.toq.length))with
  |true=>rw[h1,h2]at hp;simp at hp
  |false=>
   have a:=List.any_eq_false.1 h1 _ hm;have b:=List.any_eq_false.1 h2 _ hm;unfold dF inR at a;simp only[Bool.or_eq_true,not_or,Bool.not_eq_true',decide_eq_true_eq,List.any_eq_true,not_exists,not_and]at a b;obtain⟨c,d⟩:=a;refine⟨by simpa using c,O,λe he=>by simpa using d e he⟩
theorem vY:∀{ms:List Mp},dQ ms=true->∀i,(hi:i+1<ms.length)->ms[i].frm<=ms[i+1].frm
 | [],_,i,hi=>by simp at hi
 | [_],_,i,hi=>by simp at hi
 |a::b::r,h,i,hi=>by
  simp only[dQ,Bool.and_eq_true,decide_eq_true_eq]at h;cases i with
  |zero=>
   simp only[List.getElem_cons_zero,List.getElem_cons_succ];have c:=h.1;unfold dU at c;split at c
   ·omega
   split at c
   ·omega
   omega
  |succ i=>
   have:=vY h.2 i (by simpa using hi);simpa using this
theorem DW{ms:List Mp}(h:cH ms=0)(hne:∀k,(hk:k+1<ms.length)->¬ms[k+1].frm=ms[k].frm):stB ms=true:=by
 unfold stB;rw[List.all_eq_true];intro i hi;have b:=List.mem_range.1 hi;have a:i+1<ms.length:=O;have:=vY (RZ h) i a;have:=hne i a;rw[decide_eq_true_eq,gT O,gT a];omega
theorem nK{ms:List Mp}(h:stB ms=true):StF ms:=by
 have c:∀i,(hi:i+1<ms.length)->ms[i].frm<ms[i+1].frm:=λi hi=>by
  unfold stB at h;have:=List.all_eq_true.1 h i (List.mem_range.2 O);rwa[decide_eq_true_eq,gT O,gT hi]at this
 have e:∀d i,(hi:i+d+1<ms.length)->ms[i].frm<ms[i+d+1].frm:=by
  intro d;induction d with
  |zero=>intro i hi;exact c i hi
  |succ d ih=>
   intro i hi;have a:=ih i O;have b:=c (i+d+1) O;have:i+(d+1)+1=i+d+1+1:=O;simp only[this];omega
 intro i j hi hj f;obtain⟨d,rfl⟩:∃d,j=i+d+1:=⟨j-i-1,O⟩;exact e d i hj
theorem DV{ms:List Mp}{k j:Nat}(hk:k<ms.length)(hj:j<ms.length)(hne:k<j)(h:ms[j].frm=ms[k].frm):stB ms=false:=by
 cases e:stB ms with
 |false=>rfl
 |true=>have:=nK e k j hk hj hne;omega
theorem oN{ss:List Spn}{ms:List Mp}(h:ms.any (dD ss)=false):dG ms:=λi hi=>by
 have:=List.any_eq_false.1 h _ (List.getElem_mem hi);unfold dD at this;simp at this;exact this.1
theorem pN{α:Type}(f:α->Nat->α)(n:Nat)(g:Nat->α)(hg:∀r,g (r+1)=(List.range n).foldl f (g r))(r:Nat):((List.replicate r (List.range n)).flatten).foldl f (g 0)=g r:=by
 induction r with
 |zero=>rfl
 |succ r ih=>rw[List.replicate_succ',List.flatten_append,List.foldl_append,ih,hg];simp
theorem yI{ms:List Mp}(hs:StF ms)(compat:Bool):∀e m,aD ms compat e=Z m->aD ms true e=Z m:=λe m h=>by
 obtain⟨hi,a,_⟩:=gS h;rw[pI hs hi a,if_pos (.inl rfl)]
theorem n_{ms:List Mp}(hs:StF ms)(hh:dG ms)(he:dN ms=true)(compat:Bool):∀i,(hi:i<ms.length)->Sz (onM ms compat) aM ms[i].frm ((gV ms compat).getD i 0):=by
 intro i hi
 have d:∀j∈(List.replicate ms.length (List.range ms.length)).flatten,j<ms.length:=λj hj=>by
  obtain⟨l,b,c⟩:=List.mem_flatten.1 hj;rw[List.eq_of_mem_replicate b]at c;exact List.mem_range.1 c
 have g:=YC (zN hs hh compat) (yI hs compat) (List.replicate ms.length (List.range ms.length)).flatten d i hi;have e:=pN (aR (toM ms) (aD ms true)) ms.length (bY ms.length (toM ms) (aD ms true)) (λ_=>rfl) ms.length;have f:=pN (dW (toM ms) (aD ms compat) dlM aM (aX ms compat)) ms.length (gW ms compat) (λ_=>rfl) ms.length;simp only[bY,gW]at e f;rw[e,f]at g;have hl:=(lQ ms.length (toM ms) (aD ms true) ms.length).1;have:(bY ms.length (toM ms) (aD ms true) ms.length).getD i false=true:=by
  unfold dN at he;have a:i<(bY ms.length (toM ms) (aD ms true) ms.length).length:=by rw[hl];exact hi
  have:=List.all_eq_true.1 he _ (List.getElem_mem a);simpa[List.getD,a]using this
 obtain⟨v,b,c⟩:=g this;rw[gT hi]at b;unfold gV;rw[c];exact b
theorem NH{ms:List Mp}(hs:StF ms)(hh:dG ms)(h:∀i,(hi:i<ms.length)->∃v,Sz (onM ms true) aM ms[i].frm v):dN ms=true:=by
 unfold dN;rw[List.all_eq_true];intro b hb;obtain⟨i,hi,rfl⟩:=List.getElem_of_mem hb;have hl:=(lQ ms.length (toM ms) (aD ms true) ms.length).1;have a:i<ms.length:=by rw[hl]at hi;exact hi
 have:=XO (n:=ms.length) (toq:=toM ms) (fnd:=aD ms true) (frm:=kQ ms) (on:=onM ms true) (cap:=aM) (λi hi=>by rw[gT hi,nB hs hh true hi,if_pos (.inl rfl),kY hi]) (zN hs hh true).fd (λi hi=>by rw[gT hi];exact h i hi) i a;simpa[List.getD,hi]using this
theorem IN{ms:List Mp}(hs:StF ms)(hh:dG ms)(he:dN ms=true)(x:Int):∃v,Sz (onM ms true) aM x v:=by
 cases hf:aD ms true x with
 |none=>exact⟨_,rN hh true hf⟩
 |some i=>
  obtain⟨hi,a,_⟩:=gS hf;subst a;exact⟨_,n_ hs hh he true i hi⟩
theorem kH.cyc{ms:List Mp}{cyc lng:Bool}(h:kH ms cyc lng)(hs:StF ms)(hh:dG ms):cyc=!dN ms:=by
 cases hc:cyc with
 |false=>rw[NH hs hh (h.ends hc)];rfl
 |true=>
  cases he:dN ms with
  |false=>rfl
  |true=>
   obtain⟨x,hp⟩:=h.cy hc;obtain⟨v,hv⟩:=IN hs hh he x;exact absurd hp hv.noway
theorem kH.lng{ms:List Mp}{cyc lng:Bool}(h:kH ms cyc lng)(hs:StF ms)(hh:dG ms)(he:dN ms=true):lng=fE ms:=by
 have hc:cyc=false:=by rw[h.cyc hs hh,he];rfl
 rw[Bool.eq_iff_iff,h.lg hc];unfold fE;rw[List.any_eq_true];constructor
 ·rintro⟨i,hi,v,a,c⟩
  refine⟨i,List.mem_range.2 hi,?_⟩;have:=a.func (n_ hs hh he true i hi);rw[<-this];unfold mxE at c;simp[c]
 rintro⟨i,hi,a⟩;have b:=List.mem_range.1 hi;have ht:=n_ hs hh he true i b;refine⟨i,b,_,ht,?_⟩;rw[Bool.or_eq_true,decide_eq_true_eq,decide_eq_true_eq]at a;rcases a with a|a
 ·obtain⟨u,d,e⟩:=IOq hs ht
  have:=d.func (n_ hs hh he false i b);unfold mxE;omega
 exact a
theorem DB(cl:Int->Int):∀(l:Li)(i:Nat),(∀c∈l,cl c=0)->rns cl l i N=[]
 | [],_,_=>rfl
 |c::l,i,h=>by
  have a:=h c L;have:=DB cl l (i+1) (λc hc=>h c (by simp[hc]));simp[rns,a,this]
theorem DD(cl:Int->Int):∀(l:Li)(i s:Nat),rns cl l i (Z s)≠[]
 | [],_,_=>by simp[rns]
 |c::l,i,s=>by
  have a:=DD cl l (i+1) s;simp only[rns];split
  ·simp
  exact a
theorem DA(cl:Int->Int):∀(l:Li)(i:Nat),rns cl l i N=[]->∀c∈l,cl c=0
 | [],_,_,_,h=>by cases h
 |c::l,i,hr,d,hd=>by
  simp only[rns]at hr;split at hr
  ·next h0=>
   rcases List.mem_cons.1 hd with rfl|hd
   ·exact h0
   exact DA cl l (i+1) hr d hd
  exact absurd hr (DD cl l (i+1) i)
def eZ(ms:List Mp):Li:=(ms.filter (λm=>decide (¬m.tag.size=0))).map Mp.frm
theorem MX{ss:List Spn}{ms:List Mp}(hh:∀t,(ht:t<ms.length)->Hg.kind ms[t].frm=0)(hr:rns (clz ss) (eZ ms) 0 N=[]):ms.any (dD ss)=false:=by
 rw[List.any_eq_false];intro m hm;obtain⟨i,hi,rfl⟩:=List.getElem_of_mem hm;unfold dD;by_cases ht:ms[i].tag.size=0
 ·simp[hh i hi,ht]
 have:=DA _ _ _ hr ms[i].frm (List.mem_map.2 ⟨ms[i],List.mem_filter.2 ⟨hm,by simpa using ht⟩,rfl⟩);simp[hh i hi,this]
theorem MY{ss:List Spn}{ms:List Mp}(hr:¬rns (clz ss) (eZ ms) 0 N=[]):ms.any (dD ss)=true:=by
 cases h:ms.any (dD ss)with
 |true=>rfl
 |false=>
  refine absurd (DB _ _ _ λc hc=>?_) hr;obtain⟨m,hm,rfl⟩:=List.mem_map.1 hc;obtain⟨b,a⟩:=List.mem_filter.1 hm;have:=List.any_eq_false.1 h m b;unfold dD at this;simp at this a;exact this.2 a
theorem MW{ss:List Spn}{ms:List Mp}{t:Nat}(ht:t<ms.length)(h:¬Hg.kind ms[t].frm=0):ms.any (dD ss)=true:=List.any_eq_true.2 ⟨_,List.getElem_mem ht,by unfold dD;simp[h]⟩
theorem zAj{ms:List Mp}{i:Nat}(hi:i<ms.length):eZ (ms.take (i+1))=eZ (ms.take i)++if ms[i].tag.size=0 then []else [ms[i].frm]:=by
 unfold eZ;rw[List.take_succ_eq_append_getElem hi,List.filter_append,List.map_append];congr 1;by_cases h:ms[i].tag.size=0
 ·rw[if_pos h,List.filter_cons_of_neg (by rw[decide_eq_true_eq];exact λg=>g h)];rfl
 rw[if_neg h,List.filter_cons_of_pos (by rw[decide_eq_true_eq];exact h)];rfl
theorem EZ(ms:List Mp):(eZ ms).length<=ms.length:=by unfold eZ;rw[List.length_map];exact List.length_filter_le _ _
end
section
open Go.RowKit Go.Shelf
attribute [local go_sem] Oper.semAt_some
def gI(n₀ bo:Nat)(W W':Wv):Prop:=W.heap.size<=W'.heap.size/\∀k,k<n₀->k≠bo->W'.heap[k]?=W.heap[k]?
theorem gI.refl(n₀ bo:Nat)(W:Wv):gI n₀ bo W W:=⟨Nat.le_refl _,λ_ _ _=>rfl⟩
theorem gI.trans{n₀ bo:Nat}{A B C:Wv}(h:gI n₀ bo A B)(g:gI n₀ bo B C):gI n₀ bo A C:=⟨Nat.le_trans h.1 g.1,λk hk hne=>(g.2 k hk hne).trans (h.2 k hk hne)⟩
theorem gI.cell{n₀ bo:Nat}{W W':Wv}(h:gI n₀ bo W W'){p:Addr}(h1:p.block<n₀)(h2:p.block≠bo):W'.cell? p=W.cell? p:=World.cell?_of_block (w:=W) (h.2 p.block h1 h2)
def jA(n₀ bo:Nat)(A:Oa):Prop:=∀b o,A=Z ⟨b,o,N⟩->b<n₀/\b≠bo
theorem Sl.keepX{n₀ bo:Nat}{W W':Wv}{A:Oa}{cs:Lv}(h:Sl W A cs)(hk:gI n₀ bo W W')(hw:cs≠[]->jA n₀ bo A):Sl W' A cs:=by
 intro a;obtain⟨b,o,rfl,hc⟩:=h a;obtain⟨c,d⟩:=hw a b o rfl;exact⟨b,o,rfl,λj u hu=>(hk.cell (p:=⟨b,o+j,N⟩) c d).trans (hc j u hu)⟩
structure Mem(Bt Bs:Nat)(A:Oa)(nt kt:Nat)(text:Li)(A':Oa)(ns ks:Nat)(ss:List Spn)(W:Wv):Prop where
 bt:W.cell? ⟨Bt,0,N⟩=Z (H A nt kt)
 bs:W.cell? ⟨Bs,0,N⟩=Z (H A' ns ks)
 tx:aA W A text
 sp:bG W A' ss
theorem Mem.below{Bt Bs:Nat}{A:Oa}{nt kt:Nat}{text:Li}{A':Oa}{ns ks:Nat}{ss:List Spn}{W W':Wv}(h:Mem Bt Bs A nt kt text A' ns ks ss W)(hb:By W W'):Mem Bt Bs A nt kt text A' ns ks ss W':=
 ⟨(hb.cell (World.block_lt_of_cell? W _ h.bt)).trans h.bt,(hb.cell (World.block_lt_of_cell? W _ h.bs)).trans h.bs,h.tx.below hb,h.sp.below hb⟩
theorem Mem.keepX{n₀ bo Bt Bs:Nat}{A:Oa}{nt kt:Nat}{text:Li}{A':Oa}{ns ks:Nat}{ss:List Spn}{W W':Wv}(h:Mem Bt Bs A nt kt text A' ns ks ss W)(hk:gI n₀ bo W W')
  (h1:Bt<n₀/\Bt≠bo) (h2:Bs<n₀/\Bs≠bo) (h3:text≠[]->jA n₀ bo A) (h4:ss≠[]->jA n₀ bo A'):Mem Bt Bs A nt kt text A' ns ks ss W':=
 ⟨(hk.cell (p:=⟨Bt,0,N⟩) h1.1 h1.2).trans h.bt,(hk.cell (p:=⟨Bs,0,N⟩) h2.1 h2.2).trans h.bs,Sl.keepX h.tx hk (λhne=>h3 (by rintro rfl;exact hne rfl)),Sl.keepX h.sp hk (λhne=>h4 (by rintro rfl;exact hne rfl))⟩
def mS(x:Nat×Nat):Array Value:=#[.agg #[I J (x.1:Int),I J (x.2:Int)]]
theorem GL{α:Type}{J:List α->Wv->Prop}{B:Nat}(h:AbidesFrom B J){pre:List α}{W W':Wv}(hJ:J pre W)(hb:By W W'):J pre W':=
 h pre W W' N hJ ⟨hb.os,hb.tape,hb.output,hb.size,λk hk _=>hb.block k hk⟩ (λr e=>by cases e)
def IF{α:Type}(all:List α)(J Jx:List α->Wv->Prop)(e:Ending)(W':Wv):Prop:=(∃v,e=.returned v)/\((∃ys,ys=all/\J ys W')\/(∃pre,pre <+: all/\Jx pre W'))
theorem YH{α:Type}(f:α->Nat×Nat)(n:Nat)(hn1:1<=n)(l n₀ bo Bt Bs:Nat)(A:Oa)(nt kt:Nat)(text:Li)(A':Oa)(ns ks:Nat)(ss:List Spn)(all:List α)
  (hall:all.map f=rns (cls ss) text 0 N) (hnt:text.length=nt) (hns:ss.length=ns) (hb1:nt<=1099511627776) (hb2:ns<=1099511627776) (hasc:Asc ss)
  (h1:Bt<n₀/\Bt≠bo) (h2:Bs<n₀/\Bs≠bo) (h3:text≠[]->jA n₀ bo A) (h4:ss≠[]->jA n₀ bo A')
  (J Jx:List α->Wv->Prop) (B:Nat) (hJ:AbidesFrom B J)
  (hY:∀pre x W,J pre W->pre.length<all.length->YieldAt Fence.wide (n-1) prog l (mS (f x)) W λe W'=>
   (e=.returned (.bool true)/\J (pre++[x]) W'/\gI n₀ bo W W')\/(e=.returned (.bool false)/\Jx (pre++[x]) W'))
  (W:Wv) (hM:Mem Bt Bs A nt kt text A' ns ks ss W) (h0:J [] W) :
  CallsIn Fence.wide n prog 166 #[.func (.yield l) #[] #[],.pointer (Z ⟨Bt,0,N⟩),.pointer (Z ⟨Bs,0,N⟩)] W (IF all J Jx):=by
 subst hnt hns;have T:=G hall;have HA:=G hasc;have HY:=G hY;have HJ:=G hJ;have H3:=G h3;have H4:=G h4;clear hall hasc hY hJ h3 h4;have ar:=hM.bt;have aq:=hM.bs;refine callsIn_of_wp func166 rfl trivial ?_ rfl;simp only[ntmps166,List.size_toArray,List.length_cons,List.length_nil,Nat.reduceAdd,Nat.reduceSub,Array.replicate_succ,Array.replicate_zero,List.push_toArray,List.append_toArray,List.nil_append,List.cons_append];gi_wp2
 gi_loopw [4,10] (λu i wr=>∃(k:Nat)(s:Option Nat)(pre rest:List α),k<=text.length/\i=.int .i64 k/\u=.int .i64 (stv s)/\(pre++rest=all/\rest.map f=rns (cls ss) (text.drop k) k s)/\(∀x,s=Z x->x<=k)/\J pre wr/\Mem Bt Bs A text.length kt text A' ss.length ks ss wr)
  (λ_ i _=>text.length-(intOf i).toNat)
 case atStart=>exact⟨0,N,[],all,Nat.zero_le _,rfl,rfl,⟨rfl,T.o⟩,(λ_ h=>by cases h),h0,hM⟩
 obtain⟨k,s,pre,rest,hk,rfl,rfl,⟨M,D⟩,hs,K,q⟩:=hrel;have P:=G M;have S:=G D;clear D;have HS:=G hs;clear M hs;by_cases hlt:k<text.length
 ·obtain⟨b,o,rfl,y⟩:=q.tx.at hlt
  have c1:=y k hlt;have c2:=q.bs;clear y;have L:=G (XY (cls ss) text k hlt s);generalize text[k]=c at *;gi_wp2_with fail;refine⟨trivial,(callsIn_wide.2 (rW A' ss.length ks ss c wr q.sp rfl hb2 HA.o)).mono ?_⟩;rintro e w1 ⟨rfl,R⟩;have w:=q.below R;have t:=GL HJ.o K R;clear q K R c1 c2;by_cases hz:cls ss c=0
  ·have af:(cls ss c==0)=true:=by simpa using hz
   cases s with
   |none=>
    have g:=G (L.o.trans (show _=_ from if_pos hz));clear L hz;generalize cls ss c=z at *;simp only[stv];gi_wp2;go_roundw
    case rel=>exact⟨k+1,N,pre,rest,O,oN_,rfl,⟨P.o,S.o.trans g.o⟩,(λ_ h=>by cases h),t,w⟩
    exact oI_
   |some s=>
    have g:=G (L.o.trans (show _=_ from if_pos hz));clear L hz;generalize cls ss c=z at *;simp only[stv]
    obtain⟨x,a,hx,C,m⟩:∃x a,rest=x::a/\f x=(s,k)/\a.map f=rns (cls ss) (text.drop (k+1)) (k+1) N:=by
     have:=S.o.trans g.o;cases rest with
     |nil=>cases this
     |cons x r=>simp only[List.map_cons,List.cons.injEq]at this;exact⟨x,r,rfl,this.1,this.2⟩
    have p:=G (show(pre++[x])++a=all by rw[<-P.o,hx];simp);have ab:=G m;have d:pre.length<all.length:=by rw[<-P.o,hx];simp
    have j:=HY.o pre x w1 t d;rw[C]at j;clear hx C m;unfold mS at j;obtain⟨fn,aa,F,V,hy,X⟩:=j;dsimp only at hy;have E:=G X;clear X d;gi_wp2;refine E.o.mono ?_;rintro e W3 (⟨rfl,Q,Y⟩|⟨rfl,v⟩)
    ·have ad:=w.keepX Y h1 h2 H3.o H4.o
     clear w t hy E;gi_wp2;go_roundw
     case rel=>exact⟨k+1,N,pre++[x],a,O,oN_,rfl,⟨p.o,ab.o⟩,(λ_ h=>by cases h),Q,ad⟩
     exact oI_
    gi_wp2;refine bodyPost_ret (results_none rfl _ _ _) rfl ?_;exact⟨⟨_,rfl⟩,.inr ⟨pre++[x],⟨a,p.o⟩,v⟩⟩
  have af:(cls ss c==0)=false:=by simpa using hz
  cases s with
  |none=>
   have g:=G (L.o.trans (show _=_ from if_neg hz));clear L hz;generalize cls ss c=z at *;simp only[stv];gi_wp2;go_roundw
   case rel=>exact⟨k+1,Z k,pre,rest,O,oN_,rfl,⟨P.o,S.o.trans g.o⟩,(λx h=>by cases h;omega),t,w⟩
   exact oI_
  |some s=>
   have g:=G (L.o.trans (show _=_ from if_neg hz));clear L hz;generalize cls ss c=z at *;simp only[stv];gi_wp2;go_roundw
   case rel=>exact⟨k+1,Z s,pre,rest,O,oN_,rfl,⟨P.o,S.o.trans g.o⟩,(λx h=>by have:=HS.o x h;omega),t,w⟩
   exact oI_
 have HE:=G (XR (cls ss) text k O s);have cb:=q.bt;cases s with
 |none=>
  simp only[stv];gi_wp2;go_end0;have ae:rest=[]:=by have:=S.o.trans HE.o;simpa using this
  exact⟨⟨_,rfl⟩,.inl ⟨pre,by rw[<-P.o,ae];simp,K⟩⟩
 |some s=>
  obtain rfl:k=text.length:=O;simp only[stv]
  obtain⟨x,hx,C⟩:∃x,rest=[x]/\f x=(s,text.length):=by
   have:=S.o.trans HE.o;cases rest with
   |nil=>cases this
   |cons x r=>simp only[List.map_cons,List.cons.injEq,List.map_eq_nil_iff]at this;exact⟨x,by rw[this.2],this.1⟩
  have p:=G (show pre++[x]=all by rw[<-P.o,hx]);have d:pre.length<all.length:=by rw[<-p.o];simp
  have j:=HY.o pre x wr K d;rw[C]at j;clear hx C;unfold mS at j;obtain⟨fn,aa,F,V,hy,X⟩:=j;dsimp only at hy;have E:=G X;clear X d;gi_wp2;refine E.o.mono ?_;rintro e W3 (⟨rfl,Q,Y⟩|⟨rfl,v⟩)
  ·gi_wp2
   go_end0;exact⟨⟨_,rfl⟩,.inl ⟨pre++[x],p.o,Q⟩⟩
  gi_wp2;go_end0;exact⟨⟨_,rfl⟩,.inr ⟨pre++[x],⟨[],by rw[List.append_nil];exact p.o⟩,v⟩⟩
theorem DJ{α:Type}(f:α->Nat×Nat)(n:Nat)(hn1:1<=n)(n₀ bo Bt Bs:Nat)(A:Oa)(nt kt:Nat)(text:Li)(A':Oa)(ns ks:Nat)(ss:List Spn)(all:List α)(w:Wv)
  (hall:all.map f=rns (cls ss) text 0 N) (hnt:text.length=nt) (hns:ss.length=ns) (hb1:nt<=1099511627776) (hb2:ns<=1099511627776) (hasc:Asc ss)
  (h1:Bt<n₀/\Bt≠bo) (h2:Bs<n₀/\Bs≠bo) (h3:text≠[]->jA n₀ bo A) (h4:ss≠[]->jA n₀ bo A') (hM:Mem Bt Bs A nt kt text A' ns ks ss w) :
  SeqStopsK Fence.wide n prog 166 #[.pointer (Z ⟨Bt,0,N⟩),.pointer (Z ⟨Bs,0,N⟩)] (λx=>mS (f x)) (gI n₀ bo) (λys=>ys=all) (λpre=>pre <+: all) all.length w:=
 λl J Jx W hW hJ _ hY h0=>YH f n hn1 l n₀ bo Bt Bs A nt kt text A' ns ks ss all hall hnt hns hb1 hb2 hasc h1 h2 h3 h4 J Jx _ hJ hY W (hM.below hW) h0
theorem DI(A:Oa)(nt kt:Nat)(A':Oa)(ns ks:Nat)(w:Wv):
  Calls prog 121 #[H A' ns ks,H A nt kt] w λe w'=>
   e=.returned (.func (.func 166) #[] #[.pointer (Z ⟨w.heap.size+1,0,N⟩),.pointer (Z ⟨w.heap.size,0,N⟩)])/\
   (w.alloc (.cells #[H A' ns ks] 22)).alloc (.cells #[H A nt kt] 33)=w':=by
 go_enter func121,ntmps121;go_wp2;go_ret;exact⟨rfl,rfl⟩
end
section
open Go.RowKit Go.Shelf
attribute [local go_sem] Oper.semAt_some
def mU(rs:List (Nat×Nat)):Lv:=rs.flatMap λr=>[I J (r.1:Int),I J (r.2:Int)]
theorem OG(rs:List (Nat×Nat))(x:Nat×Nat):mU (rs++[x])=mU rs++[I J (x.1:Int),I J (x.2:Int)]:=by simp[mU]
def rD(rs:List (Nat×Nat))(w:Wv)(e:Ending)(w':Wv):Prop:=∃A c,e=.returned (H A rs.length c)/\rs.length<=c/\Sl w' A (mU rs)/\By w w'
theorem PR:(prog.info? 179).map (λi=>(i.zero,i.size,i.bytes))=Z (Z (.agg #[I J 0,I J 0]),2,16):=oK_
theorem nZ{n₀ bo:Nat}{W W':Wv}(h:Below n₀ W W'):gI n₀ bo W W':=⟨h.size,λk hk _=>h.block k hk⟩
theorem Mem.lt_bt{Bt Bs:Nat}{A:Oa}{nt kt:Nat}{text:Li}{A':Oa}{ns ks:Nat}{ss:List Spn}{W:Wv}(h:Mem Bt Bs A nt kt text A' ns ks ss W):Bt<W.heap.size:=World.block_lt_of_cell? W _ h.bt
theorem Mem.lt_bs{Bt Bs:Nat}{A:Oa}{nt kt:Nat}{text:Li}{A':Oa}{ns ks:Nat}{ss:List Spn}{W:Wv}(h:Mem Bt Bs A nt kt text A' ns ks ss W):Bs<W.heap.size:=World.block_lt_of_cell? W _ h.bs
theorem Sl.lt{W:Wv}{A:Oa}{cs:Lv}(h:Sl W A cs)(hne:cs≠[])(bo:Nat)(hbo:W.heap.size<=bo):jA W.heap.size bo A:=by
 intro b o c;obtain⟨d,e,a,hc⟩:=h hne;rw[c]at a;injection a with a;injection a with h1 h2;subst h1;subst h2;obtain⟨x,r,rfl⟩:∃x r,cs=x::r:=by cases cs with|nil=>exact absurd rfl hne|cons x r=>exact⟨x,r,rfl⟩
 have:=World.block_lt_of_cell? W _ (hc 0 x rfl);simp at this;exact⟨this,O⟩
theorem GE(Bt Bs:Nat)(A:Oa)(nt kt:Nat)(text:Li)(A':Oa)(ns ks:Nat)(ss:List Spn)(all:List (Nat×Nat))(w:Wv)
  (hall:rns (cls ss) text 0 N=all) (hnt:text.length=nt) (hns:ss.length=ns) (hb1:nt<=1048576) (hb2:ns<=1099511627776) (hasc:Asc ss) (hM:Mem Bt Bs A nt kt text A' ns ks ss w) :
  Calls prog 199 #[H N 0 0,.func (.func 166) #[] #[.pointer (Z ⟨Bt,0,N⟩),.pointer (Z ⟨Bs,0,N⟩)]] w (rD all w):=by
 have ak:all.length<=1048576:=by rw[<-hall];have:=XX (cls ss) text 0;omega
 obtain⟨i0,Q,ab,ad,ae⟩:=info_parts PR;refine(callsIn_wide (n:=6)).1 ?_;refine callsIn_of_wp_marks func199 rfl trivial ?_ rfl;simp only[ntmps199,List.size_toArray,List.length_cons,List.length_nil,Nat.reduceAdd,Nat.reduceSub,Array.replicate_succ,Array.replicate_zero,List.push_toArray,List.append_toArray,List.nil_append,List.cons_append];gi_wp2;have bS:=Boxed.new w 24 (H N 0 0);have p:By w (w.alloc (.cells #[H N 0 0] 24)):=(Below.refl _ w).alloc (Nat.le_refl _) _;have T:(w.alloc (.cells #[H N 0 0] 24)).heap.size=w.heap.size+1:=L;have z:=hM.below p;obtain⟨W0,B⟩:=exQ (w.alloc (.cells #[H N 0 0] 24));rw[B]at bS p T z|-;clear B
 refine wpIn_rangeFunc_ownH rfl O (gf:=166) (lb:=#[.pointer (Z ⟨Bt,0,N⟩),.pointer (Z ⟨Bs,0,N⟩)]) rfl trivial (enters_of func166 oK_ rfl)
  (DJ (λx=>x) 5 O w.heap.size w.heap.size Bt Bs A nt kt text A' ns ks ss all W0 (by rw[hall];simp) hnt hns O hb2 hasc ⟨hM.lt_bt,by have:=hM.lt_bt;omega⟩ ⟨hM.lt_bs,by have:=hM.lt_bs;omega⟩
   (λhne=>Sl.lt hM.tx (by simpa using hne) _ (Nat.le_refl _)) (λhne=>Sl.lt hM.sp (by cases ss with|nil=>exact absurd rfl hne|cons s r=>simp[gQ]) _ (Nat.le_refl _)) z)
  (λh k=>h.trans k) (λW l o o' hl h hc hw=>nZ (belowK_b (w:=W0) O W l o o' hl h hc hw)) (Below.refl _ _) (λ_=>rfl)
  (λg W=>(∃v,Boxed W w.heap.size 24 v/\W.ownsRow w.heap.size 179 2 v g.length (mU g)/\True)/\By w W)
  (λ_ _ _=>False)
  (OwnFrom.and (Own.from (holdsRow_own w.heap.size w.heap.size 24 179 2 (λg:List (Nat×Nat)=>g.length) mU (λ_ _=>True)) _) (ownFrom_below (Nat.le_refl _) O))
  (λ_ _ _ _ _ hs _ _=>hs)
  ⟨⟨_,bS,World.ownsRow_nil _ _ _ _,trivial⟩,p⟩
  (λx F W=>∃i,w.heap.size<i/\W.heap[i]?=Z (.cells #[I J (x.1:Int),I J (x.2:Int)] 179 (0,0))/\F={ tmps:=#[H N 0 0,.func (.func 166) #[] #[.pointer (Z ⟨Bt,0,N⟩),.pointer (Z ⟨Bs,0,N⟩)],.pointer (Z ⟨w.heap.size,0,N⟩),undef,H N 0 0,.pointer (Z ⟨i,0,N⟩),.func (.func 166) #[] #[.pointer (Z ⟨Bt,0,N⟩),.pointer (Z ⟨Bs,0,N⟩)],.agg #[I J (x.1:Int),I J (x.2:Int)],undef,undef,undef,undef,undef],defers:=[] })
  (λx F _ X Y row hs hg hr=>by
   obtain⟨i,h1,P,h3⟩:=hs
   refine⟨i,h1,(hg.block i (Array.getElem?_eq_some_iff.1 P).1 (λe=>?_)).trans P,h3⟩
   obtain⟨_,o,ho,hc⟩:=hr i e.symm
   rw[P]at ho;cases ho;cases hc)
  ?assign ?body ?done ?stop
 case assign=>
  rintro l g x W K ⟨⟨v,a,d,_⟩,b⟩ y;unfold mS at *;gi_wp2;exact y _ _ ((KeepsOthers.alloc _ _).from _) (nZ ((Below.refl _ W).alloc b.size _)) ⟨⟨v,a.alloc _,d.alloc _,trivial⟩,b.alloc b.size _⟩ ⟨W.heap.size,a.lt,heap_alloc_new W _,rfl⟩
 case body=>
  rintro l g x F W hl ⟨r,hr⟩ ⟨⟨v,a,d,_⟩,b⟩ ⟨i,ar,M,rfl⟩ aw;obtain⟨Av,cv,rfl,C⟩:=iC d;have cS:=a.cell;have fS:=a.frozen;have x0:W.cell? ⟨i,0,N⟩=Z (I J (x.1:Int)):=by rw[cell_of_row W i 0 _ _ (0,0) M];rfl
  have x1:W.cell? ⟨i,1,N⟩=Z (I J (x.2:Int)):=by rw[cell_of_row W i 1 _ _ (0,0) M];rfl
  have al:=a.lt;gi_wp2_with (gi_at_builtin;refine wpListIn_append_own _ rfl _ _ 24 rfl w.heap.size 179 i0 (.agg #[I J 0,I J 0]) 2 16 underlying24 Q ab ad ae rfl V _ _ _ rfl (d.alloc _) ⟨W.heap.size,0,N⟩ 1 1 [I J (x.1:Int),I J (x.2:Int)] rfl rfl ?c1 (cJ [_,_]) (by unfold maxLen;omega) O (by have:=b.size;simp;omega) ?_)
  case c1=>
   intro j u hu;match j,hu with
   |0,hu=>simp at hu;subst hu;simp[Addr.add]
   |1,hu=>simp at hu;subst hu;simp[Addr.add]
  intro v' w1 f m _;obtain⟨am,an,rfl,aj⟩:=iC f;obtain⟨E,aa,S,R,hb2⟩:=a.appended V d b.size (Nat.le_refl _) f m;have au:=E.cell;have av:=E.frozen;clear f m cS fS x0 x1 d M a;gi_wp2;refine⟨R.from _,nZ hb2,⟨_,aa,?_,trivial⟩,b.trans hb2⟩;rw[OG,List.length_append];exact S
 case done=>
  rintro D ys W hD rfl ⟨⟨v,a,d,_⟩,b⟩ y;obtain⟨Av,cv,rfl,C⟩:=iC d;have cS:=a.cell;have t:=G (ownsRow_putObj d (.deferred N) y rfl);have q:=G (b.trans (belowK_b (w:=w) (Nat.le_refl _) W D _ (.deferred N) O y rfl rfl));gi_wp2;refine⟨L,.inl ⟨_,_,rfl,run_takeDeferred y,?_⟩⟩;exact⟨_,results_tmp rfl _ _ _,Av,cv,rfl,C,Sl.of_own t.o,q.o⟩
 rintro D c g W _ _ h _;exact h.elim
theorem GH(Bt Bs:Nat)(A:Oa)(nt kt:Nat)(text:Li)(A':Oa)(ns ks:Nat)(ss:List Spn)(all:List (Nat×Nat))(w:Wv)
  (hall:rns (cls ss) text 0 N=all) (hnt:text.length=nt) (hns:ss.length=ns) (hb1:nt<=1048576) (hb2:ns<=1099511627776) (hasc:Asc ss) (hM:Mem Bt Bs A nt kt text A' ns ks ss w) :
  Calls prog 180 #[.func (.func 166) #[] #[.pointer (Z ⟨Bt,0,N⟩),.pointer (Z ⟨Bs,0,N⟩)]] w (rD all w):=by
 have C:=G (GE Bt Bs A nt kt text A' ns ks ss all w hall hnt hns hb1 hb2 hasc hM);clear hall hnt hns hasc hM;go_enter func180,ntmps180;go_wp2_with fail;refine C.o.mono ?_;rintro e f ⟨c,d,rfl,b,a,hb1⟩;go_wp2;go_ret;exact⟨c,d,rfl,b,a,hb1⟩
theorem IG(A':Oa)(ns ks:Nat)(ss:List Spn)(A:Oa)(nt kt:Nat)(text:Li)(w:Wv)(hS:bG w A' ss)(hT:aA w A text)
  (hnt:text.length=nt) (hns:ss.length=ns) (hb1:nt<=1048576) (hb2:ns<=1099511627776) (hL:dX w) :
  Calls prog 143 #[H A' ns ks,H A nt kt] w (rD (rns (clz ss) text 0 N) w):=by
 have n:=FU ss;rw[hns]at n;have U:=G (FV A' ns ks ss w hS hns hb2 hL);have f:=G (FR ss);have g:clz ss=cls (us ss):=rfl;rw[g];clear hS hL hns g;generalize us ss=ts at *;go_enter func143,ntmps143;go_wp2_with fail;refine U.o.mono ?_;rintro e h ⟨i,o,rfl,c,a⟩;have d:=hT.below a;clear hT U;go_wp2_with fail;refine(DI A nt kt i ts.length o h).mono ?_;rintro e p ⟨rfl,b⟩;have q:Mem (h.heap.size+1) h.heap.size A nt kt text i ts.length o ts p:=by
  rw[<-b];exact⟨L,L,Sl.alloc (Sl.alloc d _) _,Sl.alloc (Sl.alloc c _) _⟩
 have k:By w p:=by
  rw[<-b];exact(a.alloc a.size _).alloc (by have:=a.size;simp;omega) _
 have s:=G q;clear b q d c a;go_wp2_with fail;refine(GH (h.heap.size+1) h.heap.size A nt kt text i ts.length o ts _ p rfl hnt rfl hb1 O f.o s.o).mono ?_;rintro e v ⟨r,t,rfl,m,j,l⟩;go_wp2;go_ret;exact⟨r,t,rfl,m,j,tb k l⟩
end
end Go.Proofs.YtkhmjidaeliccaaGreatDoor
