/- Texts that are merged into one file: LayStr, HeldApp, Quiet, SortPlain, Row, PaNext, PaCode, Clone. -/
import Derived.Test.YtkhmjidaeliccaaGreatDoorB01
import Derived.Test.YtkhmjidaeliccaaGreatDoorB02
import Derived.Shelf.Strings.OnBuilder
import Derived.Test.YtkhmjidaeliccaaGreatDoorProg
import Derived.Deep.QuietTactic
import Derived.BigQuiet
import Derived.WalkSpells
set_option maxRecDepth 100000
set_option maxHeartbeats 51200000
namespace Go.Proofs.YtkhmjidaeliccaaGreatDoor
open Go.Shelf Go.RowKit
def layJ_ren:Ren:=⟨fun | 156=>137 | 165=>175 | 166=>75 | 169=>77 | 240=>134 | 241=>193 | 276=>174 | 277=>205 | n=>n,fun | 31=>132 | 9=>9 | 3=>3 | 4=>4 | 0=>0 | 20=>20 | 72=>125 | 76=>128 | 70=>122 | 37=>123 | 75=>127 | 127=>194 | 164=>217 | 5=>5 | 80=>131 | n=>n,fun n=>n⟩
theorem layJ:Lays.n156 Tryz.prog layJ_ren:={
 mixed:=by kernel_rfl,
 f156:=Tryz.func137.trans (congrArg some (by kernel_rfl)),
 f165:=Tryz.func175.trans (congrArg some (by kernel_rfl)),
 f166:=Tryz.func75.trans (congrArg some (by kernel_rfl)),
 f169:=Tryz.func77.trans (congrArg some (by kernel_rfl)),
 f240:=Tryz.func134.trans (congrArg some (by kernel_rfl)),
 f241:=Tryz.func193.trans (congrArg some (by kernel_rfl)),
 f276:=Tryz.func174.trans (congrArg some (by kernel_rfl)),
 f277:=Tryz.func205.trans (congrArg some (by kernel_rfl)),
 t0:=Tryz.underlying0,
 a0:=Tryz.isAgg0,
 z0:=Tryz.sizeOf0,
 v0:=Tryz.zeroValue0,
 t3:=Tryz.underlying3,
 a3:=Tryz.isAgg3,
 z3:=Tryz.sizeOf3,
 v3:=Tryz.zeroValue3,
 t4:=Tryz.underlying4,
 a4:=Tryz.isAgg4,
 z4:=Tryz.sizeOf4,
 v4:=Tryz.zeroValue4,
 t9:=Tryz.underlying9,
 a9:=Tryz.isAgg9,
 z9:=Tryz.sizeOf9,
 v9:=Tryz.zeroValue9,
 t20:=Tryz.underlying20,
 a20:=Tryz.isAgg20,
 z20:=Tryz.sizeOf20,
 v20:=Tryz.zeroValue20,
 t31:=Tryz.underlying132,
 a31:=Tryz.isAgg132,
 z31:=Tryz.sizeOf132,
 v31:=Tryz.zeroValue132,
 t37:=Tryz.underlying123,
 a37:=Tryz.isAgg123,
 z37:=Tryz.sizeOf123,
 v37:=Tryz.zeroValue123,
 t70:=Tryz.underlying122,
 a70:=Tryz.isAgg122,
 z70:=Tryz.sizeOf122,
 v70:=Tryz.zeroValue122,
 t72:=Tryz.underlying125,
 a72:=Tryz.isAgg125,
 z72:=Tryz.sizeOf125,
 v72:=Tryz.zeroValue125,
 t75:=Tryz.underlying127,
 a75:=Tryz.isAgg127,
 z75:=Tryz.sizeOf127,
 v75:=Tryz.zeroValue127,
 t76:=Tryz.underlying128,
 a76:=Tryz.isAgg128,
 z76:=Tryz.sizeOf128,
 v76:=Tryz.zeroValue128,
 t127:=Tryz.underlying194,
 a127:=Tryz.isAgg194,
 z127:=Tryz.sizeOf194,
 v127:=Tryz.zeroValue194,
 t164:=Tryz.underlying217,
 a164:=Tryz.isAgg217,
 z164:=Tryz.sizeOf217,
 v164:=Tryz.zeroValue217 }
theorem layJX:Builder.Extra Tryz.prog layJ_ren:={
 sizeBuilder:=by kernel_rfl,liesBuilder:=by kernel_rfl,t5:=Tryz.underlying5,a5:=Tryz.isAgg5,z5:=Tryz.sizeOf5,v5:=Tryz.zeroValue5,infoByte:=by kernel_rfl,cellsByte:=by kernel_rfl,sizeByte:=by kernel_rfl,neB5:=by decide }
end Go.Proofs.YtkhmjidaeliccaaGreatDoor
namespace Go.Proofs.YtkhmjidaeliccaaGreatDoor
open Go.RowKit
section
variable {P:Program} {ops:Array Oper} {Q:Exit→Act→World→Prop} {md:Region.Mode} {S:World→Prop}
theorem anyH_unit {i:Nat} {oi:Oper} {fuel:Nat} {listed:Array Bool} {a:Act} {w w':World} (d:Option Tmp) (hi:ops[i]?=some oi) (hd:oi.dst=d)
  (hr:Region.ready md ops listed=[i]) (hw:Region.wanted oi (yielded ops a.tmps)=true) (he:(execOp a.eval oi).run P w=.ok .skip w') (hS:S w')
  (h:wpAnyH P md ops Q S fuel (listed.setIfInBounds i true) (a.put d undef) w'):wpAnyH P md ops Q S (fuel+1) listed a w:=by
 subst hd
 refine anyH_do hi hr hw (fun K hK=>?_)
 unfold Oper.wp
 rw [he]
 simp only [Oper.upon]
 exact hK.out _ _ hS (fun _=>h)
end
section
variable {P:Program} {w:World}
end
end Go.Proofs.YtkhmjidaeliccaaGreatDoor
namespace Go.Proofs.YtkhmjidaeliccaaGreatDoor
open Go.RowKit
section
variable {P:Program} {f:FuncId} {args:Array Value} {w:World} {a n:Nat} {v:Value}
theorem quiet_add_left (h:Calls P f args (w.drewN (a+n)) fun e w'=>e=.returned v∧w.drewN (a+n)=w'):Calls P f args (w.drewN (a+n)) fun e w''=>e=.returned v∧∃m,w''=w.drewN (a+m):=
 h.mono fun _ _ ⟨he,hm⟩=>⟨he,n,hm.symm⟩
theorem quiet_qt (h:Calls P f args (w.drewN n) fun e w'=>e=.returned v∧Qt (w.drewN n) w'):Calls P f args (w.drewN n) fun e w''=>e=.returned v∧∃m,w''=w.drewN m:=
 h.mono fun _ _ ⟨he,q,hm⟩=>⟨he,n+q,by rw [hm,World.drewN_drewN]⟩
theorem quiet_add_qt (h:Calls P f args (w.drewN (a+n)) fun e w'=>e=.returned v∧Qt (w.drewN (a+n)) w'):Calls P f args (w.drewN (a+n)) fun e w''=>e=.returned v∧∃m,w''=w.drewN (a+m):=
 h.mono fun _ _ ⟨he,q,hm⟩=>⟨he,n+q,by rw [hm,World.drewN_drewN,Nat.add_assoc]⟩
end
end Go.Proofs.YtkhmjidaeliccaaGreatDoor
namespace Go.Proofs.YtkhmjidaeliccaaGreatDoor.Srt
section
variable {α:Type} (key:α→Int)
def kf (d:List α) (i:Nat):Int:=(d[i]?.map key).getD 0
def St (d d':List α):Prop:=∀k:Int,d'.filter (fun x=>key x==k)=d.filter (fun x=>key x==k)
def SortedOn (d:List α) (a b:Nat):Prop:=∀i j,a≤i→i < j→j < b→kf key d i≤kf key d j
def Same (d d':List α) (a b:Nat):Prop:=d'.length=d.length∧∀t,t < a∨b≤t→d'[t]?=d[t]?
variable {key}
theorem St.refl (d:List α):St key d d:=fun _=>rfl
theorem St.trans {a b c:List α} (h:St key a b) (g:St key b c):St key a c:=fun k=>(g k).trans (h k)
theorem St.append {a a' b b':List α} (h:St key a a') (g:St key b b'):St key (a++b) (a'++b'):=fun k=>by
 rw [List.filter_append,List.filter_append,h k,g k]
theorem St.flip {u v:List α} (h:∀x ∈ u,∀y ∈ v,key x≠key y):St key (u++v) (v++u):=fun k=>by
 rw [List.filter_append,List.filter_append]
 by_cases hu:u.filter (fun x=>key x==k)=[]
 ·rw [hu];simp
 ·have hv:v.filter (fun x=>key x==k)=[]:=by
   rw [List.filter_eq_nil_iff]
   intro y hy hk
   rw [List.filter_eq_nil_iff] at hu
   apply hu
   intro x hx hk2
   exact h x hx y hy (by rw [eq_of_beq hk2,eq_of_beq hk])
  rw [hv];simp
theorem Same.refl (d:List α) (a b:Nat):Same d d a b:=⟨rfl,fun _ _=>rfl⟩
theorem Same.trans {x y z:List α} {a b:Nat} (h:Same x y a b) (g:Same y z a b):Same x z a b:=⟨g.1.trans h.1,fun t ht=>(g.2 t ht).trans (h.2 t ht)⟩
theorem Same.mono {x y:List α} {a b a' b':Nat} (h:Same x y a b) (ha:a'≤a) (hb:b≤b'):Same x y a' b':=⟨h.1,fun t ht=>h.2 t (by omega)⟩
theorem Same.kf {x y:List α} {a b t:Nat} (h:Same x y a b) (ht:t < a∨b≤t):kf key y t=kf key x t:=by unfold Srt.kf;rw [h.2 t ht]
def swp (d:List α) (i j:Nat) (x y:α):List α:=(d.set i y).set j x
def Rot (d d':List α) (a m b:Nat):Prop:=
 d'.length=d.length∧∀t,d'[t]?=if a≤t∧t < a+(b - m) then d[t+(m - a)]? else if a+(b - m)≤t∧t < b then d[t - (b - m)]? else d[t]?
theorem Rot.same {d d':List α} {a m b:Nat} (h:Rot d d' a m b) (h1:a≤m) (h2:m≤b):Same d d' a b:=
 ⟨h.1,fun t ht=>by rw [h.2 t,if_neg (by omega),if_neg (by omega)]⟩
theorem parts (d:List α) (a m b:Nat) (h1:a≤m) (h2:m≤b):d=d.take a++((d.drop a).take (m - a)++(d.drop m).take (b - m))++d.drop b:=by
 apply List.ext_getElem?
 intro t
 simp only [List.getElem?_append,List.length_append,List.length_take,List.length_drop,List.getElem?_take,List.getElem?_drop]
 by_cases hb:b≤d.length
 ·(repeat' split) <;> first | rfl | omega | (congr 1;omega)
 ·by_cases ht:t < d.length
  ·(repeat' split) <;> first | rfl | omega | (congr 1;omega)
  ·rw [List.getElem?_eq_none (by omega)]
   (repeat' split) <;> first | rfl | omega | (rw [List.getElem?_eq_none (by omega)])
theorem Rot.parts {d d':List α} {a m b:Nat} (h:Rot d d' a m b) (h1:a≤m) (h2:m≤b) (hb:b≤d.length) :
  d'=d.take a++((d.drop m).take (b - m)++(d.drop a).take (m - a))++d.drop b:=by
 apply List.ext_getElem?
 intro t
 rw [h.2 t]
 simp only [List.getElem?_append,List.length_append,List.length_take,List.length_drop,List.getElem?_take,List.getElem?_drop]
 (repeat' split) <;> first | rfl | omega | (congr 1;omega)
theorem Rot.st {d d':List α} {a m b:Nat} (h:Rot d d' a m b) (h1:a≤m) (h2:m≤b) (hb:b≤d.length)
  (hk:∀i j,a≤i→i < m→m≤j→j < b→kf key d i≠kf key d j):St key d d':=by
 rw [h.parts h1 h2 hb]
 conv=>lhs;rw [Srt.parts d a m b h1 h2]
 refine St.append (St.append (St.refl _) (St.flip fun x hx y hy=>?_)) (St.refl _)
 obtain ⟨i,hi⟩:=List.mem_iff_getElem?.1 hx
 obtain ⟨j,hj⟩:=List.mem_iff_getElem?.1 hy
 rw [List.getElem?_take] at hi hj
 split at hi
 ·split at hj
  ·rw [List.getElem?_drop] at hi hj
   have:=hk (a+i) (m+j) (by omega) (by omega) (by omega) (by omega)
   unfold Srt.kf at this
   rw [hi,hj] at this
   exact this
  ·cases hj
 ·cases hi
theorem swp_get (d:List α) (i j t:Nat) (x y:α) (hx:d[i]?=some x) (hy:d[j]?=some y) (hij:i≠j) :
  (swp d i j x y)[t]?=if t=i then d[j]? else if t=j then d[i]? else d[t]?:=by
 have hi:i < d.length:=(List.getElem?_eq_some_iff.1 hx).1
 have hj:j < d.length:=(List.getElem?_eq_some_iff.1 hy).1
 unfold swp
 simp only [List.getElem?_set,List.length_set]
 (repeat' split) <;> first | rfl | omega | (subst_vars;simp_all)
theorem swp_len (d:List α) (i j:Nat) (x y:α):(swp d i j x y).length=d.length:=by simp [swp]
theorem swp_rot (d:List α) (i:Nat) (x y:α) (hx:d[i]?=some x) (hy:d[i+1]?=some y):Rot d (swp d i (i+1) x y) i (i+1) (i+2):=by
 refine ⟨swp_len _ _ _ _ _,fun t=>?_⟩
 rw [swp_get d i (i+1) t x y hx hy (by omega)]
 by_cases e1:t=i
 ·subst e1;rw [if_pos rfl,if_pos (by omega)];congr 1;omega
 ·rw [if_neg e1]
  by_cases e2:t=i+1
  ·subst e2;rw [if_pos rfl,if_neg (by omega),if_pos (by omega)];congr 1;omega
  ·rw [if_neg e2,if_neg (by omega),if_neg (by omega)]
theorem kf_some {d:List α} {i:Nat} {x:α} (h:d[i]?=some x):kf key d i=key x:=by unfold kf;rw [h];rfl
theorem swp_kf (d:List α) (i j t:Nat) (x y:α) (hx:d[i]?=some x) (hy:d[j]?=some y) (hij:i≠j) :
  kf key (swp d i j x y) t=if t=i then kf key d j else if t=j then kf key d i else kf key d t:=by
 unfold kf
 rw [swp_get d i j t x y hx hy hij]
 (repeat' split) <;> rfl
def Ins (key:α→Int) (d:List α) (a i j:Nat):Prop:=
 (∀p q,a≤p→p < q→q≤i→p≠j→q≠j→kf key d p≤kf key d q)∧(∀q,j < q→q≤i→kf key d j≤kf key d q)
theorem Ins.start {d:List α} {a i:Nat} (h:SortedOn key d a i):Ins key d a i i:=
 ⟨fun p q hp hpq hq _ hqj=>h p q hp hpq (by omega),fun q h1 h2=>by omega⟩
theorem Ins.step {d:List α} {a i j:Nat} {x y:α} (h:Ins key d a i (j+1)) (hj:a≤j) (hji:j+1≤i) (hx:d[j]?=some x) (hy:d[j+1]?=some y) (hlt:key y < key x) :
  Ins key (swp d j (j+1) x y) a i j:=by
 have kx:=kf_some (key:=key) hx
 have ky:=kf_some (key:=key) hy
 refine ⟨fun p q hp hpq hq hpj hqj=>?_,fun q h1 h2=>?_⟩
 ·rw [swp_kf d j (j+1) p x y hx hy (by omega),swp_kf d j (j+1) q x y hx hy (by omega)]
  rw [if_neg hpj,if_neg hqj]
  by_cases e1:p=j+1
  ·rw [if_pos e1]
   rw [if_neg (by omega)]
   exact h.1 j q hj (by omega) hq (by omega) (by omega)
  ·rw [if_neg e1]
   by_cases e2:q=j+1
   ·rw [if_pos e2]
    exact h.1 p j hp (by omega) (by omega) e1 (by omega)
   ·rw [if_neg e2]
    exact h.1 p q hp hpq hq e1 e2
 ·rw [swp_kf d j (j+1) j x y hx hy (by omega),swp_kf d j (j+1) q x y hx hy (by omega)]
  rw [if_pos rfl,if_neg (by omega)]
  by_cases e2:q=j+1
  ·rw [if_pos e2];omega
  ·rw [if_neg e2]
   exact h.2 q (by omega) h2
theorem Ins.stop {d:List α} {a i j:Nat} (h:Ins key d a i j) (hj:a≤j) (hji:j≤i) (hend:j=a∨kf key d (j - 1)≤kf key d j):SortedOn key d a (i+1):=by
 intro p q hp hpq hq
 by_cases e1:p=j
 ·subst e1;exact h.2 q hpq (by omega)
 ·by_cases e2:q=j
  ·subst e2
   rcases hend with he | he
   ·omega
   ·by_cases e3:p=q - 1
    ·subst e3;exact he
    ·have:=h.1 p (q - 1) hp (by omega) (by omega) (by omega) (by omega)
     omega
  ·exact h.1 p q hp hpq (by omega) e1 e2
def Done (key:α→Int) (d d':List α) (a b:Nat):Prop:=Same d d' a b∧St key d d'∧SortedOn key d' a b
theorem SortedOn.short {d:List α} {a b:Nat} (h:b≤a+1):SortedOn key d a b:=fun i j h1 h2 h3=>by omega
theorem SortedOn.sub {d:List α} {a b a' b':Nat} (h:SortedOn key d a b) (ha:a≤a') (hb:b'≤b):SortedOn key d a' b':=fun i j h1 h2 h3=>h i j (by omega) h2 (by omega)
theorem SortedOn.same {d d':List α} {a b x y:Nat} (h:SortedOn key d a b) (hs:Same d d' x y) (hd:b≤x∨y≤a):SortedOn key d' a b:=fun i j h1 h2 h3=>by
 rw [hs.kf (by omega),hs.kf (by omega)];exact h i j h1 h2 h3
theorem SortedOn.join {d:List α} {a m b:Nat} (h1:SortedOn key d a m) (h2:SortedOn key d m b) (h:∀i j,a≤i→i < m→m≤j→j < b→kf key d i≤kf key d j):SortedOn key d a b:=by
 intro i j hi hij hj
 by_cases e1:j < m
 ·exact h1 i j hi hij e1
 ·by_cases e2:m≤i
  ·exact h2 i j e2 hij hj
  ·exact h i j hi (by omega) (by omega) hj
theorem Rot.kf {d d':List α} {a m b:Nat} (h:Rot d d' a m b) (t:Nat) :
  kf key d' t=if a≤t∧t < a+(b - m) then kf key d (t+(m - a)) else if a+(b - m)≤t∧t < b then kf key d (t - (b - m)) else kf key d t:=by
 unfold Srt.kf
 rw [h.2 t]
 (repeat' split) <;> rfl
theorem Done.left {d d':List α} {a i b:Nat} (h:Rot d d' a (a+1) i) (hi:a+1≤i) (hib:i≤b) (hb:b≤d.length) (hs:SortedOn key d (a+1) b)
  (hlo:∀t,a+1≤t→t < i→kf key d t < kf key d a) (hhi:∀t,i≤t→t < b→kf key d a≤kf key d t):Done key d d' a b:=by
 refine ⟨(h.same (by omega) (by omega)).mono (Nat.le_refl _) hib,h.st (by omega) hi (by omega) (fun p q h1 h2 h3 h4=>?_),?_⟩
 ·obtain rfl:p=a:=by omega
  have:=hlo q h3 h4;omega
 ·intro p q hp hpq hq
  rw [h.kf,h.kf]
  by_cases c1:p < a+(i - (a+1))
  ·rw [if_pos (by omega)]
   by_cases c2:q < a+(i - (a+1))
   ·rw [if_pos (by omega)];exact hs _ _ (by omega) (by omega) (by omega)
   ·rw [if_neg (by omega)]
    by_cases c3:q < i
    ·rw [if_pos (by omega)]
     have:=hlo (p+(a+1 - a)) (by omega) (by omega)
     rw [show q - (i - (a+1))=a by omega];omega
    ·rw [if_neg (by omega)];exact hs _ _ (by omega) (by omega) (by omega)
  ·rw [if_neg (by omega)]
   by_cases c3:p < i
   ·rw [if_pos (by omega),if_neg (by omega),if_neg (by omega)]
    rw [show p - (i - (a+1))=a by omega]
    exact hhi q (by omega) hq
   ·rw [if_neg (by omega),if_neg (by omega),if_neg (by omega)]
    exact hs _ _ (by omega) hpq hq
theorem Done.right {d d':List α} {a i m:Nat} (h:Rot d d' i m (m+1)) (hi:i≤m) (hai:a≤i) (hb:m+1≤d.length) (hs:SortedOn key d a m)
  (hlo:∀t,a≤t→t < i→kf key d t≤kf key d m) (hhi:∀t,i≤t→t < m→kf key d m < kf key d t):Done key d d' a (m+1):=by
 refine ⟨(h.same hi (by omega)).mono hai (Nat.le_refl _),h.st hi (by omega) hb (fun p q h1 h2 h3 h4=>?_),?_⟩
 ·obtain rfl:q=m:=by omega
  have:=hhi p h1 h2;omega
 ·intro p q hp hpq hq
  rw [h.kf,h.kf]
  by_cases c1:p < i
  ·rw [if_neg (by omega),if_neg (by omega)]
   by_cases c2:q < i
   ·rw [if_neg (by omega),if_neg (by omega)];exact hs _ _ hp hpq (by omega)
   ·by_cases c3:q=i
    ·rw [if_pos (by omega),show q+(m - i)=m by omega];exact hlo p hp c1
    ·rw [if_neg (by omega),if_pos (by omega)];exact hs _ _ hp (by omega) (by omega)
  ·by_cases c3:p=i
   ·rw [if_pos (by omega),if_neg (by omega),if_pos (by omega),show p+(m - i)=m by omega]
    have:=hhi (q - (m+1 - m)) (by omega) (by omega);omega
   ·rw [if_neg (by omega),if_pos (by omega),if_neg (by omega),if_pos (by omega)]
    exact hs _ _ (by omega) (by omega) (by omega)
structure Found (key:α→Int) (d:List α) (a m b st:Nat):Prop where
 lo:a≤st
 hi:st≤m
 en:m≤(a+b) / 2+m - st
 en2:(a+b) / 2+m - st≤b
 mid:st≤(a+b) / 2
 yes:∀i j,a≤i→i < st→(a+b) / 2+m - st≤j→j < b→kf key d i≤kf key d j
 no:∀i j,st≤i→i < m→m≤j→j < (a+b) / 2+m - st→kf key d j < kf key d i
theorem Found.halves {d d1:List α} {a m b st:Nat} (f:Found key d a m b st) (hb:b≤d.length) (h1:SortedOn key d a m) (h2:SortedOn key d m b) (h:Rot d d1 st m ((a+b) / 2+m - st)) :
  Same d d1 a b∧St key d d1∧SortedOn key d1 a st∧SortedOn key d1 st ((a+b) / 2)∧SortedOn key d1 ((a+b) / 2) ((a+b) / 2+m - st)∧SortedOn key d1 ((a+b) / 2+m - st) b∧
   ∀i j,a≤i→i < (a+b) / 2→(a+b) / 2≤j→j < b→kf key d1 i≤kf key d1 j:=by
 obtain ⟨f1,f2,f3,f4,f5,f6,f7⟩:=f
 generalize hM:(a+b) / 2=M at *
 have hMb:a≤M∧M≤b:=by omega
 generalize hE:M+m - st=E at *
 refine ⟨(h.same f2 f3).mono f1 f4,h.st f2 f3 (by omega) (fun p q g1 g2 g3 g4=>by have:=f7 p q g1 g2 g3 g4;omega),?_,?_,?_,?_,?_⟩
 ·intro p q g1 g2 g3
  rw [h.kf,h.kf,if_neg (by omega),if_neg (by omega),if_neg (by omega),if_neg (by omega)]
  exact h1 _ _ g1 g2 (by omega)
 ·intro p q g1 g2 g3
  rw [h.kf,h.kf,if_pos (by omega),if_pos (by omega)]
  exact h2 _ _ (by omega) (by omega) (by omega)
 ·intro p q g1 g2 g3
  rw [h.kf,h.kf,if_neg (by omega),if_pos (by omega),if_neg (by omega),if_pos (by omega)]
  exact h1 _ _ (by omega) (by omega) (by omega)
 ·intro p q g1 g2 g3
  rw [h.kf,h.kf,if_neg (by omega),if_neg (by omega),if_neg (by omega),if_neg (by omega)]
  exact h2 _ _ (by omega) g2 g3
 ·intro p q g1 g2 g3 g4
  rw [h.kf,h.kf]
  by_cases c1:p < st
  ·rw [if_neg (by omega),if_neg (by omega)]
   by_cases c2:q < E
   ·rw [if_neg (by omega),if_pos (by omega)];exact h1 _ _ g1 (by omega) (by omega)
   ·rw [if_neg (by omega),if_neg (by omega)];exact f6 _ _ g1 c1 (by omega) g4
  ·rw [if_pos (by omega)]
   by_cases c2:q < E
   ·rw [if_neg (by omega),if_pos (by omega)];exact Int.le_of_lt (f7 _ _ (by omega) (by omega) (by omega) (by omega))
   ·rw [if_neg (by omega),if_neg (by omega)];exact h2 _ _ (by omega) (by omega) g4
theorem swp_done {d:List α} {j:Nat} {x y:α} (hx:d[j]?=some x) (hy:d[j+1]?=some y) (hlt:key y < key x):St key d (swp d j (j+1) x y):=
 (swp_rot d j x y hx hy).st (by omega) (by omega) (by have:=(List.getElem?_eq_some_iff.1 hy).1;omega) (fun p q h1 h2 h3 h4=>by
  obtain rfl:p=j:=by omega
  obtain rfl:q=p+1:=by omega
  rw [kf_some hx,kf_some hy];omega)
theorem swp_same {d:List α} {i j a b:Nat} {x y:α} (hx:d[i]?=some x) (hy:d[j]?=some y) (hij:i≠j) (h1:a≤i) (h2:i < b) (h3:a≤j) (h4:j < b):Same d (swp d i j x y) a b:=
 ⟨swp_len _ _ _ _ _,fun t ht=>by rw [swp_get d i j t x y hx hy hij,if_neg (by omega),if_neg (by omega)]⟩
end
end Go.Proofs.YtkhmjidaeliccaaGreatDoor.Srt
namespace Go.Proofs.YtkhmjidaeliccaaGreatDoor
open Go.RowKit
def Blk (w:World) (b:Nat) (e:TypeId) (pre cs post:List Value):Prop:=w.heap[b]?=some (.cells (pre++cs++post).toArray e (0,0))
def Row (w:World) (b off:Nat) (e:TypeId) (pre post:List Value) (d:List Int):Prop:=pre.length=off∧Blk w b e pre (d.map (Value.int .i64)) post
section
variable {w w':World} {b off:Nat} {e:TypeId} {pre post:List Value} {d:List Int}
theorem Blk.lt {cs:List Value} (h:Blk w b e pre cs post):b < w.heap.size:=(Array.getElem?_eq_some_iff.1 h).1
theorem Row.lt (h:Row w b off e pre post d):b < w.heap.size:=Blk.lt h.2
theorem Row.cell (h:Row w b off e pre post d) {i:Nat} {x:Int} (hi:d[i]?=some x):w.cell? ⟨b,off+i,none⟩=some (.int .i64 x):=by
 rw [cell_of_row w b (off+i) _ e (0,0) h.2]
 have hl:i < d.length:=(List.getElem?_eq_some_iff.1 hi).1
 rw [List.getElem?_toArray,List.append_assoc,List.getElem?_append_right (by have:=h.1;omega),List.getElem?_append_left (by simp;have:=h.1;omega),List.getElem?_map]
 rw [show off+i - pre.length=i by have:=h.1;omega,hi]
 rfl
theorem Row.frozen (h:Row w b off e pre post d) (i:Nat):w.frozen? ⟨b,i,none⟩=false:=by
 have h2:=h.2
 unfold Blk at h2
 simp [World.frozen?,h2]
theorem Row.set (h:Row w b off e pre post d) {i:Nat} (hi:i < d.length) (v:Int):Row (w.setCell ⟨b,off+i,none⟩ (.int .i64 v)) b off e pre post (d.set i v):=by
 refine ⟨h.1,?_⟩
 have h2:=h.2
 have h1:=h.1
 unfold Blk at h2 ⊢
 simp only [World.setCell,Array.getElem?_modify,h2]
 simp only [if_true,Option.map_some,Option.some.injEq,Obj.cells.injEq,and_true]
 apply Array.ext'
 simp only [Option.isSome_none,Bool.false_eq_true,if_false,Array.toList_setIfInBounds,List.map_set]
 rw [List.append_assoc,List.set_append_right _ _ (by omega),List.set_append_left _ _ (by simp;omega),show off+i - pre.length=i by omega,←List.append_assoc]
theorem Row.keep (h:Row w b off e pre post d) (hb:w'.heap[b]?=w.heap[b]?):Row w' b off e pre post d:=⟨h.1,hb.trans h.2⟩
theorem Row.drewN (h:Row w b off e pre post d) (n:Nat):Row (w.drewN n) b off e pre post d:=h
theorem Row.drew (h:Row w b off e pre post d):Row w.drew b off e pre post d:=h
theorem Row.below (h:Row w b off e pre post d) (hb:Below w.heap.size w w'):Row w' b off e pre post d:=h.keep (hb.block b h.lt)
theorem grownR_refl (w:World) (r:Option Nat):w.grownBy w r:=⟨rfl,rfl,rfl,Nat.le_refl _,fun _ _ _=>rfl⟩
theorem grownR_trans {a c:World} {r:Option Nat} (h:a.grownBy w r) (g:w.grownBy c r):a.grownBy c r:=
 ⟨g.os.trans h.os,g.tape.trans h.tape,g.output.trans h.output,Nat.le_trans h.size g.size,fun k hk hne=>(g.block k (Nat.lt_of_lt_of_le hk h.size) hne).trans (h.block k hk hne)⟩
theorem grownR_below {a:World} {r:Option Nat} (h:a.grownBy w r) (g:Below w.heap.size w w'):a.grownBy w' r:=
 grownR_trans h ⟨g.os,g.tape,g.output,g.size,fun k hk _=>g.block k hk⟩
theorem grownR_drewN {a:World} {r:Option Nat} (h:a.grownBy w r) (n:Nat):a.grownBy (w.drewN n) r:=grownR_below h (below_of_drewN w n)
theorem grownR_drew {a:World} {r:Option Nat} (h:a.grownBy w r):a.grownBy w.drew r:=grownR_below h (below_of_drewN w 1)
theorem grown_row {a:World} (h:a.grownBy w (some b)) (i:Nat) (v:Value):a.grownBy (w.setCell ⟨b,i,none⟩ v) (some b):=
 grownR_trans h ⟨rfl,rfl,rfl,by simp [World.setCell],fun k _ hne=>Below.heap_setCell _ _ _ _ (by rintro rfl;exact hne rfl)⟩
end
end Go.Proofs.YtkhmjidaeliccaaGreatDoor
namespace Go.Proofs.YtkhmjidaeliccaaGreatDoor
open Go.RowKit Tl Pa
def PsB (w:World) (P:Nat) (s:ByteArray) (i:Nat):Prop:=Box w P 102 [.string s,.int .i64 i]
structure PsTo (P:Nat) (s:ByteArray) (w:World) (j:Nat) (w':World):Prop where
 box:PsB w' P s j
 gr:w.grownBy w' (some P)
section
variable {P i j k:Nat} {s:ByteArray} {w w' w'':World}
theorem PsB.here (h:PsB w P s i):PsTo P s w i w:=⟨h,grownR_refl _ _⟩
theorem PsTo.trans (h:PsTo P s w i w') (h2:PsTo P s w' j w''):PsTo P s w j w'':=⟨h2.box,grownR_trans h.gr h2.gr⟩
theorem PsTo.drew (h:PsTo P s w i w') (n:Nat):PsTo P s w i (w'.drewN n):=⟨h.box.below (below_of_drewN w' n) h.box.lt,grownR_below h.gr (below_of_drewN w' n)⟩
theorem PsTo.go (h:PsTo P s w i w') (j:Nat):PsTo P s w j (w'.setCell ⟨P,1,none⟩ (.int .i64 j)):=⟨h.box.set 1 _,grownR_trans h.gr (grown_set w' ⟨P,1,none⟩ _)⟩
theorem PsTo.below (h:PsTo P s w i w') (hb:Below w'.heap.size w' w''):PsTo P s w i w'':=⟨h.box.below hb h.box.lt,grownR_below h.gr hb⟩
theorem PsTo.c0 (h:PsTo P s w i w'):w'.cell? ⟨P,0,none⟩=some (.string s):=h.box.cell (i:=0) rfl
theorem PsTo.c1 (h:PsTo P s w i w'):w'.cell? ⟨P,1,none⟩=some (.int .i64 i):=h.box.cell (i:=1) rfl
theorem PsTo.f1 (h:PsTo P s w i w'):w'.frozen? ⟨P,1,none⟩=false:=h.box.free 1
end
def Flt (e:Ending):Prop:=∃u pv,e=.panicked [{ v:=.iface u pv,recovered:=false }]
def RdR {α:Type} (P:Nat) (s:ByteArray) (V:α→Value→World→Prop) (r:Rd α) (w:World) (e:Ending) (w':World):Prop:=
 match r with
 | .ok (a,j)=>(∃v,e=.returned v∧V a v w')∧PsTo P s w j w'
 | .error j=>Flt e∧PsTo P s w j w'
theorem next_any (P:Nat) (s:ByteArray) (i:Nat) (w:World) (hP:PsB w P s i) (hi:i≤s.size) :
  Calls Tryz.prog 113 #[.pointer (some ⟨P,0,none⟩)] w fun e w'=>e=.returned (.int .u8 (bt s i))∧PsTo P s w i w':=by
 have HP:=Lib.hid (hP.here)
 have c0:=hP.cell (i:=0) rfl
 have c1:=hP.cell (i:=1) rfl
 clear hP
 by_cases h:i < s.size
 ·have hb:=Lib.hid (bt_lt h)
  have he:((i:Int)==(s.size:Int))=false:=by simp;omega
  go_enter Tryz.func113,Tryz.ntmps113
  go_wp2_with fail
  go_quiet (fail)
  have HP2:=Lib.hid (HP.out.drew nq)
  clear c0 c1 HP
  generalize World.drewN w nq=w2 at *
  have c0:=HP2.out.c0
  have c1:=HP2.out.c1
  go_wp2_with fail
  go_quiet (fail)
  have HP3:=Lib.hid (HP2.out.drew nq)
  go_wp2_with fail
  go_ret
  exact ⟨by rw [hb.out];rfl,HP3.out⟩
 ·have hb:=Lib.hid (bt_end h)
  obtain rfl:i=s.size:=by omega
  have he:((s.size:Int)==(s.size:Int))=true:=by simp
  go_enter Tryz.func113,Tryz.ntmps113
  go_wp2_with fail
  go_quiet (fail)
  have HP2:=Lib.hid (HP.out.drew nq)
  go_wp2_with fail
  go_ret
  exact ⟨by rw [hb.out];rfl,HP2.out⟩
theorem fail_any (P:Nat) (s:ByteArray) (i:Nat) (w:World) (hP:PsB w P s i) :
  Calls Tryz.prog 161 #[.pointer (some ⟨P,0,none⟩)] w fun e w'=>Flt e∧w=w':=by
 have c1:=hP.cell (i:=1) rfl
 unfold Flt
 go_enter Tryz.func161,Tryz.ntmps161
 go_wp2_with fail
 exact ⟨rfl,⟨_,_,rfl⟩,rfl⟩
def psAt (P:Nat) (w:World):Nat:=match w.cell? ⟨P,1,none⟩ with | some (.int _ i)=>i.toNat | _=>0
theorem PsTo.at {P j:Nat} {s:ByteArray} {w w':World} (h:PsTo P s w j w'):psAt P w'=j:=by
 unfold psAt
 rw [h.c1]
 rfl
theorem digit_any (b:Nat) (hb:b < 256) (w:World) :
  Calls Tryz.prog 189 #[.int .u8 b] w fun e w'=>e=.returned (.int .i64 (dg b))∧w=w':=by
 by_cases h1:48≤b
 ·by_cases h2:b≤57
  ·have hd:=Lib.hid (show dg b=(b:Int) - 48 from if_pos ⟨h1,h2⟩)
   have d1:decide ((48:Int)≤(b:Int))=true:=by simp;omega
   have d2:decide ((b:Int)≤57)=true:=by simp;omega
   have b1:(48:Int)≤b:=by omega
   have b2:(b:Int)≤57:=by omega
   go_enter Tryz.func189,Tryz.ntmps189
   go_wp2_with fail
   go_ret
   exact ⟨by rw [hd.out];rfl,rfl⟩
  ·by_cases h3:65≤b
   ·by_cases h4:b≤70
    ·have hd:=Lib.hid (show dg b=(b:Int) - 55 from by unfold dg;rw [if_neg (by omega),if_pos ⟨h3,h4⟩])
     have d1:decide ((48:Int)≤(b:Int))=true:=by simp;omega
     have d2:decide ((b:Int)≤57)=false:=by simp;omega
     have d3:decide ((65:Int)≤(b:Int))=true:=by simp;omega
     have d4:decide ((b:Int)≤70)=true:=by simp;omega
     have b1:(65:Int)≤b:=by omega
     have b2:(b:Int)≤70:=by omega
     go_enter Tryz.func189,Tryz.ntmps189
     go_wp2_with fail
     go_ret
     exact ⟨by rw [hd.out,show (b:Int) - 55=(b:Int) - 65+10 by omega];rfl,rfl⟩
    ·have hd:=Lib.hid (show dg b=-1 from by unfold dg;rw [if_neg (by omega),if_neg (by omega)])
     have d1:decide ((48:Int)≤(b:Int))=true:=by simp;omega
     have d2:decide ((b:Int)≤57)=false:=by simp;omega
     have d3:decide ((65:Int)≤(b:Int))=true:=by simp;omega
     have d4:decide ((b:Int)≤70)=false:=by simp;omega
     go_enter Tryz.func189,Tryz.ntmps189
     go_wp2_with fail
     go_ret
     exact ⟨by rw [hd.out];rfl,rfl⟩
   ·have hd:=Lib.hid (show dg b=-1 from by unfold dg;rw [if_neg (by omega),if_neg (by omega)])
    have d1:decide ((48:Int)≤(b:Int))=true:=by simp;omega
    have d2:decide ((b:Int)≤57)=false:=by simp;omega
    have d3:decide ((65:Int)≤(b:Int))=false:=by simp;omega
    go_enter Tryz.func189,Tryz.ntmps189
    go_wp2_with fail
    go_ret
    exact ⟨by rw [hd.out];rfl,rfl⟩
 ·have hd:=Lib.hid (show dg b=-1 from by unfold dg;rw [if_neg (by omega),if_neg (by omega)])
  have d1:decide ((48:Int)≤(b:Int))=false:=by simp;omega
  have d3:decide ((65:Int)≤(b:Int))=false:=by simp;omega
  go_enter Tryz.func189,Tryz.ntmps189
  go_wp2_with fail
  go_ret
  exact ⟨by rw [hd.out];rfl,rfl⟩
theorem blanks_any (P:Nat) (s:ByteArray) (i:Nat) (w:World) (hP:PsB w P s i) (hi:i≤s.size) (hs:s.size≤9223372036854775806) :
  Calls Tryz.prog 58 #[.pointer (some ⟨P,0,none⟩)] w fun e w'=>e=.returned (.tuple #[])∧PsTo P s w (skp s i) w':=by
 have HP:=Lib.hid (hP.here)
 have KN:=Lib.hid (fun j (W:World) (h:PsTo P s w j W) (hj:j≤s.size)=>next_any P s j W h.box hj)
 clear hP
 go_enter Tryz.func58,Tryz.ntmps58
 go_wp2_with fail
 go_loopw [] (fun wr=>∃k:Nat,k≤s.size∧Hid (skp s k=skp s i)∧PsTo P s w k wr) (fun wr=>s.size - psAt P wr)
 case atStart=>exact ⟨i,hi,Lib.hid rfl,HP.out⟩
 case round=>
  obtain ⟨k,hk,hb,hp⟩:=hrel
  have HR:=Lib.hid hp
  clear hp HP
  have KN1:=Lib.hid (KN.out k _ HR.out hk)
  by_cases h1:bt s k=32
  ·have d1:((bt s k:Int)==32)=true:=by simp;omega
   have hin:=bt_in (s:=s) (i:=k) (by omega)
   have hst:=Lib.hid (blk_step (s:=s) (i:=k) (.inl h1))
   clear h1
   generalize bt s k=b at *
   go_wp2_with fail
   with_reducible refine KN1.out.mono ?_
   rintro e W1 ⟨rfl,hp1⟩
   have HR1:=Lib.hid (HR.out.trans hp1)
   have c1:=HR1.out.c1
   have f1:=HR1.out.f1
   clear hp1 KN1 KN
   go_wp2_with fail
   go_roundw
   case rel=>exact ⟨k+1,hin,Lib.hid (hst.out.symm.trans hb.out),HR1.out.go (k+1)⟩
   case measure=>
    have e1:=(HR1.out.go (k+1)).at
    have e2:=HR.out.at
    have e1':psAt P (W1.setCell ⟨P,1,none⟩ (.int .i64 ((k:Int)+1)))=k+1:=e1
    rw [e1',e2]
    omega
  ·have d1:((bt s k:Int)==32)=false:=by simp;omega
   by_cases h2:bt s k=10
   ·have d2:((bt s k:Int)==10)=true:=by simp;omega
    have hin:=bt_in (s:=s) (i:=k) (by omega)
    have hst:=Lib.hid (blk_step (s:=s) (i:=k) (.inr h2))
    have KN2:=Lib.hid (fun (W1:World) (hp1:PsTo P s w k W1)=>KN.out k W1 hp1 hk)
    clear h1 h2
    generalize bt s k=b at *
    go_wp2_with fail
    with_reducible refine KN1.out.mono ?_
    rintro e W1 ⟨rfl,hp1⟩
    have HR1:=Lib.hid (HR.out.trans hp1)
    have KN3:=Lib.hid (KN2.out W1 HR1.out)
    clear hp1 KN1 KN KN2
    go_wp2_with fail
    with_reducible refine KN3.out.mono ?_
    rintro e W2 ⟨rfl,hp2⟩
    have HR2:=Lib.hid (HR1.out.trans hp2)
    have c1:=HR2.out.c1
    have f1:=HR2.out.f1
    clear hp2 KN3
    go_wp2_with fail
    go_roundw
    case rel=>exact ⟨k+1,hin,Lib.hid (hst.out.symm.trans hb.out),HR2.out.go (k+1)⟩
    case measure=>
     have e1:=(HR2.out.go (k+1)).at
     have e2:=HR.out.at
     have e1':psAt P (W2.setCell ⟨P,1,none⟩ (.int .i64 ((k:Int)+1)))=k+1:=e1
     rw [e1',e2]
     omega
   ·have d2:((bt s k:Int)==10)=false:=by simp;omega
    have hst:=Lib.hid (blk_stop (s:=s) (i:=k) (by omega))
    have KN2:=Lib.hid (fun (W1:World) (hp1:PsTo P s w k W1)=>KN.out k W1 hp1 hk)
    clear h1 h2
    generalize bt s k=b at *
    go_wp2_with fail
    with_reducible refine KN1.out.mono ?_
    rintro e W1 ⟨rfl,hp1⟩
    have HR1:=Lib.hid (HR.out.trans hp1)
    have KN3:=Lib.hid (KN2.out W1 HR1.out)
    clear hp1 KN1 KN KN2
    go_wp2_with fail
    with_reducible refine KN3.out.mono ?_
    rintro e W2 ⟨rfl,hp2⟩
    have HR2:=Lib.hid (HR1.out.trans hp2)
    have hfin:k=skp s i:=hst.out.symm.trans hb.out
    clear hp2 KN3
    go_wp2_with fail
    go_end0
    exact ⟨rfl,by rw [←hfin];exact HR2.out⟩
structure Wrd (t:ByteArray) (l:List Nat):Prop where
 sz:t.size=l.length
 at_:∀k,(h:k < t.size)→(h2:k < l.length)→t[k].toNat=l[k]
 nz:∀c ∈ l,c≠0
def noV (_:Unit) (v:Value) (_:World):Prop:=v=.tuple #[]
theorem expect_any (P:Nat) (s t:ByteArray) (l:List Nat) (i:Nat) (w:World) (hP:PsB w P s i) (hi:i≤s.size) (hs:s.size≤9223372036854775806) (ht:Wrd t l) (hl:l.length≤100) :
  Calls Tryz.prog 114 #[.pointer (some ⟨P,0,none⟩),.string t] w (RdR P s noV (wrd s l i) w):=by
 have HP:=Lib.hid (hP.here)
 have HT:=Lib.hid ht
 have hsz:=ht.sz
 obtain ⟨n,hn⟩:∃n,t.size=n:=⟨_,rfl⟩
 have hnl:l.length=n:=by omega
 have HNL:=Lib.hid hnl
 have HN:=Lib.hid hn
 have hn100:n≤100:=by omega
 have KF:=Lib.hid (fun j (W:World) (h:PsTo P s w j W)=>fail_any P s j W h.box)
 obtain ⟨r,hr⟩:∃r,wrd s l i=r:=⟨_,rfl⟩
 have HR0:=Lib.hid hr
 rw [hr]
 clear hP ht hsz hnl hn hr hl
 go_enter Tryz.func114,Tryz.ntmps114
 have hlen:(t.size:Int)=(n:Int):=by rw [HN.out]
 go_wp2_with fail
 have HLEN:=Lib.hid hlen
 clear hlen
 go_loopw [7] (fun u wr=>∃k:Nat,k≤n∧i+k≤s.size∧u=.int .i64 k∧Hid (wrd s (l.drop k) (i+k)=r)∧PsTo P s w (i+k) wr) (fun u _=>n - (intOf u).toNat)
 case atStart=>exact ⟨0,Nat.zero_le _,hi,rfl,Lib.hid (by rw [List.drop_zero];exact HR0.out),HP.out⟩
 case round=>
  obtain ⟨k,hk,hik,rfl,hb,hp⟩:=hrel
  have HR:=Lib.hid hp
  have c0:=hp.c0
  have c1:=hp.c1
  clear hp HP
  by_cases hlt:k < n
  ·have hkl:k < l.length:=by rw [HNL.out];exact hlt
   have hkt:k < t.size:=by rw [HN.out];exact hlt
   have hte:=Lib.hid (HT.out.at_ k hkt hkl)
   have hnz:=HT.out.nz _ (List.getElem_mem hkl)
   have hst:wrd s (l.drop k) (i+k)=if bt s (i+k)=l[k] then wrd s (l.drop (k+1)) (i+k+1) else .error (i+k):=by
    rw [List.drop_eq_getElem_cons hkl]
    rfl
   have HST:=Lib.hid hst
   clear hst
   have HI:=Lib.hid (show ∀p,i+k=p→i+(k+1)=p+1 from fun p e=>by omega)
   obtain ⟨p,hpk⟩:∃p,i+k=p:=⟨_,rfl⟩
   have HPK:=Lib.hid (HI.out p hpk)
   rw [hpk] at hik hb HR c1 HST
   clear hpk HI
   by_cases hend:p < s.size
   ·have he:((p:Int)==(s.size:Int))=false:=by simp;omega
    have hbt:=Lib.hid (bt_lt hend)
    by_cases heq:bt s p=l[k]
    ·have hst2:=Lib.hid (show wrd s (l.drop (k+1)) (p+1)=r from by rw [←hb.out,HST.out,if_pos heq])
     have hd:((s[p].toNat:Int) != (t[k].toNat:Int))=false:=by rw [hte.out,←heq,hbt.out];simp
     clear heq hnz
     go_wp2_with fail
     go_quiet (fail)
     have HR1:=Lib.hid (HR.out.drew nq)
     clear c0 c1
     generalize World.drewN wr nq=w2 at *
     have c1:=HR1.out.c1
     have f1:=HR1.out.f1
     go_wp2_with fail
     go_roundw
     case rel=>exact ⟨k+1,by omega,by rw [HPK.out];omega,by go_num,by rw [HPK.out];exact hst2,by rw [HPK.out];exact HR1.out.go (p+1)⟩
     case measure=>simp [intOf];omega
    ·have hst2:=Lib.hid (show r=.error p from by rw [←hb.out,HST.out,if_neg heq])
     have hd:((s[p].toNat:Int) != (t[k].toNat:Int))=true:=by rw [hte.out,←hbt.out];simp;omega
     clear heq hnz
     go_wp2_with fail
     go_quiet (fail)
     have HR1:=Lib.hid (HR.out.drew nq)
     clear c0 c1
     generalize World.drewN wr nq=w2 at *
     go_wp2_with fail
     with_reducible refine (KF.out p w2 HR1.out).mono ?_
     rintro e W1 ⟨⟨u,pv,rfl⟩,rfl⟩
     go_wp2_with fail
     rw [hst2.out]
     exact ⟨rfl,⟨_,_,rfl⟩,HR1.out⟩
   ·obtain rfl:p=s.size:=by omega
    have he:((s.size:Int)==(s.size:Int))=true:=by simp
    have hst2:=Lib.hid (show r=.error s.size from by rw [←hb.out,HST.out,if_neg (by rw [bt_end (by omega)];exact fun q=>hnz q.symm)])
    clear hnz hend
    go_wp2_with fail
    go_quiet (fail)
    have HR1:=Lib.hid (HR.out.drew nq)
    clear c0 c1
    generalize World.drewN wr nq=w2 at *
    go_wp2_with fail
    with_reducible refine (KF.out s.size w2 HR1.out).mono ?_
    rintro e W1 ⟨⟨u,pv,rfl⟩,rfl⟩
    go_wp2_with fail
    rw [hst2.out]
    exact ⟨rfl,⟨_,_,rfl⟩,HR1.out⟩
  ·obtain rfl:k=n:=by omega
   have hfin:=hb.out
   rw [List.drop_of_length_le (by rw [HNL.out];exact Nat.le_refl _)] at hfin
   have hfin':=Lib.hid (show r=.ok ((),i+k) from hfin.symm)
   clear hb hfin HR0
   go_wp2_with fail
   go_end0
   rw [hfin'.out]
   exact ⟨⟨_,rfl,rfl⟩,HR.out⟩
end Go.Proofs.YtkhmjidaeliccaaGreatDoor
namespace Go.Proofs.YtkhmjidaeliccaaGreatDoor
open Go.RowKit Tl Pa
theorem wrd1 (c:Nat) (hc:c≠0) (t:ByteArray) (ht:t=⟨#[UInt8.ofNat c]⟩) (h8:c < 256):Wrd t [c]:=by
 subst ht
 refine ⟨rfl,fun k h h2=>?_,fun x hx=>by rw [List.mem_singleton.1 hx];exact hc⟩
 obtain rfl:k=0:=by simp at h2;omega
 show (UInt8.ofNat c).toNat=c
 rw [UInt8.toNat_ofNat',Nat.mod_eq_of_lt h8]
def intV (a:Int) (v:Value) (_:World):Prop:=v=.int .i64 a
theorem sgnN_step {s:ByteArray} {n:Nat} {l:Int} {i:Nat} (h:bt s i=60):sgnN s (n+1) l i=sgnN s n (l+1) (i+1):=by
 conv=>lhs;unfold sgnN
 rw [if_pos h]
theorem sgnN_stop {s:ByteArray} {n:Nat} {l:Int} {i:Nat} (h:¬bt s i=60):sgnN s n l i=(l,i):=by
 cases n with
 | zero=>rfl
 | succ n=>unfold sgnN;rw [if_neg h]
theorem psign_any (P:Nat) (s:ByteArray) (i:Nat) (w:World) (hP:PsB w P s i) (hi:i≤s.size) (hs:s.size≤9223372036854775806) :
  Calls Tryz.prog 116 #[.pointer (some ⟨P,0,none⟩)] w (RdR P s intV (sgn s i) w):=by
 have HP:=Lib.hid (hP.here)
 have KN:=Lib.hid (fun j (W:World) (h:PsTo P s w j W) (hj:j≤s.size)=>next_any P s j W h.box hj)
 have KE:=Lib.hid (fun (W:World) (h:PsTo P s w i W)=>expect_any P s ⟨#[60]⟩ [60] i W h.box hi hs (wrd1 60 (by decide) _ rfl (by decide)) (by decide))
 unfold RdR at KE
 clear hP
 obtain ⟨r,hr⟩:∃r,sgn s i=r:=⟨_,rfl⟩
 have HR0:=Lib.hid hr
 rw [hr]
 clear hr
 have KN0:=Lib.hid (KN.out i w HP.out hi)
 by_cases h1:bt s i=61
 ·have d1:((bt s i:Int)==61)=true:=by simp;omega
  have HR1:=Lib.hid (show r=.ok (0,i+1) from by rw [←HR0.out];unfold sgn;rw [if_pos h1])
  have hin:=bt_in (s:=s) (i:=i) (by omega)
  clear h1 HR0
  generalize bt s i=b at *
  go_enter Tryz.func116,Tryz.ntmps116
  go_wp2_with fail
  with_reducible refine KN0.out.mono ?_
  rintro e W1 ⟨rfl,hp1⟩
  have HW:=Lib.hid hp1
  have c1:=HW.out.c1
  have f1:=HW.out.f1
  clear hp1 KN0 KN KE
  go_wp2_with fail
  go_ret
  rw [HR1.out]
  exact ⟨⟨_,rfl,rfl⟩,HW.out.go (i+1)⟩
 ·have d1:((bt s i:Int)==61)=false:=by simp;omega
  have HR1:=Lib.hid (show r=match wrd s [60] i with | .error e=>.error e | .ok (_,j)=>.ok (sgnN s 2 1 j) from by rw [←HR0.out];unfold sgn;rw [if_neg h1];(try (cases wrd s [60] i <;> rfl)))
  clear h1 HR0
  generalize bt s i=b at *
  go_enter Tryz.func116,Tryz.ntmps116
  go_wp2_with fail
  with_reducible refine KN0.out.mono ?_
  rintro e W1 ⟨rfl,hp1⟩
  have KE1:=Lib.hid (KE.out W1 hp1)
  have HW:=Lib.hid hp1
  clear hp1 KN0 KE
  cases hq:wrd s [60] i with
  | error f=>
   rw [hq] at HR1 KE1
   clear hq
   go_wp2_with fail
   with_reducible refine KE1.out.mono ?_
   rintro e W2 ⟨⟨u,pv,rfl⟩,hp2⟩
   have HW2:=Lib.hid (HW.out.trans hp2)
   clear hp2
   go_wp2_with fail
   rw [HR1.out]
   exact ⟨rfl,⟨_,_,rfl⟩,HW2.out⟩
  | ok q=>
   obtain ⟨u0,j⟩:=q
   have hjs:=(wrd_ok (by simp) hq).2 (by simp)
   rw [hq] at HR1 KE1
   clear hq
   have HR2:=Lib.hid (show r=.ok (sgnN s 2 1 j) from HR1.out)
   go_wp2_with fail
   with_reducible refine KE1.out.mono ?_
   rintro e W2 ⟨⟨v,rfl,rfl⟩,hp2⟩
   have HW2:=Lib.hid (HW.out.trans hp2)
   clear hp2 HR1 KE1 HW
   go_wp2_with fail
   go_loopw [3] (fun u wr=>∃(m k:Nat),m≤2∧k≤s.size∧u=.int .i64 (3 - (m:Int))∧Hid (sgnN s m (3 - (m:Int)) k=sgnN s 2 1 j)∧PsTo P s w k wr) (fun u _=>(3 - intOf u).toNat)
   case atStart=>exact ⟨2,j,Nat.le_refl _,hjs,rfl,Lib.hid rfl,HW2.out⟩
   case round=>
    obtain ⟨m,k,hm,hk,rfl,hb,hp⟩:=hrel
    have HR:=Lib.hid hp
    clear hp
    cases m with
    | zero=>
     have d2:decide ((3:Int) - ((0:Nat):Int) < 3)=false:=by decide
     have HF:=Lib.hid (show r=.ok (3,k) from by rw [HR2.out,←hb.out];rfl)
     clear hb HR2 KN
     go_wp2_with fail
     go_ret
     rw [HF.out]
     exact ⟨⟨_,rfl,rfl⟩,HR.out⟩
    | succ m=>
     have KN1:=Lib.hid (KN.out k _ HR.out hk)
     obtain ⟨lv,hlv⟩:∃lv:Int,3 - ((m+1:Nat):Int)=lv:=⟨_,rfl⟩
     have hlv1:1≤lv:=by omega
     have hlv2:lv < 3:=by omega
     have HLV:=Lib.hid (show lv+1=3 - (m:Int) from by omega)
     rw [hlv] at hb ⊢
     clear hlv
     have d2:decide (lv < 3)=true:=by simpa using hlv2
     by_cases h2:bt s k=60
     ·have d3:((bt s k:Int)==60)=true:=by simp;omega
      have hin:=bt_in (s:=s) (i:=k) (by omega)
      have hst:=Lib.hid (show sgnN s m (lv+1) (k+1)=sgnN s 2 1 j from by rw [←hb.out,sgnN_step h2])
      clear h2 hb
      generalize bt s k=b2 at *
      go_wp2_with fail
      with_reducible refine KN1.out.mono ?_
      rintro e W3 ⟨rfl,hp3⟩
      have HW3:=Lib.hid (HR.out.trans hp3)
      have c1:=HW3.out.c1
      have f1:=HW3.out.f1
      clear hp3 KN1 KN
      go_wp2_with fail
      go_roundw
      case rel=>exact ⟨m,k+1,by omega,hin,by rw [←HLV.out],by rw [←HLV.out];exact hst,HW3.out.go (k+1)⟩
      case measure=>simp [intOf];omega
     ·have d3:((bt s k:Int)==60)=false:=by simp;omega
      have HF:=Lib.hid (show r=.ok (lv,k) from by rw [HR2.out,←hb.out,sgnN_stop h2])
      clear h2 hb HR2
      generalize bt s k=b2 at *
      go_wp2_with fail
      with_reducible refine KN1.out.mono ?_
      rintro e W3 ⟨rfl,hp3⟩
      have HW3:=Lib.hid (HR.out.trans hp3)
      clear hp3 KN1 KN
      go_wp2_with fail
      go_ret
      rw [HF.out]
      exact ⟨⟨_,rfl,rfl⟩,HW3.out⟩
theorem pow16:∀{k:Nat},k≤3→(1:Int)≤16 ^ k∧(16:Int) ^ k≤4096
 | 0,_=>by decide
 | 1,_=>by decide
 | 2,_=>by decide
 | 3,_=>by decide
 | k+4,h=>by omega
theorem code_eq (s:ByteArray) (i:Nat):Pa.code s i=match four s 4 0 i with | .error e=>.error e | .ok (c,j)=>.ok (more s c j):=by
 unfold Pa.code
 cases four s 4 0 i <;> rfl
theorem pcode_any (P:Nat) (s:ByteArray) (i:Nat) (w:World) (hP:PsB w P s i) (hi:i≤s.size) (hs:s.size≤9223372036854775806) :
  Calls Tryz.prog 162 #[.pointer (some ⟨P,0,none⟩)] w (RdR P s intV (Pa.code s i) w):=by
 have HP:=Lib.hid (hP.here)
 have KN:=Lib.hid (fun j (W:World) (h:PsTo P s w j W) (hj:j≤s.size)=>next_any P s j W h.box hj)
 have KF:=Lib.hid (fun j (W:World) (h:PsTo P s w j W)=>fail_any P s j W h.box)
 obtain ⟨r,hr⟩:∃r,Pa.code s i=r:=⟨_,rfl⟩
 have HR0:=Lib.hid (show r=match four s 4 0 i with | .error e=>.error e | .ok (c,j)=>.ok (more s c j) from by rw [←hr,code_eq])
 rw [hr]
 clear hP hr
 go_enter Tryz.func162,Tryz.ntmps162
 go_wp2_with fail
 go_loopw [3,6] (fun u v wr=>∃(k p:Nat) (c:Int),k≤4∧p≤s.size∧0≤c∧c < 16 ^ k∧u=.int .i64 c∧v=.int .i64 k∧Hid (four s (4 - k) c p=four s 4 0 i)∧PsTo P s w p wr) (fun _ v _=>(4 - intOf v).toNat)
 case atStart=>exact ⟨0,i,0,by omega,hi,by decide,by decide,rfl,rfl,Lib.hid rfl,HP.out⟩
 case round=>
  obtain ⟨k,p,c,hk,hp,hc0,hc1,rfl,rfl,hb,hps⟩:=hrel
  have HR:=Lib.hid hps
  clear hps
  by_cases hlt:k < 4
  ·obtain ⟨q1,q2⟩:=pow16 (k:=k) (by omega)
   have hc2:c≤4095:=by omega
   have HC:=Lib.hid (show ∀d:Int,d≤15→16*c+d < 16 ^ (k+1) from fun d hd=>by rw [Int.pow_succ];omega)
   have KN1:=Lib.hid (KN.out p _ HR.out hp)
   have hlt8:=bt_256 s p
   obtain ⟨m,hm⟩:∃m,4 - k=m+1:=⟨3 - k,by omega⟩
   have HM:=Lib.hid (show 4 - (k+1)=m from by omega)
   have hst:four s (4 - k) c p=if dg (bt s p) < 0 then .error p else four s m (16*c+dg (bt s p)) (p+1):=by rw [hm];rfl
   have hin:=dg_in (s:=s) (i:=p)
   have hbd:=dg_bd (bt s p)
   have HST:=Lib.hid (hb.out.symm.trans hst)
   have KD:=Lib.hid (fun W=>digit_any (bt s p) hlt8 W)
   clear hst hb hm q1 q2 hc1 hlt8
   generalize bt s p=b at *
   generalize dg b=d at *
   by_cases hd:d < 0
   ·have dd:decide (d < 0)=true:=by simpa using hd
    have HF:=Lib.hid (show r=.error p from by rw [HR0.out,HST.out,if_pos hd])
    clear hin HC HST HR0 HM
    go_wp2_with fail
    with_reducible refine KN1.out.mono ?_
    rintro e W1 ⟨rfl,hp1⟩
    have HW:=Lib.hid (HR.out.trans hp1)
    clear hp1 KN1
    go_wp2_with fail
    with_reducible refine (KD.out _).mono ?_
    rintro e W2 ⟨rfl,rfl⟩
    go_wp2_with fail
    with_reducible refine (KF.out p _ HW.out).mono ?_
    rintro e W3 ⟨⟨u,pv,rfl⟩,rfl⟩
    go_wp2_with fail
    rw [HF.out]
    exact ⟨rfl,⟨_,_,rfl⟩,HW.out⟩
   ·have dd:decide (d < 0)=false:=by simpa using hd
    have hd0:0≤d:=by omega
    have hd1:d≤15:=hbd.2
    have HN:=Lib.hid (show four s (4 - (k+1)) (16*c+d) (p+1)=four s 4 0 i from by rw [HM.out,HST.out,if_neg hd])
    have hin2:=hin hd
    have hc3:=HC.out d hd1
    have HC3:=Lib.hid hc3
    clear hin HC HST HR0 HM hd hbd hc3
    go_wp2_with fail
    with_reducible refine KN1.out.mono ?_
    rintro e W1 ⟨rfl,hp1⟩
    have HW:=Lib.hid (HR.out.trans hp1)
    have c1:=HW.out.c1
    have f1:=HW.out.f1
    clear hp1 KN1
    go_wp2_with fail
    with_reducible refine (KD.out _).mono ?_
    rintro e W2 ⟨rfl,rfl⟩
    go_wp2_with fail
    go_roundw
    case rel=>exact ⟨k+1,p+1,16*c+d,by omega,by omega,by omega,HC3.out,rfl,by go_num,HN,HW.out.go (p+1)⟩
    case measure=>simp [intOf];omega
  ·have hk4:=Lib.hid (show k=4 from by omega)
   have hc2:c≤65535:=by rw [hk4.out] at hc1;omega
   have HF:=Lib.hid (show r=.ok (more s c p) from by rw [HR0.out,←hb.out,hk4.out];rfl)
   have d0:decide ((k:Int) < 4)=false:=by simp;omega
   clear HR0 hb hc1 HP
   go_wp2_with fail
   go_loopw [3] (fun u wr=>∃(q:Nat) (z:Int),q≤s.size∧0≤z∧z≤1114111∧u=.int .i64 z∧Hid (more s z q=more s c p)∧PsTo P s w q wr) (fun u _=>(1114111 - intOf u).toNat)
   case atStart=>exact ⟨p,c,hp,hc0,by omega,rfl,Lib.hid rfl,HR.out⟩
   case round=>
    obtain ⟨q,z,hq,hz0,hz1,rfl,hb,hps⟩:=hrel
    have HS:=Lib.hid hps
    clear hps HR
    by_cases hz4:4096≤z
    ·have d1:decide (4096≤z)=true:=by simpa using hz4
     have KN1:=Lib.hid (KN.out q _ HS.out hq)
     have hlt8:=bt_256 s q
     have hin:=dg_in (s:=s) (i:=q)
     have hbd:=dg_bd (bt s q)
     have KD:=Lib.hid (fun W=>digit_any (bt s q) hlt8 W)
     have M1:=Lib.hid (fun h=>more_step (s:=s) (c:=z) (i:=q) h)
     have M2:=Lib.hid (fun h=>more_stop (s:=s) (c:=z) (i:=q) h)
     clear hlt8
     generalize bt s q=b at *
     generalize dg b=d at *
     by_cases hd:d < 0
     ·have dd:decide (d < 0)=true:=by simpa using hd
      have HG:=Lib.hid (show r=.ok (z,q) from by rw [HF.out,←hb.out,M2.out (by omega)])
      clear hin hb HF M1 M2
      go_wp2_with fail
      with_reducible refine KN1.out.mono ?_
      rintro e W1 ⟨rfl,hp1⟩
      have HW:=Lib.hid (HS.out.trans hp1)
      clear hp1 KN1
      go_wp2_with fail
      with_reducible refine (KD.out _).mono ?_
      rintro e W2 ⟨rfl,rfl⟩
      go_wp2_with fail
      go_ret
      rw [HG.out]
      exact ⟨⟨_,rfl,rfl⟩,HW.out⟩
     ·have dd:decide (d < 0)=false:=by simpa using hd
      have hd0:0≤d:=by omega
      have hd1:d≤15:=hbd.2
      have hin2:=hin hd
      by_cases hbig:1114111 < 16*z+d
      ·have d3:decide (1114111 < 16*z+d)=true:=by simpa using hbig
       have HG:=Lib.hid (show r=.ok (z,q) from by rw [HF.out,←hb.out,M2.out (by omega)])
       clear hin hb HF M1 M2 hd hbd
       go_wp2_with fail
       with_reducible refine KN1.out.mono ?_
       rintro e W1 ⟨rfl,hp1⟩
       have HW:=Lib.hid (HS.out.trans hp1)
       clear hp1 KN1
       go_wp2_with fail
       with_reducible refine (KD.out _).mono ?_
       rintro e W2 ⟨rfl,rfl⟩
       go_wp2_with fail
       go_ret
       rw [HG.out]
       exact ⟨⟨_,rfl,rfl⟩,HW.out⟩
      ·have d3:decide (1114111 < 16*z+d)=false:=by simpa using hbig
       have HN:=Lib.hid (show more s (16*z+d) (q+1)=more s c p from by rw [←M1.out (by omega),hb.out])
       have hb3:16*z+d≤1114111:=by omega
       clear hin hb M1 M2 hd hbd hbig
       go_wp2_with fail
       with_reducible refine KN1.out.mono ?_
       rintro e W1 ⟨rfl,hp1⟩
       have HW:=Lib.hid (HS.out.trans hp1)
       have c1:=HW.out.c1
       have f1:=HW.out.f1
       clear hp1 KN1
       go_wp2_with fail
       with_reducible refine (KD.out _).mono ?_
       rintro e W2 ⟨rfl,rfl⟩
       go_wp2_with fail
       go_roundw
       case rel=>exact ⟨q+1,16*z+d,by omega,by omega,hb3,rfl,HN,HW.out.go (q+1)⟩
       case measure=>simp [intOf];omega
    ·have d1:decide (4096≤z)=false:=by simpa using hz4
     have HG:=Lib.hid (show r=.ok (z,q) from by rw [HF.out,←hb.out,more_stop (by omega)])
     clear hb HF
     go_wp2_with fail
     go_ret
     rw [HG.out]
     exact ⟨⟨_,rfl,rfl⟩,HS.out⟩
end Go.Proofs.YtkhmjidaeliccaaGreatDoor
namespace Go.Proofs.YtkhmjidaeliccaaGreatDoor
open Go.RowKit Go.Maps Go.WideMaps
theorem info_elt:(Tryz.prog.info? 77).map (fun i=>(i.zero,i.size,i.bytes))=some (some (.agg #[.int .i64 0,.int .i64 0,.int .i64 0,.bool false]),4,32):=by kernel_rfl
theorem info_int:(Tryz.prog.info? 3).map (fun i=>(i.zero,i.size,i.bytes))=some (some (.int .i64 0),1,8):=by kernel_rfl
theorem oneCell_elts (es:List Elt):∀u ∈ flatK Elt.cells es,u.oneCell'=true:=by
 intro u hu
 obtain ⟨g,_,hg⟩:=List.mem_flatMap.1 hu
 simp only [Elt.cells,List.mem_cons,List.not_mem_nil,or_false] at hg
 rcases hg with rfl | rfl | rfl | rfl <;> rfl
def RetOwnE (es:List Elt) (w:World) (e:Ending) (w':World):Prop:=∃A c,e=.returned (.slice A es.length c)∧w'.ownsRow w.heap.size 77 4 (.slice A es.length c) es.length (flatK Elt.cells es)∧Below w.heap.size w w'
def RetOwnI (zs:List Int) (w:World) (e:Ending) (w':World):Prop:=∃A c,e=.returned (.slice A zs.length c)∧w'.ownsRow w.heap.size 3 1 (.slice A zs.length c) zs.length (zs.map (Value.int .i64))∧Below w.heap.size w w'
theorem cloneE_any (A:Option Addr) (n k:Nat) (gs:List Elt) (w:World) (hA:Elts w A gs) (hn:gs.length=n) (hb:n≤1048576) :
  Calls Tryz.prog 36 #[.slice A n k] w (RetOwnE gs w):=by
 subst hn
 cases A with
 | none=>
  have hz:gs=[]:=by
   cases gs with
   | nil=>rfl
   | cons z r=>obtain ⟨b,o,h,_⟩:=hA.at (m:=0) (by simp);cases h
  subst hz
  have hnil:=fun (W:World) n c=>Lib.run_eql_slice_nil (P:=Tryz.prog) W 54 77 none n c 0 0 Tryz.underlying54
  go_enter Tryz.func36,Tryz.ntmps36
  go_wp2
  go_ret
  exact ⟨none,0,rfl,World.ownsRow_nil _ _ _ _,Below.refl _ _⟩
 | some a=>
  have hnil:=fun (W:World) n c=>Lib.run_eql_slice_nil (P:=Tryz.prog) W 54 77 (some a) n c 0 0 Tryz.underlying54
  go_enter Tryz.func36,Tryz.ntmps36
  go_wp2_with (at_builtin;refine wpList_app _ _ 54 77 (.agg #[.int .i64 0,.int .i64 0,.int .i64 0,.bool false]) 4 32 rfl rfl Tryz.underlying54 info_elt rfl (by decide) (by decide) rfl (own_new [] 77 4 0 w.heap.size rfl rfl (Nat.le_refl _) (by omega)) rfl (Sl.alloc hA _) (flatK_len Elt.cells 4 (fun _=>rfl) gs) (oneCell_elts _) (by omega) (by simp) ?_;intro A1 c1 w1 hown1 hc1 hb1 _ _;simp only [Nat.zero_add,List.nil_append] at hown1 hc1)
  go_ret
  exact ⟨A1,c1,rfl,hown1,((Below.refl _ _).alloc (Nat.le_refl _) _).trans hb1⟩
theorem cloneI_any (A:Option Addr) (n k:Nat) (gs:List Int) (w:World) (hA:Ints w A gs) (hn:gs.length=n) (hb:n≤1048576) :
  Calls Tryz.prog 90 #[.slice A n k] w (RetOwnI gs w):=by
 subst hn
 cases A with
 | none=>
  have hz:gs=[]:=by
   cases gs with
   | nil=>rfl
   | cons z r=>obtain ⟨b,o,h,_⟩:=hA.at (k:=0) (by simp);cases h
  subst hz
  have hnil:=fun (W:World) n c=>Lib.run_eql_slice_nil (P:=Tryz.prog) W 33 3 none n c 0 0 Tryz.underlying33
  go_enter Tryz.func90,Tryz.ntmps90
  go_wp2
  go_ret
  exact ⟨none,0,rfl,World.ownsRow_nil _ _ _ _,Below.refl _ _⟩
 | some a=>
  have hnil:=fun (W:World) n c=>Lib.run_eql_slice_nil (P:=Tryz.prog) W 33 3 (some a) n c 0 0 Tryz.underlying33
  go_enter Tryz.func90,Tryz.ntmps90
  go_wp2_with (at_builtin;refine wpList_app _ _ 33 3 (.int .i64 0) 1 8 rfl rfl Tryz.underlying33 info_int rfl (by decide) (by decide) rfl (own_new [] 3 1 0 w.heap.size rfl rfl (Nat.le_refl _) (by omega)) rfl (Sl.alloc hA _) (by simp) (oneCell_ints _) (by omega) (by simp) ?_;intro A1 c1 w1 hown1 hc1 hb1 _ _;simp only [Nat.zero_add,List.nil_append] at hown1 hc1)
  go_ret
  exact ⟨A1,c1,rfl,hown1,((Below.refl _ _).alloc (Nat.le_refl _) _).trans hb1⟩
end Go.Proofs.YtkhmjidaeliccaaGreatDoor
