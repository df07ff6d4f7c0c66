import Derived.Test.YtkhmjidaeliccaaGreatDoorD00
import Derived.Test.YtkhmjidaeliccaaGreatDoorD01
import Derived.WalkKit
import Derived.Deep.QuietTactic
import Derived.BigQuiet
import Derived.Test.YtkhmjidaeliccaaGreatDoorProg
import Derived.Outline
import Derived.Deep.RegionHeld3
import Derived.Maps.OwnSet
import Derived.Maps.OwnOps
set_option maxRecDepth 100000
set_option maxHeartbeats 51200000
namespace Go.Proofs.YtkhmjidaeliccaaGreatDoor
open Option renaming none->N,some->Z
open Value renaming int->I,slice->H
open IntKind renaming i64->J
open Go.Proofs.Tryz
section
open Go.RowKit
structure Spn where
 lo:Int
 hi:Int
 val:Int
def fR(ss:List Spn):Lv:=ss.flatMap fun s=>[I J s.lo,I J s.hi,I J s.val]
theorem JJ(ss:List Spn):(fR ss).length=ss.length*3:=by
 induction ss with
 |nil=>rfl
 |cons r rs ih=>simp only[fR,List.flatMap_cons,List.length_append,List.length_cons,List.length_nil]at *;omega
theorem oM(ss:List Spn)(k:Nat)(hk:k<ss.length):
  (fR ss)[k*3]?=Z (I J ss[k].lo)/\(fR ss)[k*3+1]?=Z (I J ss[k].hi)/\(fR ss)[k*3+2]?=Z (I J ss[k].val):=by
 induction ss generalizing k with
 |nil=>simp at hk
 |cons r rs ih=>
  cases k with
  |zero=>simp[fR]
  |succ k=>
   have:=ih k (by simpa using hk);simp only[fR,List.flatMap_cons,List.cons_append,List.nil_append,List.getElem_cons_succ]at *;rw[show(k+1)*3=k*3+1+1+1 by omega];simpa using this
def bD(w:Wv)(A:Oa)(ss:List Spn):Prop:=Sl w A (fR ss)
theorem bD.at{w:Wv}{A:Oa}{ss:List Spn}(h:bD w A ss){k:Nat}(hk:k<ss.length):
  ∃b o,A=Z ⟨b,o,N⟩/\b<w.heap.size/\∀j,(hj:j<ss.length)->w.cell? ⟨b,o+j*3,N⟩=Z (I J ss[j].lo)/\w.cell? ⟨b,o+j*3+1,N⟩=Z (I J ss[j].hi)/\
   w.cell? ⟨b,o+j*3+2,N⟩=Z (I J ss[j].val):=by
 obtain⟨b,o,rfl,hc⟩:=Sl.at h (k:=k*3) (by rw[JJ];omega);refine⟨b,o,rfl,World.block_lt_of_cell? w _ (hc _ _ (oM ss k hk).1),fun j hj=>⟨?_,?_,?_⟩⟩
 ·exact hc _ _ (oM ss j hj).1
 ·exact hc _ _ (oM ss j hj).2.1
 exact hc _ _ (oM ss j hj).2.2
theorem bD.below{w w':Wv}{A:Oa}{ss:List Spn}(h:bD w A ss)(hb:By w w'):bD w' A ss:=Sl.below h hb
theorem bD.keep{w w':Wv}{A:Oa}{ss:List Spn}(h:bD w A ss)(hb:∀p:Addr,p.block<w.heap.size->w'.cell? p=w.cell? p):bD w' A ss:=Sl.keep h hb
def cls(ss:List Spn)(c:Int):Int:=
 match ss with
 | []=>0
 |s::r=>if s.lo<=c/\c<=s.hi then s.val else cls r c
def Asc(ss:List Spn):Prop:=∀i j,(hi:i<ss.length)->(hj:j<ss.length)->(ss[i].lo<=ss[i].hi)/\(i<j->ss[i].hi<ss[j].lo)
theorem uX(ss:List Spn)(c:Int)(i:Nat)(hi:i<ss.length)(h:Asc ss)(h1:ss[i].lo<=c)(h2:c<=ss[i].hi):cls ss c=ss[i].val:=by
 induction ss generalizing i with
 |nil=>simp at hi
 |cons s r ih=>
  cases i with
  |zero=>simp only[List.getElem_cons_zero]at *;unfold cls;rw[if_pos ⟨h1,h2⟩]
  |succ i=>
   have hlt:=(h 0 (i+1) (by simp) hi).2 (by omega);simp only[List.getElem_cons_zero,List.getElem_cons_succ]at *;unfold cls;rw[if_neg (by omega)];refine ih i (by simpa using hi) (fun a b ha hb=>?_) h1 h2;have:=h (a+1) (b+1) (by simpa using ha) (by simpa using hb);simp only[List.getElem_cons_succ]at this;exact⟨this.1,fun hab=>this.2 (by omega)⟩
theorem qT(ss:List Spn)(c:Int)(h:∀i,(hi:i<ss.length)->¬(ss[i].lo<=c/\c<=ss[i].hi)):cls ss c=0:=by
 induction ss with
 |nil=>rfl
 |cons s r ih=>
  unfold cls;have h0:=h 0 (by simp);simp only[List.getElem_cons_zero]at h0;rw[if_neg h0]
  exact ih fun i hi=>by
   have:=h (i+1) (by simpa using hi);simpa using this
theorem Asc.nil:Asc []:=fun i _ hi=>by simp at hi
def eJ(s:Spn):Prop:=s.lo<0\/1114111<s.hi\/s.hi<s.lo\/s.val<1\/254<s.val
def fC(a b:Spn):Prop:=b.lo<=a.hi\/(b.lo=a.hi+1/\b.val=a.val)
def iU(s:Spn):Prop:=(s.lo<=4370/\4352<=s.hi)\/(s.lo<=4469/\4449<=s.hi)\/(s.lo<=4546/\4520<=s.hi)\/(s.lo<=55203/\44032<=s.hi)
instance (s:Spn):Decidable (eJ s):=by unfold eJ;exact inferInstance
instance (a b:Spn):Decidable (fC a b):=by unfold fC;exact inferInstance
instance (s:Spn):Decidable (iU s):=by unfold iU;exact inferInstance
def kS:List Spn->Bool
 |a::b::r=>decide (fC a b)||kS (b::r)
 |_=>false
def chk(ss:List Spn):Int:=if(ss.any fun s=>decide (eJ s))=true then 1 else if kS ss=true then 4 else if(ss.any fun s=>decide (iU s))=true then 11 else 0
theorem qM{p:Spn->Bool}{ss:List Spn}{k:Nat}(hk:k<ss.length)(h:p ss[k]=true):ss.any p=true:=List.any_eq_true.2 ⟨ss[k],List.getElem_mem hk,h⟩
theorem oG{p:Spn->Bool}{ss:List Spn}(h:∀t,(ht:t<ss.length)->p ss[t]=false):ss.any p=false:=by
 rw[List.any_eq_false];intro x hx;obtain⟨i,hi,rfl⟩:=List.getElem_of_mem hx;rw[h i hi];simp
theorem uD{ss:List Spn}{k:Nat}(hk:k+1<ss.length)(h:fC ss[k] ss[k+1]):kS ss=true:=by
 induction ss generalizing k with
 |nil=>simp at hk
 |cons a r ih=>
  cases r with
  |nil=>simp at hk
  |cons b r=>
   cases k with
   |zero=>simp only[List.getElem_cons_zero,List.getElem_cons_succ]at h;simp[kS,h]
   |succ k=>
    simp only[kS,Bool.or_eq_true];right;exact ih (k:=k) (by simpa using hk) (by simpa using h)
theorem uC{ss:List Spn}(h:∀t,(ht:t+1<ss.length)->¬fC ss[t] ss[t+1]):kS ss=false:=by
 induction ss with
 |nil=>rfl
 |cons a r ih=>
  cases r with
  |nil=>rfl
  |cons b r=>
   have h0:=h 0 (by simp);simp only[List.getElem_cons_zero,List.getElem_cons_succ]at h0;simp only[kS,Bool.or_eq_false_iff];refine⟨by simpa using h0,ih fun t ht=>?_⟩;have:=h (t+1) (by simpa using ht);simpa using this
theorem EY{ss:List Spn}{k:Nat}(hk:k<ss.length)(h:eJ ss[k]):chk ss=1:=by
 unfold chk;rw[if_pos (qM hk (by simpa using h))]
theorem E_{ss:List Spn}{k:Nat}(h1:∀t,(ht:t<ss.length)->¬eJ ss[t])(hk:k+1<ss.length)(h:fC ss[k] ss[k+1]):chk ss=4:=by
 unfold chk;rw[if_neg (by rw[oG fun t ht=>by simpa using h1 t ht];simp),if_pos (uD hk h)]
theorem EZ{ss:List Spn}{k:Nat}(h1:∀t,(ht:t<ss.length)->¬eJ ss[t])(h2:∀t,(ht:t+1<ss.length)->¬fC ss[t] ss[t+1])(hk:k<ss.length)(h:iU ss[k]):chk ss=11:=by
 unfold chk;rw[if_neg (by rw[oG fun t ht=>by simpa using h1 t ht];simp),if_neg (by rw[uC h2];simp),if_pos (qM hk (by simpa using h))]
theorem EW{ss:List Spn}(h1:∀t,(ht:t<ss.length)->¬eJ ss[t])(h2:∀t,(ht:t+1<ss.length)->¬fC ss[t] ss[t+1])(h3:∀t,(ht:t<ss.length)->¬iU ss[t]):chk ss=0:=by
 unfold chk;rw[if_neg (by rw[oG fun t ht=>by simpa using h1 t ht];simp),if_neg (by rw[uC h2];simp),if_neg (by rw[oG fun t ht=>by simpa using h3 t ht];simp)]
theorem uE{ss:List Spn}{P:Spn->Prop}{i:Nat}(hlt:i<ss.length)(h:∀t,(ht:t<ss.length)->t<i->¬P ss[t])(hi:¬P ss[i]):∀t,(ht:t<ss.length)->t<i+1->¬P ss[t]:=by
 intro t ht g;by_cases e:t<i
 ·exact h t ht e
 obtain rfl:t=i:=by omega
 exact hi
theorem QQ{ss:List Spn}{P:Spn->Spn->Prop}{i:Nat}(hlt:i+1<ss.length)(h:∀t,(ht:t+1<ss.length)->t<i->¬P ss[t] ss[t+1])(hi:¬P ss[i] ss[i+1]):∀t,(ht:t+1<ss.length)->t<i+1->¬P ss[t] ss[t+1]:=by
 intro t ht g;by_cases e:t<i
 ·exact h t ht e
 obtain rfl:t=i:=by omega
 exact hi
theorem uT{ss:List Spn}(h:chk ss=0):(∀t,(ht:t<ss.length)->¬eJ ss[t])/\(∀t,(ht:t+1<ss.length)->¬fC ss[t] ss[t+1]):=by
 unfold chk at h;split at h
 ·omega
 next h1=>
 split at h
 ·omega
 next h2=>
 refine⟨fun t ht hb=>h1 (qM ht (by simpa using hb)),fun t ht hb=>h2 (uD ht hb)⟩
theorem uI{ss:List Spn}(h:chk ss=0):Asc ss:=by
 obtain⟨h1,h2⟩:=uT h;have step:∀d i,(hi:i<ss.length)->(hj:i+d+1<ss.length)->ss[i].hi<ss[i+d+1].lo:=by
  intro d;induction d with
  |zero=>
   intro i hi hj;have:=h2 i (by omega);unfold fC at this;have:¬ss[i+1].lo<=ss[i].hi:=fun h=>this (.inl h)
   simp only[Nat.add_zero];omega
  |succ d ih=>
   intro i hi hj;have a1:=ih i hi (by omega);have a2:=h2 (i+d+1) (by omega);have a3:=h1 (i+d+1) (by omega);unfold fC at a2;unfold eJ at a3;have a4:¬ss[i+d+1+1].lo<=ss[i+d+1].hi:=fun h=>a2 (.inl h)
   have:i+(d+1)+1=i+d+1+1:=by omega
   simp only[this];omega
 intro i j hi hj;refine⟨?_,fun hij=>?_⟩
 ·have:=h1 i hi
  unfold eJ at this;omega
 have:=step (j-i-1) i hi (by omega);have e:i+(j-i-1)+1=j:=by omega
 simp only[e]at this;exact this
end
namespace Hg
def kind(c:Int):Int:=
 if 0x1100<=c/\c<=0x1112 then 1
 else if 0x1161<=c/\c<=0x1175 then 2
 else if 0x11A8<=c/\c<=0x11C2 then 3
 else if 0xAC00<=c/\c<=0xD7A3 then(if(c-0xAC00)%28=0 then 4 else 5)
 else 0
theorem kind1{c:Int}(h:0x1100<=c/\c<=0x1112):kind c=1:=by unfold kind;rw[if_pos h]
theorem kind2{c:Int}(h:0x1161<=c/\c<=0x1175):kind c=2:=by unfold kind;rw[if_neg (by omega),if_pos h]
theorem kind3{c:Int}(h:0x11A8<=c/\c<=0x11C2):kind c=3:=by unfold kind;rw[if_neg (by omega),if_neg (by omega),if_pos h]
theorem kind4{c:Int}(h:0xAC00<=c/\c<=0xD7A3)(h':(c-0xAC00)%28=0):kind c=4:=by unfold kind;rw[if_neg (by omega),if_neg (by omega),if_neg (by omega),if_pos h,if_pos h']
theorem kind5{c:Int}(h:0xAC00<=c/\c<=0xD7A3)(h':¬(c-0xAC00)%28=0):kind c=5:=by unfold kind;rw[if_neg (by omega),if_neg (by omega),if_neg (by omega),if_pos h,if_neg h']
theorem kind0{c:Int}(h1:¬(0x1100<=c/\c<=0x1112))(h2:¬(0x1161<=c/\c<=0x1175))(h3:¬(0x11A8<=c/\c<=0x11C2))(h4:¬(0xAC00<=c/\c<=0xD7A3)):kind c=0:=by
 unfold kind;rw[if_neg h1,if_neg h2,if_neg h3,if_neg h4]
theorem cases6(c:Int):(0x1100<=c/\c<=0x1112/\kind c=1)\/(0x1161<=c/\c<=0x1175/\kind c=2)\/(0x11A8<=c/\c<=0x11C2/\kind c=3)\/(0xAC00<=c/\c<=0xD7A3/\(c-0xAC00)%28=0/\kind c=4)\/
  (0xAC00<=c/\c<=0xD7A3/\¬(c-0xAC00)%28=0/\kind c=5)\/(¬(0x1100<=c/\c<=0x1112)/\¬(0x1161<=c/\c<=0x1175)/\¬(0x11A8<=c/\c<=0x11C2)/\¬(0xAC00<=c/\c<=0xD7A3)/\kind c=0):=by
 by_cases h1:0x1100<=c/\c<=0x1112
 ·exact .inl ⟨h1.1,h1.2,kind1 h1⟩
 by_cases h2:0x1161<=c/\c<=0x1175
 ·exact .inr (.inl ⟨h2.1,h2.2,kind2 h2⟩)
 by_cases h3:0x11A8<=c/\c<=0x11C2
 ·exact .inr (.inr (.inl ⟨h3.1,h3.2,kind3 h3⟩))
 by_cases h4:0xAC00<=c/\c<=0xD7A3
 ·by_cases h5:(c-0xAC00)%28=0
  ·exact .inr (.inr (.inr (.inl ⟨h4.1,h4.2,h5,kind4 h4 h5⟩)))
  exact .inr (.inr (.inr (.inr (.inl ⟨h4.1,h4.2,h5,kind5 h4 h5⟩))))
 exact .inr (.inr (.inr (.inr (.inr ⟨h1,h2,h3,h4,kind0 h1 h2 h3 h4⟩))))
theorem kind_range(c:Int):0<=kind c/\kind c<=5:=by
 rcases cases6 c with h|h|h|h|h|h<;>omega
def decomp(c:Int):Li:=
 if kind c<4 then [c]
 else if(c-0xAC00)%28=0 then [0x1100+(c-0xAC00)/28/21,0x1161+(c-0xAC00)/28%21]
 else [0x1100+(c-0xAC00)/28/21,0x1161+(c-0xAC00)/28%21,0x11A8+(c-0xAC00)%28-1]
def pl(p q r:Int):Nat:=
 if(p==1&&q==2&&r==3)=true then 3 else if(p==1&&q==2)=true then 2 else if(p==4&&q==3)=true then 2 else if 4<=p then 1 else 0
def kd(l:Li)(j:Nat):Int:=(l[j]?.map kind).getD 0
def plen(l:Li):Nat:=pl (kd l 0) (kd l 1) (kd l 2)
def spl(l:Li):Nat->Nat->List (Nat×Nat)
 |0,_=>[]
 |f+1,i=>if i<l.length then(if 0<plen (l.drop i)then(i,i+plen (l.drop i))::spl l f (i+plen (l.drop i))else spl l f (i+1))else []
def sp(l:Li)(i:Nat):List (Nat×Nat):=spl l (l.length-i) i
end Hg
section
section
variable (on:Int->Option (Li))(cap:Int)
def cU(vs:Li):Int:=vs.foldl (fun s v=>min (s+v) cap) 0
theorem EN(vs:Li)(v:Int):cU cap (vs++[v])=min (cU cap vs+v) cap:=by simp[cU,List.foldl_append]
inductive Sz:Int->Int->Prop
 |leaf {c:Int}:on c=N\/on c=Z []->Sz c 1
 |node {c:Int} {toq vs:Li}:on c=Z toq->toq≠[]->vs.length=toq.length->(∀i,(hi:i<toq.length)->(hv:i<vs.length)->Sz toq[i] vs[i])->Sz c (cU cap vs)
def iV(c d:Int):Prop:=∃toq,on c=Z toq/\d∈toq
inductive bR:Int->Int->Prop
 |one {c d:Int}:iV on c d->bR c d
 |more {c d e:Int}:bR c d->iV on d e->bR c e
end
section
variable {on:Int->Option (Li)}{cap:Int}
theorem bR.front{c d e:Int}(h:iV on c d)(p:bR on d e):bR on c e:=by
 induction p with
 |one h2=>exact .more (.one h) h2
 |more _ h2 ih=>exact .more ih h2
theorem bR.head{c e:Int}(p:bR on c e):iV on c e\/∃d,iV on c d/\bR on d e:=by
 induction p with
 |one h=>exact .inl h
 |more p h ih=>
  rcases ih with h1|⟨x,h1,h2⟩
  ·exact .inr ⟨_,h1,.one h⟩
  exact .inr ⟨x,h1,.more h2 h⟩
theorem Sz.func{c v:Int}(h:Sz on cap c v):∀{v'},Sz on cap c v'->v=v':=by
 induction h with
 |leaf h=>
  intro v' h';cases h' with
  |leaf _=>rfl
  |node h1 h2 _ _=>
   rcases h with h|h
   ·rw[h]at h1;cases h1
   rw[h]at h1;injection h1 with h1;exact absurd h1.symm h2
 |node h1 h2 h3 _ ih=>
  intro v' h';cases h' with
  |leaf h=>
   rcases h with h|h
   ·rw[h]at h1;cases h1
   rw[h]at h1;injection h1 with h1;exact absurd h1.symm h2
  | @node _ toq vs' g1 g2 g3 g4=>
   rw[h1]at g1;injection g1 with g1;subst g1;congr 1;refine List.ext_getElem (by omega) fun i hi hi'=>?_
   exact ih i (by omega) hi (g4 i (by omega) hi')
theorem Sz.succ{c d v:Int}(h:Sz on cap c v)(e:iV on c d):∃u,Sz on cap d u:=by
 obtain⟨toq,h1,h2⟩:=e;cases h with
 |leaf h=>
  rcases h with h|h
  ·rw[h]at h1;cases h1
  rw[h]at h1;injection h1 with h1;subst h1;cases h2
 | @node _ to' vs g1 g2 g3 g4=>
  rw[h1]at g1;injection g1 with g1;subst g1;obtain⟨i,hi,rfl⟩:=List.getElem_of_mem h2;exact⟨_,g4 i hi (by omega)⟩
theorem Sz.noway{c v:Int}(h:Sz on cap c v):¬bR on c c:=by
 have key:∀{c v:Int},Sz on cap c v->∀d,bR on c d->¬bR on d c:=by
  intro c v h;induction h with
  |leaf h=>
   intro d p _;rcases p.head with⟨toq,h1,h2⟩|⟨x,⟨toq,h1,h2⟩,_⟩
   all_goals
    rcases h with h|h
    ·rw[h]at h1;cases h1
    rw[h]at h1;injection h1 with h1;subst h1;cases h2
  | @node c toq vs h1 h2 h3 _ ih=>
   intro d p q
   have step:∀x,iV on c x->∀y,bR on x y->¬bR on y x:=fun x⟨to',g1,g2⟩ y=>by
    rw[h1]at g1;injection g1 with g1;subst g1;obtain⟨i,hi,rfl⟩:=List.getElem_of_mem g2;exact ih i hi (by omega) y
   rcases p.head with e|⟨x,e,p2⟩
   ·rcases q.head with e2|⟨y,e2,q2⟩
    ·exact step d e c (.one e2) (.one e)
    exact step d e c q (.one e)
   have q3:bR on d x:=by
    rcases q.head with e2|⟨y,e2,q2⟩
    ·exact .front e2 (.one e)
    exact .more q e
   exact step x e d p2 q3
 exact fun p=>key h c p p
theorem qP{vs:Li}(hc:1<=cap)(h:∀v∈vs,1<=v)(hne:vs≠[]):1<=cU cap vs/\cU cap vs<=cap:=by
 have:∀(l:Li)(s:Int),(∀v∈l,1<=v)->0<=s->s<=cap->(l≠[]\/1<=s)->1<=l.foldl (fun s v=>min (s+v) cap) s/\l.foldl (fun s v=>min (s+v) cap) s<=cap:=by
  intro l;induction l with
  |nil=>intro s _ h0 h1 h2;rcases h2 with h2|h2;exact absurd rfl h2;exact⟨h2,h1⟩
  |cons x l ih=>
   intro s hl h0 h1 _;have hx:=hl x (by simp);exact ih _ (fun v hv=>hl v (by simp[hv])) (by dsimp only;omega) (by dsimp only;omega) (.inr (by dsimp only;omega))
 exact this vs 0 h (by omega) (by omega) (.inl hne)
theorem Sz.bd{c v:Int}(hc:1<=cap)(h:Sz on cap c v):1<=v/\v<=cap:=by
 induction h with
 |leaf _=>exact⟨by omega,hc⟩
 |node h1 h2 h3 _ ih=>
  refine qP hc (fun v hv=>?_) (by rintro rfl;simp at h3;exact h2 (List.eq_nil_of_length_eq_zero h3.symm));obtain⟨i,hi,rfl⟩:=List.getElem_of_mem hv;exact(ih i (by omega) hi).1
end
section
variable (n:Nat)(frm:Nat->Int)(toq:Nat->Li)(fnd:Int->Option Nat)(dl:Int->Int)(cap:Int)
def iG(T:List Bool)(i:Nat):Bool:=(toq i).all (fun e=>match fnd e with|none=>true|some m=>T.getD m false)
def aX(T:List Bool)(i:Nat):List Bool:=T.set i (iG toq fnd T i)
def nG(L:Li)(e:Int):Int:=match fnd e with|none=>dl e|some m=>L.getD m 0
def lB(L:Li)(i:Nat):Int:=min (max ((toq i).map (nG fnd dl L)).sum 1) cap
def fV(skip:Nat->Bool)(L:Li)(i:Nat):Li:=L.set i (if skip i=true then 1 else lB toq fnd dl cap L i)
end
section
variable {n:Nat}{frm:Nat->Int}{toq:Nat->Li}{fnd fnd':Int->Option Nat}{dl:Int->Int}{cap:Int}{on on':Int->Option (Li)}{skip:Nat->Bool}
theorem qO{vs:Li}(h:∀v∈vs,0<=v)(hc:0<=cap):cU cap vs=min vs.sum cap:=by
 have:∀(l:Li)(s:Int),(∀v∈l,0<=v)->0<=s->s<=cap->l.foldl (fun s v=>min (s+v) cap) s=min (s+l.sum) cap:=by
  intro l;induction l with
  |nil=>intro s _ _ h;simp;omega
  |cons x l ih=>
   intro s hl h0 h1;have hx:=hl x (by simp);have hp:0<=l.sum:=by
    clear ih;have hl':∀v∈l,0<=v:=fun v hv=>hl v (by simp[hv])
    clear hl;induction l with
    |nil=>simp
    |cons y l ih=>rw[List.sum_cons];have:=hl' y (by simp);have:=ih (fun v hv=>hl' v (by simp[hv]));omega
   rw[List.foldl_cons,ih _ (fun v hv=>hl v (by simp[hv])) (by omega) (by omega),List.sum_cons];omega
 have:=this vs 0 h (by omega) hc;simpa[cU]using this
theorem zF{l:Li}(h:∀v∈l,0<=v):0<=l.sum:=by
 induction l with
 |nil=>simp
 |cons y l ih=>rw[List.sum_cons];have:=h y (by simp);have:=ih (fun v hv=>h v (by simp[hv]));omega
theorem VQ{l:Li}(h:∀v∈l,1<=v)(hne:l≠[]):1<=l.sum:=by
 cases l with
 |nil=>exact absurd rfl hne
 |cons y l=>rw[List.sum_cons];have:=h y (by simp);have:=zF (l:=l) (fun v hv=>by have:=h v (by simp[hv]);omega);omega
structure tP(n:Nat)(frm:Nat->Int)(toq:Nat->Li)(fnd:Int->Option Nat)(dl:Int->Int)(cap:Int)(on:Int->Option (Li))(skip:Nat->Bool):Prop where
 cap1:1<=cap
 at_:∀i,i<n->skip i=false->on (frm i)=Z (toq i)
 sk:∀i,i<n->skip i=true->on (frm i)=N
 fd:∀e m,fnd e=Z m->m<n/\frm m=e
 no:∀e,fnd e=N->Sz on cap e (dl e)
theorem TF(M:tP n frm toq fnd dl cap on skip)(hsub:∀e m,fnd e=Z m->fnd' e=Z m)(s:List Nat)(hs:∀i∈s,i<n):
  ∀i,i<n->(s.foldl (aX toq fnd') (List.replicate n false)).getD i false=true->∃v,Sz on cap (frm i) v/\(s.foldl (fV toq fnd dl cap skip) (List.replicate n 0)).getD i 0=v:=by
 have hlenE:∀s:List Nat,(s.foldl (aX toq fnd') (List.replicate n false)).length=n:=by
  intro s;have:∀(s:List Nat)(T:List Bool),T.length=n->(s.foldl (aX toq fnd') T).length=n:=by
   intro s;induction s with
   |nil=>intro T h;exact h
   |cons x s ih=>intro T h;exact ih _ (by simp[aX,h])
  exact this s _ (by simp)
 have hlenL:∀s:List Nat,(s.foldl (fV toq fnd dl cap skip) (List.replicate n 0)).length=n:=by
  intro s;have:∀(s:List Nat)(T:Li),T.length=n->(s.foldl (fV toq fnd dl cap skip) T).length=n:=by
   intro s;induction s with
   |nil=>intro T h;exact h
   |cons x s ih=>intro T h;exact ih _ (by simp[fV,h])
  exact this s _ (by simp)
 have key:∀k(s:List Nat),s.length=k->(∀i∈s,i<n)->∀i,i<n->(s.foldl (aX toq fnd') (List.replicate n false)).getD i false=true->∃v,Sz on cap (frm i) v/\(s.foldl (fV toq fnd dl cap skip) (List.replicate n 0)).getD i 0=v:=by
  intro k;induction k with
  |zero=>
   intro s hk _ i hi h;have:s=[]:=List.eq_nil_of_length_eq_zero hk;subst this;simp[List.getD,hi]at h
  |succ k ih=>
   intro s hk hs i hi h;obtain⟨s',x,rfl⟩:∃s' x,s=s'++[x]:=⟨s.dropLast,s.getLast (by rintro rfl;simp at hk),(List.dropLast_concat_getLast _).symm⟩;have hs':∀i∈s',i<n:=fun j hj=>hs j (by simp[hj])
   have hx:x<n:=hs x (by simp);have IH:=ih s' (by simpa using hk) hs';rw[List.foldl_append]at h|-;simp only[List.foldl_cons,List.foldl_nil]at h|-;have l1:=hlenE s';have l2:=hlenL s';generalize s'.foldl (aX toq fnd') (List.replicate n false)=T at *;generalize s'.foldl (fV toq fnd dl cap skip) (List.replicate n 0)=L at *;by_cases e:x=i
   ·subst e
    have hT:iG toq fnd' T x=true:=by
     simpa[aX,List.getD,l1,hi]using h
    have hL:(fV toq fnd dl cap skip L x).getD x 0=if skip x=true then 1 else lB toq fnd dl cap L x:=by
     simp[fV,List.getD,l2,hi]
    rw[hL];cases hsk:skip x with
    |true=>exact⟨1,.leaf (.inl (M.sk x hi hsk)),by simp⟩
    |false=>
     simp only[Bool.false_eq_true,if_false]
     have hch:∀e∈toq x,Sz on cap e (nG fnd dl L e):=fun e he=>by
      unfold nG;cases hf:fnd e with
      |none=>exact M.no e hf
      |some m=>
       obtain⟨hm,hfm⟩:=M.fd e m hf;have:=List.all_eq_true.1 hT e he;rw[hsub e m hf]at this;obtain⟨v,h1,h2⟩:=IH m hm this;rw[hfm]at h1;rw[<-h2]at h1;exact h1
     by_cases hto:toq x=[]
     ·refine⟨1,.leaf (.inr (by rw[M.at_ x hi hsk,hto])),?_⟩
      unfold lB;rw[hto];have:=M.cap1;simp;omega
     refine⟨cU cap ((toq x).map (nG fnd dl L)),.node (M.at_ x hi hsk) hto (by simp) (fun j hj hv=>?_),?_⟩
     ·simp only[List.getElem_map]
      exact hch _ (List.getElem_mem hj)
     have hpos:∀v∈(toq x).map (nG fnd dl L),1<=v:=fun v hv=>by
      obtain⟨e,he,rfl⟩:=List.mem_map.1 hv;exact((hch e he).bd M.cap1).1
     have h1:=VQ hpos (by simpa using hto);rw[qO (fun v hv=>by have:=hpos v hv;omega) (by have:=M.cap1;omega)];unfold lB;rw[Int.max_eq_left h1]
   have hT:T.getD i false=true:=by
    simpa[aX,List.getD,List.getElem?_set,e]using h
   obtain⟨v,h1,h2⟩:=IH i hi hT;refine⟨v,h1,?_⟩;rw[<-h2];simp[fV,List.getD,e]
 exact key s.length s rfl hs
end
section
variable {n:Nat}{toq:Nat->Li}{fnd:Int->Option Nat}
def lK(toq:Nat->Li)(fnd:Int->Option Nat)(T:List Bool):Prop:=∀i,T.getD i false=true->iG toq fnd T i=true
def LeB(T T':List Bool):Prop:=T.length=T'.length/\∀i,T.getD i false=true->T'.getD i false=true
theorem LeB.refl(T:List Bool):LeB T T:=⟨rfl,fun _ h=>h⟩
theorem LeB.trans{a b c:List Bool}(h:LeB a b)(k:LeB b c):LeB a c:=⟨h.1.trans k.1,fun i hi=>k.2 i (h.2 i hi)⟩
theorem LeB.antisymm{a b:List Bool}(h:LeB a b)(k:LeB b a):a=b:=by
 refine List.ext_getElem h.1 fun i h1 h2=>?_
 have e1:a.getD i false=a[i]:=by simp[List.getD,List.getElem?_eq_getElem h1]
 have e2:b.getD i false=b[i]:=by simp[List.getD,List.getElem?_eq_getElem h2]
 have p:=h.2 i;have q:=k.2 i;rw[e1,e2]at p q;cases ha:a[i]<;>cases hb:b[i]<;>simp_all
theorem IF{T T':List Bool}(h:LeB T T')(i:Nat)(hi:iG toq fnd T i=true):iG toq fnd T' i=true:=by
 unfold iG at *;rw[List.all_eq_true]at *;intro e he;have:=hi e he;cases hf:fnd e with
 |none=>rfl
 |some m=>rw[hf]at this;exact h.2 m this
theorem rG{T:List Bool}{i j:Nat}{x:Bool}(hi:i<T.length):(T.set i x).getD j false=if i=j then x else T.getD j false:=by
 by_cases e:i=j
 ·subst e;simp[List.getD,hi]
 simp[List.getD,e]
theorem vI{T:List Bool}(hc:lK toq fnd T){i:Nat}(hi:i<T.length):LeB T (aX toq fnd T i)/\lK toq fnd (aX toq fnd T i):=by
 have hle:LeB T (aX toq fnd T i):=by
  refine⟨by simp[aX],fun j hj=>?_⟩;unfold aX;rw[rG hi];split
  ·next e=>subst e;exact hc i hj
  exact hj
 refine⟨hle,fun j hj=>IF hle j ?_⟩;unfold aX at hj;rw[rG hi]at hj;split at hj
 ·next e=>subst e;exact hj
 exact hc j hj
theorem mZ{s:List Nat}:∀{T:List Bool},lK toq fnd T->(∀i∈s,i<T.length)->LeB T (s.foldl (aX toq fnd) T)/\lK toq fnd (s.foldl (aX toq fnd) T):=by
 induction s with
 |nil=>intro T hc _;exact⟨LeB.refl _,hc⟩
 |cons x s ih=>
  intro T hc hs;obtain⟨h1,h2⟩:=vI hc (hs x (by simp));obtain⟨h3,h4⟩:=ih h2 (fun i hi=>by rw[<-h1.1];exact hs i (by simp[hi]));exact⟨h1.trans h3,h4⟩
theorem JE{T:List Bool}(hc:lK toq fnd T)(hl:T.length=n)(he:(List.range n).foldl (aX toq fnd) T=T){i:Nat}(hi:i<n):T.getD i false=iG toq fnd T i:=by
 have hsp:List.range n=List.range i++i::(List.range n).drop (i+1):=by
  have h1:(List.range n).take i=List.range i:=by rw[List.take_range];congr 1;omega
  have h2:(List.range n).drop i=i::(List.range n).drop (i+1):=by
   rw[List.drop_eq_getElem_cons (by simpa using hi)];simp
  rw[<-h1,<-h2,List.take_append_drop]
 have hlt:∀j∈List.range n,j<T.length:=fun j hj=>by rw[hl];exact List.mem_range.1 hj
 rw[hsp,List.foldl_append,List.foldl_cons]at he;obtain⟨a1,a2⟩:=mZ (s:=List.range i) hc (fun j hj=>by rw[hl];have:=List.mem_range.1 hj;omega);have hi1:i<((List.range i).foldl (aX toq fnd) T).length:=by rw[<-a1.1,hl];exact hi
 obtain⟨b1,b2⟩:=vI a2 hi1;obtain⟨c1,c2⟩:=mZ (s:=(List.range n).drop (i+1)) b2 (fun j hj=>by rw[<-b1.1,<-a1.1];exact hlt j (List.mem_of_mem_drop hj));rw[he]at c1;have e1:(List.range i).foldl (aX toq fnd) T=T:=LeB.antisymm (b1.trans c1) a1;rw[e1]at b1 c1 hi1;have e2:aX toq fnd T i=T:=LeB.antisymm c1 b1;have:=congrArg (fun l:List Bool=>l.getD i false) e2;unfold aX at this;rw[rG hi1,if_pos rfl]at this;exact this.symm
theorem u_{T T':List Bool}(h:LeB T T')(hne:¬T=T'):T.count true<T'.count true:=by
 induction T generalizing T' with
 |nil=>
  have:=h.1;cases T' with
  |nil=>exact absurd rfl hne
  |cons _ _=>simp at this
 |cons x T ih=>
  cases T' with
  |nil=>have:=h.1;simp at this
  |cons y T'=>
   have hl:LeB T T':=⟨by have:=h.1;simpa using this,fun i hi=>by have:=h.2 (i+1);simpa[List.getD]using this (by simpa[List.getD]using hi)⟩;have h0:=h.2 0;simp only[List.getD,List.getElem?_cons_zero,Option.getD_some]at h0;have hcle:T.count true<=T'.count true:=by
    by_cases e:T=T'
    ·rw[e];exact Nat.le_refl _
    exact Nat.le_of_lt (ih hl e)
   rw[List.count_cons,List.count_cons];cases x with
   |true=>
    rw[h0 rfl];have hne':¬T=T':=fun e=>hne (by rw[e,h0 rfl])
    have:=ih hl hne';simp;omega
   |false=>
    cases y with
    |true=>simp;omega
    |false=>
     have hne':¬T=T':=fun e=>hne (by rw[e])
     have:=ih hl hne';simp;omega
def bZ(n:Nat)(toq:Nat->Li)(fnd:Int->Option Nat):Nat->List Bool
 |0=>List.replicate n false
 |r+1=>(List.range n).foldl (aX toq fnd) (bZ n toq fnd r)
theorem mE(n:Nat)(toq:Nat->Li)(fnd:Int->Option Nat)(r:Nat):(bZ n toq fnd r).length=n/\lK toq fnd (bZ n toq fnd r):=by
 induction r with
 | zero=>exact⟨by simp[bZ],fun i hi=>by
   by_cases h:i<n
   ·simp[bZ,List.getD,h]at hi
   ·simp[bZ,List.getD,h]at hi⟩
 |succ r ih=>
  obtain⟨h1,h2⟩:=mZ (s:=List.range n) ih.2 (fun j hj=>by rw[ih.1];exact List.mem_range.1 hj);exact⟨h1.1.symm.trans ih.1,h2⟩
theorem SQ(n:Nat)(toq:Nat->Li)(fnd:Int->Option Nat):(List.range n).foldl (aX toq fnd) (bZ n toq fnd n)=bZ n toq fnd n:=by
 have key:∀r,(List.range n).foldl (aX toq fnd) (bZ n toq fnd r)=bZ n toq fnd r\/r<=(bZ n toq fnd r).count true:=by
  intro r;induction r with
  |zero=>exact .inr (Nat.zero_le _)
  |succ r ih=>
   rcases ih with ih|ih
   ·left
    show(List.range n).foldl (aX toq fnd) ((List.range n).foldl (aX toq fnd) (bZ n toq fnd r))=(List.range n).foldl (aX toq fnd) (bZ n toq fnd r)
    rw[ih,ih]
   obtain⟨l1,c1⟩:=mE n toq fnd r;obtain⟨h1,_⟩:=mZ (s:=List.range n) c1 (fun j hj=>by rw[l1];exact List.mem_range.1 hj);by_cases e:bZ n toq fnd r=(List.range n).foldl (aX toq fnd) (bZ n toq fnd r)
   ·left
    show(List.range n).foldl (aX toq fnd) ((List.range n).foldl (aX toq fnd) (bZ n toq fnd r))=(List.range n).foldl (aX toq fnd) (bZ n toq fnd r)
    rw[<-e,<-e]
   right;have:=u_ h1 e;show r+1<=((List.range n).foldl (aX toq fnd) (bZ n toq fnd r)).count true
   omega
 rcases key n with h|h
 ·exact h
 obtain⟨l1,c1⟩:=mE n toq fnd n;obtain⟨h1,_⟩:=mZ (s:=List.range n) c1 (fun j hj=>by rw[l1];exact List.mem_range.1 hj);by_cases e:bZ n toq fnd n=(List.range n).foldl (aX toq fnd) (bZ n toq fnd n)
 ·exact e.symm
 have h2:=u_ h1 e;have h3:=List.count_le_length (a:=true) (l:=(List.range n).foldl (aX toq fnd) (bZ n toq fnd n));rw[<-h1.1,l1]at h3;omega
theorem SL{frm:Nat->Int}{on:Int->Option (Li)}{cap:Int}(hat:∀i,i<n->on (frm i)=Z (toq i))(hfd:∀e m,fnd e=Z m->m<n/\frm m=e)(hall:∀i,i<n->∃v,Sz on cap (frm i) v):
  ∀i,i<n->(bZ n toq fnd n).getD i false=true:=by
 obtain⟨l1,c1⟩:=mE n toq fnd n;have hfix:=fun i(hi:i<n)=>JE c1 l1 (SQ n toq fnd) hi
 have key:∀{c v:Int},Sz on cap c v->∀i,i<n->frm i=c->(bZ n toq fnd n).getD i false=true:=by
  intro c v h;induction h with
  |leaf h=>
   intro i hi hc;subst hc;rw[hfix i hi];rcases h with h|h
   ·rw[hat i hi]at h;cases h
   rw[hat i hi]at h;injection h with h;unfold iG;rw[h];rfl
  | @node c to' vs h1 h2 h3 h4 ih=>
   intro i hi hc;subst hc;rw[hat i hi]at h1;injection h1 with h1;rw[hfix i hi];unfold iG;rw[List.all_eq_true];intro e he;cases hf:fnd e with
   |none=>rfl
   |some m=>
    obtain⟨hm,hfm⟩:=hfd e m hf;rw[h1]at he;obtain⟨j,hj,rfl⟩:=List.getElem_of_mem he;exact ih j hj (by omega) m hm hfm
 intro i hi;obtain⟨v,h⟩:=hall i hi;exact key h i hi rfl
end
section
structure eQ(on:Int->Option (Li))(cap mx:Int)(mk:Int->Option Int)(cyc lng:Bool):Prop where
 bd:∀c k,mk c=Z k->-1<=k/\k<=cap
 fin:cyc=false->∀c k,mk c=Z k->k≠-1->Sz on cap c k
 cy:cyc=true->∃x,bR on x x
 lg1:lng=true->∃c k,mk c=Z k/\mx<k
 lg2:∀c k,mk c=Z k->mx<k->lng=true
 nd:∀c k,mk c=Z k->∃toq,on c=Z toq/\toq≠[]
structure dW(mk mk':Int->Option Int):Prop where
 old:∀c k,mk c=Z k->mk' c=Z k
 new:∀c,mk c=N->mk' c≠Z (-1)
variable {on:Int->Option (Li)}{cap mx:Int}{mk mk' mk'':Int->Option Int}{cyc lng cyc':Bool}
theorem dW.refl(mk:Int->Option Int):dW mk mk:=⟨fun _ _ h=>h,fun c h e=>by rw[h]at e;cases e⟩
theorem dW.trans(h:dW mk mk')(k:dW mk' mk''):dW mk mk'':=by
 refine⟨fun c v e=>k.old c v (h.old c v e),fun c e e'=>?_⟩;cases hm:mk' c with
 |none=>exact k.new c hm e'
 |some v=>
  have:=k.old c v hm;rw[e']at this;injection this with this;subst this;exact h.new c e hm
def dA(mk:Int->Option Int)(c k:Int):Int->Option Int:=fun x=>if x=c then Z k else mk x
theorem gS(mk:Int->Option Int)(c k:Int):dA mk c k c=Z k:=by simp[dA]
theorem dV(mk:Int->Option Int){c x:Int}(k:Int)(h:¬x=c):dA mk c k x=mk x:=by simp[dA,h]
theorem eQ.begin(h:eQ on cap mx mk cyc lng){c:Int}{toq:Li}(hc:on c=Z toq)(ht:toq≠[])(hn:mk c=N)(hcap:1<=cap)(hmx:0<=mx):eQ on cap mx (dA mk c (-1)) cyc lng:=by
 refine⟨fun x k hx=>?_,fun hf x k hx hk=>?_,h.cy,fun hl=>?_,fun x k hx hk=>?_,fun x k hx=>?_⟩
 ·by_cases e:x=c
  ·subst e;rw[gS]at hx;injection hx with hx;omega
  rw[dV mk _ e]at hx;exact h.bd x k hx
 ·by_cases e:x=c
  ·subst e;rw[gS]at hx;injection hx with hx;exact absurd hx.symm hk
  rw[dV mk _ e]at hx;exact h.fin hf x k hx hk
 ·obtain⟨x,k,h1,h2⟩:=h.lg1 hl
  refine⟨x,k,?_,h2⟩;rw[dV mk _ (fun e=>by rw[e,hn]at h1;cases h1)];exact h1
 ·by_cases e:x=c
  ·subst e;rw[gS]at hx;injection hx with hx;omega
  rw[dV mk _ e]at hx;exact h.lg2 x k hx hk
 by_cases e:x=c
 ·subst e;exact⟨toq,hc,ht⟩
 rw[dV mk _ e]at hx;exact h.nd x k hx
theorem eQ.finish(h:eQ on cap mx mk cyc lng){c s:Int}{toq:Li}(hc:on c=Z toq)(ht:toq≠[])(hm:mk c=Z (-1))(hs:1<=s/\s<=cap)(hz:cyc=false->Sz on cap c s)(hmx:0<=mx):
  eQ on cap mx (dA mk c s) cyc (lng||decide (mx<s)):=by
 refine⟨fun x k hx=>?_,fun hf x k hx hk=>?_,h.cy,fun hl=>?_,fun x k hx hk=>?_,fun x k hx=>?_⟩
 ·by_cases e:x=c
  ·subst e;rw[gS]at hx;injection hx with hx;omega
  rw[dV mk _ e]at hx;exact h.bd x k hx
 ·by_cases e:x=c
  ·subst e;rw[gS]at hx;injection hx with hx;subst hx;exact hz hf
  rw[dV mk _ e]at hx;exact h.fin hf x k hx hk
 ·rw[Bool.or_eq_true,decide_eq_true_eq]at hl
  rcases hl with hl|hl
  ·obtain⟨x,k,h1,h2⟩:=h.lg1 hl
   refine⟨x,k,?_,h2⟩;rw[dV mk _ (fun e=>by rw[e,hm]at h1;injection h1 with h1;omega)];exact h1
  exact⟨c,s,gS mk c s,hl⟩
 ·rw[Bool.or_eq_true,decide_eq_true_eq]
  by_cases e:x=c
  ·subst e;rw[gS]at hx;injection hx with hx;right;omega
  rw[dV mk _ e]at hx;exact .inl (h.lg2 x k hx hk)
 by_cases e:x=c
 ·subst e;exact⟨toq,hc,ht⟩
 rw[dV mk _ e]at hx;exact h.nd x k hx
theorem eQ.meet(h:eQ on cap mx mk cyc lng){c k:Int}(hm:mk c=Z k)(hp:mk c=Z (-1)->bR on c c):eQ on cap mx mk (cyc||(k==-1)) lng:=by
 refine⟨h.bd,fun hf=>h.fin (by simp at hf;exact hf.1),fun hc=>?_,h.lg1,h.lg2,h.nd⟩;rw[Bool.or_eq_true]at hc;rcases hc with hc|hc
 ·exact h.cy hc
 simp at hc;subst hc;exact⟨c,hp hm⟩
def unmarked(fs:Li)(mk:Int->Option Int):Nat:=(fs.filter (fun f=>(mk f).isNone)).length
theorem pJ{fs:Li}(h:∀c,mk' c=N->mk c=N):unmarked fs mk'<=unmarked fs mk:=by
 unfold unmarked;induction fs with
 |nil=>simp
 |cons f fs ih=>
  rw[List.filter_cons,List.filter_cons];by_cases h1:mk' f=N
  ·rw[if_pos (by simp[h1]),if_pos (by simp[h f h1])];simpa using ih
  rw[if_neg (by simpa using h1)];split
  ·simp;omega
  exact ih
theorem dW.unmarked(h:dW mk mk')(fs:Li):Go.Proofs.YtkhmjidaeliccaaGreatDoor.unmarked fs mk'<=Go.Proofs.YtkhmjidaeliccaaGreatDoor.unmarked fs mk:=pJ fun c e=>by
 cases hm:mk c with
 |none=>rfl
 |some v=>rw[h.old c v hm]at e;cases e
theorem zX{fs:Li}{c k:Int}(hf:c∈fs)(hn:mk c=N):unmarked fs (dA mk c k)<unmarked fs mk:=by
 have hle:∀l:Li,unmarked l (dA mk c k)<=unmarked l mk:=fun l=>pJ fun x e=>by
  by_cases e':x=c
  ·subst e';exact hn
  rw[dV mk _ e']at e;exact e
 induction fs with
 |nil=>cases hf
 |cons f fs ih=>
  have h1:=hle fs;unfold unmarked at *;rw[List.filter_cons,List.filter_cons];by_cases e:f=c
  ·subst e
   rw[if_neg (by simp[gS]),if_pos (by simp[hn])];simp;omega
  have hf':c∈fs:=by
   rcases List.mem_cons.1 hf with h|h
   ·exact absurd h.symm e
   exact h
  have:=ih hf';by_cases hm:mk f=N
  ·rw[if_pos (by simp[dV mk _ e,hm]),if_pos (by simp[hm])];simpa using this
  rw[if_neg (by simpa[dV mk _ e]using hm),if_neg (by simpa using hm)];exact this
end
end
section
open Go.RowKit
section
variable {P:Program}{f:FuncId}{args:Array Value}{w:Wv}{a n:Nat}{v:Value}
theorem RJ(h:Calls P f args (w.drewN (a+n)) fun e w'=>e=.returned v/\w.drewN (a+n)=w'):Calls P f args (w.drewN (a+n)) fun e w''=>e=.returned v/\∃m,w''=w.drewN (a+m):=
 h.mono fun _ _⟨he,hm⟩=>⟨he,n,hm.symm⟩
theorem yK(h:Calls P f args (w.drewN n) fun e w'=>e=.returned v/\Qt (w.drewN n) w'):Calls P f args (w.drewN n) fun e w''=>e=.returned v/\∃m,w''=w.drewN m:=
 h.mono fun _ _⟨he,q,hm⟩=>⟨he,n+q,by rw[hm,World.drewN_drewN]⟩
end
def cW(x y:Int):Int:=if x<y then -1 else if y<x then 1 else 0
theorem rU(x:Int)(w:Wv):Calls prog 168 #[I J x] w fun e w'=>e=.returned (.bool false)/\w=w':=by
 have h:(x !=x)=false:=by simp
 go_enter func168,ntmps168;go_wp2;go_ret;exact⟨rfl,rfl⟩
theorem kV(x y:Int)(w:Wv):Calls prog 124 #[I J x,I J y] w fun e w'=>e=.returned (I J (cW x y))/\w=w':=by
 unfold cW;by_cases h1:x<y
 ·rw[if_pos h1]
  go_enter func124,ntmps124;go_wp2_with(go_at_call 168;refine(rU _ _).mono ?_;rintro e w' ⟨rfl,rfl⟩);go_ret;exact⟨rfl,rfl⟩
 rw[if_neg h1];by_cases h2:y<x
 ·rw[if_pos h2]
  go_enter func124,ntmps124;go_wp2_with(go_at_call 168;refine(rU _ _).mono ?_;rintro e w' ⟨rfl,rfl⟩);go_ret;exact⟨rfl,rfl⟩
 rw[if_neg h2];go_enter func124,ntmps124;go_wp2_with(go_at_call 168;refine(rU _ _).mono ?_;rintro e w' ⟨rfl,rfl⟩);go_ret;exact⟨rfl,rfl⟩
theorem FX(xs ys:Li)(k:Nat)(h:k=xs.length\/k=ys.length)(h1:k<=xs.length)(h2:k<=ys.length):aA (xs.drop k) (ys.drop k)=cW (xs.length:Int) (ys.length:Int):=by
 rw[qV xs ys k h h1 h2];unfold cW;simp only[Int.ofNat_lt]
theorem FZ(xs ys:Li)(k:Nat)(h1:k<xs.length)(h2:k<ys.length)(h:xs[k]≠ys[k]):aA (xs.drop k) (ys.drop k)=cW xs[k] ys[k]:=by
 rw[qU xs ys k h1 h2];unfold cW;split
 ·rfl
 split
 ·rfl
 omega
theorem vA(A B:Oa)(n m c d:Nat)(xs ys:Li)(w:Wv)(hA:aB w A xs)(hB:aB w B ys)(hn:xs.length=n)(hm:ys.length=m)
  (hn':n<=9223372036854775807) (hm':m<=9223372036854775807) :
  Calls prog 70 #[H A n c,H B m d] w fun e w'=>e=.returned (I J (aA xs ys))/\Qt w w':=by
 subst hn hm;go_enter func70,ntmps70;go_wp2_with fail
 all_goals
  go_loopw [5,11] (fun _ i wr=>∃k:Nat,k<=xs.length/\k<=ys.length/\i=I J k/\Qt w wr/\aA xs ys=aA (xs.drop k) (ys.drop k)) (fun _ i _=>xs.length-(intOf i).toNat)
  case atStart=>exact⟨0,Nat.zero_le _,Nat.zero_le _,rfl,Qt.refl _,rfl⟩
  obtain⟨k,hk1,hk2,rfl,⟨q,rfl⟩,hcmp⟩:=hrel;have HC:=G hcmp;clear hcmp;by_cases hlt:k<xs.length/\k<ys.length
  ·obtain⟨h1,h2⟩:=hlt
   obtain⟨b,o,rfl,hc⟩:=hA.at h1;obtain⟨b',o',rfl,hc'⟩:=hB.at h2;have hx:=hc k h1;have hy:=hc' k h2;have HS:=G (qU xs ys k h1 h2);have HN:=G (FZ xs ys k h1 h2);clear hc hc';generalize xs[k]=x at *;generalize ys[k]=y at *;by_cases hxy:x=y
   ·have hne:(x !=y)=false:=by simpa using hxy
    have HXY:=G hxy;clear hxy;go_wp2;go_quiet(fail);go_wp2;go_roundw
    case rel=>exact⟨k+1,by omega,by omega,by go_num,by repeat(first|exact Qt.refl _|refine Qt.drewN ?_ _),by rw[HC.out,HS.out,if_neg (by have:=HXY.out;omega),if_neg (by have:=HXY.out;omega)]⟩
    simp[intOf];omega
   have hne:(x !=y)=true:=by simpa using hxy
   have HXY:=G hxy;clear hxy;go_wp2;go_quiet(fail);go_wp2;go_quiet((go_at_call 124;exact RJ (kV _ _ _)));go_wp2;go_ret;exact⟨aQ (by rw[HC.out,HN.out HXY.out]),by repeat(first|exact Qt.refl _|refine Qt.drewN ?_ _)⟩
  have HL:=G (FX xs ys k (by omega) hk1 hk2);go_wp2_with fail;refine(kV _ _ _).mono ?_;rintro e w' ⟨rfl,rfl⟩;go_wp2_with fail;go_ret;exact⟨aQ (by rw[HC.out,HL.out]),by repeat(first|exact Qt.refl _|refine Qt.drewN ?_ _)⟩
end
section
section
variable {P:Program}{ops:Array Oper}{Q:Exit->Act->Wv->Prop}{md:Region.Mode}{S:Wv->Prop}
theorem i_{i:Nat}{oi:Oper}{v:Value}{fuel:Nat}{listed:Array Bool}{a:Act}{w:Wv}(d:Option Tmp)(hi:ops[i]?=Z oi)(hd:oi.dst=d)
  (hs:Region.noSelect ops=true) (hf:Region.free md ops listed i=true) (hr:(Region.ready md ops listed).contains i=true)
  (hQ:∀c a w,Q (.panic c) (a.put d v) w->Q (.panic c) a w) (hw:Region.wanted oi (yielded ops a.tmps)=true) (hS:S w) (hv:∀w,S w->(execOp a.eval oi).run P w=.ok (.value v) w)
  (h:wpAnyH P md ops Q S fuel (listed.setIfInBounds i true) (a.put d v) w):wpAnyH P md ops Q S (fuel+1) listed a w:=by
 subst hd;exact wpAnyH_take hi hs hf hr hQ (Or.inl ⟨hw,hv⟩) hS h
theorem DG{i:Nat}{oi:Oper}{fuel:Nat}{listed:Array Bool}{a:Act}{w:Wv}(d:Option Tmp)(hi:ops[i]?=Z oi)(hd:oi.dst=d)
  (hs:Region.noSelect ops=true) (hf:Region.free md ops listed i=true) (hr:(Region.ready md ops listed).contains i=true)
  (hQ:∀c a w,Q (.panic c) (a.put d undef) w->Q (.panic c) a w) (hw:Region.wanted oi (yielded ops a.tmps)=false) (hS:S w)
  (h:wpAnyH P md ops Q S fuel (listed.setIfInBounds i true) (a.put d undef) w):wpAnyH P md ops Q S (fuel+1) listed a w:=by
 subst hd;exact wpAnyH_take hi hs hf hr hQ (Or.inr ⟨hw,rfl⟩) hS h
theorem C_{i:Nat}{oi:Oper}{fuel:Nat}{listed:Array Bool}{a:Act}{w:Wv}(d:Option Tmp){f:FuncId}{args:Array Value}{v:Value}(hi:ops[i]?=Z oi)(hd:oi.dst=d)
  (hr:Region.ready md ops listed=[i]) (hw:Region.wanted oi (yielded ops a.tmps)=true) (he:(execOp a.eval oi).run P w=.ok (.enter f args) w)
  (hc:Calls P f args w (fun e w'=>e=.returned v/\S w'))
  (h:∀w',S w'->wpAnyH P md ops Q S fuel (listed.setIfInBounds i true) (a.put d v) w'):wpAnyH P md ops Q S (fuel+1) listed a w:=by
 subst hd;refine wpAnyH_ready hr (by simp) (AllReadyH.cons hi (fun K hK=>?_) AllReadyH.nil);rw[if_pos hw];unfold Oper.wp;rw[he];simp only[Oper.upon];refine hc.mono ?_;rintro e w' ⟨rfl,hS'⟩;exact hK.out _ _ hS' (fun hh=>h w' hh)
end
section
variable {P:Program}{ops:Array Oper}{Q:Exit->Act->Wv->Prop}{md:Region.Mode}{S:Wv->Prop}
theorem tK{v:Value}(i k:Nat){oi:Oper}{fuel:Nat}{listed l':Array Bool}{a a':Act}{w:Wv}
  (h:wpAnyH P md ops Q S fuel l' a' w) (hi:ops[i]?=Z oi:=by rfl) (hd:oi.dst=Z k:=by rfl)
  (hs:Region.noSelect ops=true:=by kernel_rfl) (hf:Region.free md ops listed i=true:=by kernel_rfl) (hr:(Region.ready md ops listed).contains i=true:=by kernel_rfl)
  (hQ:∀c a w,Q (.panic c) (a.put (Z k) v) w->Q (.panic c) a w:=by exact fun _ _ _ h=>h) (hw:Region.wanted oi (yielded ops a.tmps)=true:=by rfl) (hS:S w:=by assumption)
  (hv:∀w,S w->(execOp a.eval oi).run P w=.ok (.value v) w:=by intro w hSw;(try dsimp only at hSw);go_split_ands;go_simp;try(with_reducible rfl))
  (hl:listed.setIfInBounds i true=l':=by(try simp only[sA,sB,sC]);first|done|rfl)
  (ha:a.put (Z k) v=a':=by(try simp only[Act.put,sA,sB,sC]);first|done|rfl):wpAnyH P md ops Q S (fuel+1) listed a w:=by
 subst hl;subst ha;exact i_ (Z k) hi hd hs hf hr hQ hw hS hv h
theorem sK(i k:Nat){oi:Oper}{fuel:Nat}{listed l':Array Bool}{a a':Act}{w:Wv}
  (h:wpAnyH P md ops Q S fuel l' a' w) (hi:ops[i]?=Z oi:=by rfl) (hd:oi.dst=Z k:=by rfl)
  (hs:Region.noSelect ops=true:=by kernel_rfl) (hf:Region.free md ops listed i=true:=by kernel_rfl) (hr:(Region.ready md ops listed).contains i=true:=by kernel_rfl)
  (hQ:∀c a w,Q (.panic c) (a.put (Z k) undef) w->Q (.panic c) a w:=by exact fun _ _ _ h=>h) (hw:Region.wanted oi (yielded ops a.tmps)=false:=by rfl) (hS:S w:=by assumption)
  (hl:listed.setIfInBounds i true=l':=by(try simp only[sA,sB,sC]);first|done|rfl)
  (ha:a.put (Z k) undef=a':=by(try simp only[Act.put,sA,sB,sC]);first|done|rfl):wpAnyH P md ops Q S (fuel+1) listed a w:=by
 subst hl;subst ha;exact DG (Z k) hi hd hs hf hr hQ hw hS h
theorem tV(i k:Nat)(v:Value){oi:Oper}{fuel:Nat}{listed:Array Bool}{a:Act}{w:Wv}
  (hv:∀w,S w->(execOp a.eval oi).run P w=.ok (.value v) w) (h:wpAnyH P md ops Q S fuel (listed.setIfInBounds i true) (a.put (Z k) v) w) (hi:ops[i]?=Z oi:=by rfl) (hd:oi.dst=Z k:=by rfl)
  (hs:Region.noSelect ops=true:=by kernel_rfl) (hf:Region.free md ops listed i=true:=by kernel_rfl) (hr:(Region.ready md ops listed).contains i=true:=by kernel_rfl)
  (hQ:∀c a w,Q (.panic c) (a.put (Z k) v) w->Q (.panic c) a w:=by exact fun _ _ _ h=>h) (hw:Region.wanted oi (yielded ops a.tmps)=true:=by rfl) (hS:S w:=by assumption):wpAnyH P md ops Q S (fuel+1) listed a w:=
 i_ (Z k) hi hd hs hf hr hQ hw hS hv h
end
end
section
open Go.RowKit Go.Maps Go.WideMaps
def lR(v:Value):Option (DataW Value×List MemPlace):=Z (.held v,[])
def aR{κ:Type}(P:Program)(k:TypeId)(kl:κ->Lit)(ok:κ->Prop)(w:Wv)(b n:Nat)(f:κ->Option Value):Prop:=
 ∃D:DataW Value,w.ownsMap P k lR b n D/\∀x,ok x->Maps.has D (kl x)=(f x).isSome/\∀z,D.atKey (kl x) (.held z)=.held ((f x).getD z)
section
variable {κ:Type}{P:Program}{k:TypeId}{kl:κ->Lit}{ok:κ->Prop}{w w':Wv}{b n:Nat}{f:κ->Option Value}
theorem aR.made(P:Program)(k:TypeId)(kl:κ->Lit)(ok:κ->Prop)(w:Wv):aR P k kl ok (w.alloc (.map #[] 0)) w.heap.size 0 (fun _=>N):=
 ⟨.map [],World.ownsMap_made w P k lR,fun _ _=>⟨rfl,fun _=>rfl⟩⟩
theorem aR.lt(h:aR P k kl ok w b n f):b<w.heap.size:=h.elim fun _ h=>h.1.lt
theorem aR.kept{row:Option Nat}(h:aR P k kl ok w b n f)(hg:w.grownBy w' row)(hne:Z b≠row):aR P k kl ok w' b n f:=by
 obtain⟨D,h1,h2⟩:=h;exact⟨D,h1.kept hg hne,h2⟩
theorem aR.below(h:aR P k kl ok w b n f)(hb:By w w'):aR P k kl ok w' b n f:=
 h.kept (row:=N) ⟨hb.os,hb.tape,hb.output,hb.size,fun k hk _=>hb.block k hk⟩ (by simp)
theorem aR.alloc(h:aR P k kl ok w b n f)(o:Obj):aR P k kl ok (w.alloc o) b n f:=h.below (ba _ _)
theorem aR.mono(h:aR P k kl ok w b n f){m:Nat}(hm:n<=m):aR P k kl ok w b m f:=by
 obtain⟨D,h1,h2⟩:=h;exact⟨D,h1.mono hm,h2⟩
theorem aR.ext(h:aR P k kl ok w b n f){g:κ->Option Value}(hg:∀x,ok x->g x=f x):aR P k kl ok w b n g:=by
 obtain⟨D,h1,h2⟩:=h;exact⟨D,h1,fun x hx=>by rw[hg x hx];exact h2 x hx⟩
theorem aR.look{t e:TypeId}(h:aR P k kl ok w b n f)(K:Keyed P k)(ht:P.underlying t=Z (.map k e)){z:Value}(hz:(zeroValue e).run P w=.ok z w){key:Value}{x:κ}(hx:ok x)(hkey:keyOf P k key=Z (kl x)):
  (Instr.lookup t (.map (Z b)) key false).run P w=.ok ((f x).getD z) w:=by
 obtain⟨D,h1,h2⟩:=h;obtain⟨v,ps,hrun,hv⟩:=h1.lookup K ht hz (zd:=.held z) (zp:=[]) rfl hkey;rw[(h2 x hx).2]at hv;simp only[lR,Option.some.injEq,Prod.mk.injEq,DataW.held.injEq]at hv;rw[hrun,hv.1]
theorem aR.lookOk{t e:TypeId}(h:aR P k kl ok w b n f)(K:Keyed P k)(ht:P.underlying t=Z (.map k e)){z:Value}(hz:(zeroValue e).run P w=.ok z w){key:Value}{x:κ}(hx:ok x)(hkey:keyOf P k key=Z (kl x)):
  (Instr.lookup t (.map (Z b)) key true).run P w=.ok (.tuple #[(f x).getD z,.bool (f x).isSome]) w:=by
 obtain⟨D,h1,h2⟩:=h;obtain⟨v,ps,hrun,hv⟩:=h1.look_ok K ht hz (zd:=.held z) (zp:=[]) rfl hkey;rw[(h2 x hx).2]at hv;simp only[lR,Option.some.injEq,Prod.mk.injEq,DataW.held.injEq]at hv;rw[hrun,hv.1,(h2 x hx).1]
theorem aR.put[DecidableEq κ]{t e:TypeId}(h:aR P k kl ok w b n f)(K:Keyed P k)(ht:P.underlying t=Z (.map k e))(hn:n<maxLen){key v:Value}{x:κ}(hx:ok x)(hkey:keyOf P k key=Z (kl x))
  (hinj:∀y,ok y->kl y=kl x->y=x) :
  ∃w',(Instr.mapUpdate t (.map (Z b)) key v).run P w=.ok () w'/\aR P k kl ok w' b (n+1) (fun y=>if y=x then Z v else f y)/\w.grownBy w' (Z b):=by
 obtain⟨D,h1,h2⟩:=h;obtain⟨w',hrun,r1,r2⟩:=h1.update K ht hn hkey (val:=v) (d:=.held v) (ps:=[]) rfl;refine⟨w',hrun,⟨_,r1,fun y hy=>?_⟩,r2⟩;dsimp only;by_cases e:y=x
 ·subst e
  rw[if_pos rfl];exact⟨by rw[has_put_same h1.isMap (K.key hkey)];rfl,fun z=>atKey_put_same h1.isMap (K.key hkey) _ _⟩
 rw[if_neg e];have hne:kl y≠kl x:=fun e'=>e (hinj y hy e')
 rw[has_put_other hne];exact⟨(h2 y hy).1,fun z=>(atKey_put_other hne _ _).trans ((h2 y hy).2 z)⟩
end
section
variable {κ:Type}{P:Program}{w:Wv}{ops:Array Oper}{rest:List Oper}{o:Oper}{a:Act}{Q:Exit->Act->Wv->Prop}
variable {k:TypeId}{kl:κ->Lit}{ok:κ->Prop}{b n:Nat}{f:κ->Option Value}
theorem pM(hg:o.guard=N)(m y:Operand)(t:TypeId)(hop:o.op=Op.lookup t m y false){e:TypeId}(h:aR P k kl ok w b n f)(K:Keyed P k)(ht:P.underlying t=Z (.map k e)){z:Value}(hz:(zeroValue e).run P w=.ok z w)
  (hm:a.eval m=.map (Z b)) {key:Value} {x:κ} (hy:a.eval y=key) (hx:ok x) (hkey:keyOf P k key=Z (kl x))
  (hK:wpList P ops Q rest (a.put o.dst ((f x).getD z)) w):wpList P ops Q (o::rest) a w:=by
 refine wpList_plain hg fun K' hK'=>?_
 unfold Oper.wp;simp[execOp,hop,hm,hy,h.look K ht hz hx hkey,Result.andThen];exact hK' _ _ hK
theorem lJ(hg:o.guard=N)(m y:Operand)(t:TypeId)(hop:o.op=Op.lookup t m y true){e:TypeId}(h:aR P k kl ok w b n f)(K:Keyed P k)(ht:P.underlying t=Z (.map k e)){z:Value}(hz:(zeroValue e).run P w=.ok z w)
  (hm:a.eval m=.map (Z b)) {key:Value} {x:κ} (hy:a.eval y=key) (hx:ok x) (hkey:keyOf P k key=Z (kl x))
  (hK:wpList P ops Q rest (a.put o.dst (.tuple #[(f x).getD z,.bool (f x).isSome])) w):wpList P ops Q (o::rest) a w:=by
 refine wpList_plain hg fun K' hK'=>?_
 unfold Oper.wp;simp[execOp,hop,hm,hy,h.lookOk K ht hz hx hkey,Result.andThen];exact hK' _ _ hK
theorem nT[DecidableEq κ](hg:o.guard=N)(m y v:Operand)(t:TypeId)(hop:o.op=Op.mapUpdate t m y v){e:TypeId}(h:aR P k kl ok w b n f)(K:Keyed P k)(ht:P.underlying t=Z (.map k e))(hn:n<maxLen)
  (hm:a.eval m=.map (Z b)) {key val:Value} {x:κ} (hy:a.eval y=key) (hv:a.eval v=val) (hx:ok x) (hkey:keyOf P k key=Z (kl x)) (hinj:∀y,ok y->kl y=kl x->y=x)
  (hK:∀w',aR P k kl ok w' b (n+1) (fun y=>if y=x then Z val else f y)->w.grownBy w' (Z b)->wpList P ops Q rest (a.put o.dst undef) w'):wpList P ops Q (o::rest) a w:=by
 refine wpList_plain hg fun K' hK'=>?_
 obtain⟨w',hrun,r1,r2⟩:=h.put K ht hn (v:=val) hx hkey hinj;unfold Oper.wp;simp[execOp,hop,hm,hy,hv,hrun,Result.andThen];exact hK' _ _ (hK w' r1 r2)
end
theorem pL{z:Int}(h1:-9223372036854775808<=z)(h2:z<=9223372036854775807):(Lit.int .i64 z).wf=true:=by
 simp only[Lit.wf,Bool.and_eq_true,decide_eq_true_eq];exact⟨h1,h2⟩
theorem lO{B:Nat}{a w w':Wv}{g:Nat}(h:Below B a w)(hg:w.grownBy w' (Z g))(hb:B<=g)(hs:B<=w.heap.size):Below B a w':=
 h.grown hg hs fun k e=>by injection e with e;omega
def nO(s:ByteArray):Lit:=.string s.data.toList
def sok(s:ByteArray):Prop:=s.size<=maxLen
theorem UP{s t:ByteArray}(h:nO s=nO t):s=t:=by
 injection h with h;cases s;cases t
 simp only[ByteArray.mk.injEq];exact Array.toList_inj.1 h
abbrev AY(P:Program)(k:TypeId)(w:Wv)(b n:Nat)(f:ByteArray->Option Value):Prop:=aR P k nO sok w b n f
def Box(w:Wv)(b:Nat)(t:TypeId)(cs:Lv):Prop:=w.heap[b]?=Z (.cells cs.toArray t (0,0))
section
variable {w w':Wv}{b:Nat}{t:TypeId}{cs:Lv}
theorem Box.lt(h:Box w b t cs):b<w.heap.size:=by
 rcases Nat.lt_or_ge b w.heap.size with g|g
 ·exact g
 unfold Box at h;rw[Array.getElem?_eq_none g]at h;cases h
theorem Box.cell(h:Box w b t cs){i:Nat}{v:Value}(hv:cs[i]?=Z v):w.cell? ⟨b,i,N⟩=Z v:=by
 unfold Box at h;simp[World.cell?,h,hv]
theorem Box.free(h:Box w b t cs)(i:Nat):w.frozen? ⟨b,i,N⟩=false:=by
 unfold Box at h;simp[World.frozen?,h]
theorem Box.new(w:Wv)(t:TypeId)(cs:Lv){b:Nat}(hb:b=w.heap.size):Box (w.alloc (.cells cs.toArray t)) b t cs:=by
 subst hb;show(w.heap.push _)[w.heap.size]?=_
 simp
theorem Box.below{B:Nat}(h:Box w b t cs)(hb:Below B w w')(hg:b<B):Box w' b t cs:=(hb.block b hg).trans h
theorem Box.grown{row:Option Nat}(h:Box w b t cs)(hg:w.grownBy w' row)(hne:Z b≠row):Box w' b t cs:=(hg.block b h.lt hne).trans h
theorem Box.set(h:Box w b t cs)(i:Nat)(u:Value):Box (w.setCell ⟨b,i,N⟩ u) b t (cs.set i u):=by
 unfold Box at h|-;simp[World.setCell,Array.getElem?_modify,h]
end
theorem bT(w:Wv)(p:Addr)(u:Value):w.grownBy (w.setCell p u) (Z p.block):=
 ⟨rfl,rfl,rfl,by simp[World.setCell],fun k _ hne=>Below.heap_setCell w p u k (fun e=>hne (by rw[e]))⟩
def iB(U:Nat)(w w':Wv):Prop:=w.heap.size<=w'.heap.size/\∀b,b<w.heap.size->b≠U->w'.heap[b]?=w.heap[b]?
section
variable {U:Nat}{a b c:Wv}
theorem iB.refl(U:Nat)(a:Wv):iB U a a:=⟨Nat.le_refl _,fun _ _ _=>rfl⟩
theorem iB.below(h:iB U a b)(hb:By b c):iB U a c:=⟨Nat.le_trans h.1 hb.size,fun q hq hn=>(hb.block q (Nat.lt_of_lt_of_le hq h.1)).trans (h.2 q hq hn)⟩
theorem iB.grown(h:iB U a b)(hg:b.grownBy c (Z U)):iB U a c:=⟨Nat.le_trans h.1 hg.size,fun q hq hn=>(hg.block q (Nat.lt_of_lt_of_le hq h.1) (fun e=>hn (by injection e))).trans (h.2 q hq hn)⟩
theorem iB.sl{A:Oa}{cs:Lv}(h:iB U a b)(hU:∀o,a.cell? ⟨U,o,N⟩=N)(hs:Sl a A cs):Sl b A cs:=fun hne=>by
 obtain⟨q,o,rfl,hc⟩:=hs hne;refine⟨q,o,rfl,fun j u hu=>?_⟩;have h1:=hc j u hu;have hq:q≠U:=fun e=>by rw[e,hU]at h1;cases h1
 exact(World.cell?_of_block (h.2 q (World.block_lt_of_cell? a _ h1) hq)).trans h1
end
theorem aR.nocell{κ:Type}{P:Program}{k:TypeId}{kl:κ->Lit}{ok:κ->Prop}{w:Wv}{b n:Nat}{f:κ->Option Value}(h:aR P k kl ok w b n f)(o:Nat):w.cell? ⟨b,o,N⟩=N:=by
 obtain⟨D,⟨es,clock,h1,_⟩,_⟩:=h;simp[World.cell?,h1]
section
variable {P:Program}{ops:Array Oper}{Q:Exit->Act->Wv->Prop}{md:Region.Mode}{S:Wv->Prop}
theorem kT{R:Wv->Prop}{i:Nat}{oi:Oper}{fuel:Nat}{listed:Array Bool}{a:Act}{w:Wv}(d:Option Tmp){f:FuncId}{args:Array Value}{v:Value}(hi:ops[i]?=Z oi)(hd:oi.dst=d)
  (hr:Region.ready md ops listed=[i]) (hw:Region.wanted oi (yielded ops a.tmps)=true) (he:(execOp a.eval oi).run P w=.ok (.enter f args) w)
  (hc:Calls P f args w (fun e w'=>e=.returned v/\S w'/\R w'))
  (h:∀w',S w'->R w'->wpAnyH P md ops Q S fuel (listed.setIfInBounds i true) (a.put d v) w'):wpAnyH P md ops Q S (fuel+1) listed a w:=by
 subst hd;refine wpAnyH_ready hr (by simp) (AllReadyH.cons hi (fun K hK=>?_) AllReadyH.nil);rw[if_pos hw];unfold Oper.wp;rw[he];simp only[Oper.upon];refine hc.mono ?_;rintro e w' ⟨rfl,hS',hR'⟩;exact hK.out _ _ hS' (fun hh=>h w' hh hR')
theorem oF{i:Nat}{oi:Oper}{fuel:Nat}{listed:Array Bool}{a:Act}{w:Wv}(hi:ops[i]?=Z oi)
  (hr:Region.ready md ops listed=[i]) (hw:Region.wanted oi (yielded ops a.tmps)=true)
  (h:∀K:Act->Wv->Prop,Shut (∀a w,S w->(S w->wpAnyH P md ops Q S fuel (listed.setIfInBounds i true) a w)->K a w)->Oper.wp P oi a w K Q):wpAnyH P md ops Q S (fuel+1) listed a w:=by
 refine wpAnyH_ready hr (by simp) (AllReadyH.cons hi (fun K hK=>?_) AllReadyH.nil);rw[if_pos hw];exact h K hK
theorem mR{i:Nat}{oi:Oper}{fuel:Nat}{listed:Array Bool}{a:Act}{w w':Wv}{v:Value}(d:Option Tmp)(hi:ops[i]?=Z oi)(hd:oi.dst=d)
  (hr:Region.ready md ops listed=[i]) (hw:Region.wanted oi (yielded ops a.tmps)=true) (he:(execOp a.eval oi).run P w=.ok (.value v) w') (hS:S w')
  (h:wpAnyH P md ops Q S fuel (listed.setIfInBounds i true) (a.put d v) w'):wpAnyH P md ops Q S (fuel+1) listed a w:=by
 subst hd;refine oF hi hr hw (fun K hK=>?_);unfold Oper.wp;rw[he];simp only[Oper.upon];exact hK.out _ _ hS (fun _=>h)
theorem DD{κ:Type}[DecidableEq κ]{k:TypeId}{kl:κ->Lit}{ok:κ->Prop}{b n:Nat}{f:κ->Option Value}{i:Nat}{oi:Oper}{fuel:Nat}{listed:Array Bool}{a:Act}{w:Wv}(d:Option Tmp)(hi:ops[i]?=Z oi)(hd:oi.dst=d)
  (hr:Region.ready md ops listed=[i]) (hw:Region.wanted oi (yielded ops a.tmps)=true) (m y v:Operand) (t:TypeId) (hop:oi.op=Op.mapUpdate t m y v) {e:TypeId} (h:aR P k kl ok w b n f) (K:Keyed P k) (ht:P.underlying t=Z (.map k e)) (hn:n<maxLen)
  (hm:a.eval m=.map (Z b)) {key val:Value} {x:κ} (hy:a.eval y=key) (hv:a.eval v=val) (hx:ok x) (hkey:keyOf P k key=Z (kl x)) (hinj:∀y,ok y->kl y=kl x->y=x)
  (hS:∀w',w.grownBy w' (Z b)->S w')
  (hK:∀w',aR P k kl ok w' b (n+1) (fun y=>if y=x then Z val else f y)->w.grownBy w' (Z b)->wpAnyH P md ops Q S fuel (listed.setIfInBounds i true) (a.put d undef) w'):wpAnyH P md ops Q S (fuel+1) listed a w:=by
 subst hd;refine oF hi hr hw (fun K' hK'=>?_);obtain⟨w',hrun,r1,r2⟩:=h.put K ht hn (v:=val) hx hkey hinj;unfold Oper.wp;simp[execOp,hop,hm,hy,hv,hrun,Result.andThen];exact hK'.out _ _ (hS w' r2) (fun _=>hK w' r1 r2)
theorem DB{κ:Type}{k:TypeId}{kl:κ->Lit}{ok:κ->Prop}{b n:Nat}{f:κ->Option Value}{i:Nat}{oi:Oper}{v:Value}{fuel:Nat}{listed:Array Bool}{a:Act}{w:Wv}(d:Option Tmp)(hi:ops[i]?=Z oi)(hd:oi.dst=d)
  (hs:Region.noSelect ops=true) (hf:Region.free md ops listed i=true) (hr:(Region.ready md ops listed).contains i=true)
  (hQ:∀c a w,Q (.panic c) (a.put d v) w->Q (.panic c) a w) (hw:Region.wanted oi (yielded ops a.tmps)=true) (hS:S w)
  (m y:Operand) (t:TypeId) (hop:oi.op=Op.lookup t m y true) {e:TypeId} (h:∀w,S w->aR P k kl ok w b n f) (K:Keyed P k) (ht:P.underlying t=Z (.map k e)) {z:Value} (hz:∀w,(zeroValue e).run P w=.ok z w)
  (hm:a.eval m=.map (Z b)) {key:Value} {x:κ} (hy:a.eval y=key) (hx:ok x) (hkey:keyOf P k key=Z (kl x)) (hv:.tuple #[(f x).getD z,.bool (f x).isSome]=v)
  (hK:wpAnyH P md ops Q S fuel (listed.setIfInBounds i true) (a.put d v) w):wpAnyH P md ops Q S (fuel+1) listed a w:=by
 subst hv;refine i_ d hi hd hs hf hr hQ hw hS (fun w' hS'=>?_) hK;simp[execOp,hop,hm,hy,(h w' hS').lookOk K ht (hz w') hx hkey,Result.andThen]
theorem oE{R:Value->Wv->Prop}{i:Nat}{oi:Oper}{fuel:Nat}{listed:Array Bool}{a:Act}{w:Wv}(d:Option Tmp){f:FuncId}{args:Array Value}(hi:ops[i]?=Z oi)(hd:oi.dst=d)
  (hr:Region.ready md ops listed=[i]) (hw:Region.wanted oi (yielded ops a.tmps)=true) (he:(execOp a.eval oi).run P w=.ok (.enter f args) w)
  (hc:Calls P f args w (fun e w'=>∃v,e=.returned v/\S w'/\R v w'))
  (h:∀v w',S w'->R v w'->wpAnyH P md ops Q S fuel (listed.setIfInBounds i true) (a.put d v) w'):wpAnyH P md ops Q S (fuel+1) listed a w:=by
 subst hd;refine wpAnyH_ready hr (by simp) (AllReadyH.cons hi (fun K hK=>?_) AllReadyH.nil);rw[if_pos hw];unfold Oper.wp;rw[he];simp only[Oper.upon];refine hc.mono ?_;rintro e w' ⟨v,rfl,hS',hR'⟩;exact hK.out _ _ hS' (fun hh=>h v w' hh hR')
end
theorem Box.c{w:Wv}{b:Nat}{t:TypeId}{cs:Lv}(h:Box w b t cs)(i:Nat){v:Value}(hv:cs[i]?=Z v):w.cell? ⟨b,i,N⟩=Z v:=h.cell hv
section
variable {P:Program}{ops:Array Oper}{Q:Exit->Act->Wv->Prop}{md:Region.Mode}{S:Wv->Prop}
theorem qE{R:Value->Wv->Prop}(i k:Nat){oi:Oper}{fuel:Nat}{listed l':Array Bool}{a:Act}{a':Value->Act}{w:Wv}{f:FuncId}{args:Array Value}
  (hc:Calls P f args w (fun e w'=>∃v,e=.returned v/\S w'/\R v w')) (h:∀v w',S w'->R v w'->wpAnyH P md ops Q S fuel l' (a' v) w') (hi:ops[i]?=Z oi:=by rfl) (hd:oi.dst=Z k:=by rfl)
  (hr:Region.ready md ops listed=[i]:=by kernel_rfl) (hw:Region.wanted oi (yielded ops a.tmps)=true:=by rfl) (he:(execOp a.eval oi).run P w=.ok (.enter f args) w:=by go_simp)
  (hl:listed.setIfInBounds i true=l':=by(try simp only[sA,sB,sC]);first|done|rfl)
  (ha:∀v,a.put (Z k) v=a' v:=by intro v;(try simp only[Act.put,sA,sB,sC]);first|done|rfl):wpAnyH P md ops Q S (fuel+1) listed a w:=by
 subst hl;refine oE (Z k) hi hd hr hw he hc (fun v w' h1 h2=>?_);rw[ha];exact h v w' h1 h2
theorem qK{v:Value}(i k:Nat){oi:Oper}{fuel:Nat}{listed l':Array Bool}{a a':Act}{w:Wv}{f:FuncId}{args:Array Value}
  (hc:Calls P f args w (fun e w'=>e=.returned v/\S w')) (h:∀w',S w'->wpAnyH P md ops Q S fuel l' a' w') (hi:ops[i]?=Z oi:=by rfl) (hd:oi.dst=Z k:=by rfl)
  (hr:Region.ready md ops listed=[i]:=by kernel_rfl) (hw:Region.wanted oi (yielded ops a.tmps)=true:=by rfl) (he:(execOp a.eval oi).run P w=.ok (.enter f args) w:=by go_simp)
  (hl:listed.setIfInBounds i true=l':=by(try simp only[sA,sB,sC]);first|done|rfl)
  (ha:a.put (Z k) v=a':=by(try simp only[Act.put,sA,sB,sC]);first|done|rfl):wpAnyH P md ops Q S (fuel+1) listed a w:=by
 subst hl;subst ha;exact C_ (Z k) hi hd hr hw he hc h
end
theorem al1(w:Wv)(T:TypeId)(cs:Lv):∃W0,w.alloc (.cells cs.toArray T)=W0/\By w W0/\Box W0 w.heap.size T cs:=
 ⟨_,rfl,ba _ _,Box.new w T cs rfl⟩
theorem al2(w:Wv)(T:TypeId)(cs:Lv)(T1:TypeId)(cs1:Lv):∃W0,(w.alloc (.cells cs.toArray T)).alloc (.cells cs1.toArray T1)=W0/\By w W0/\Box W0 w.heap.size T cs/\Box W0 (w.heap.size+1) T1 cs1:=
 ⟨_,rfl,(ba _ _).alloc (by simp) _,(Box.new w T cs rfl).below (B:=w.heap.size+1) ((Below.refl _ _).alloc (by simp) _) (by omega),Box.new _ _ _ (by simp)⟩
theorem al3(w:Wv)(T:TypeId)(cs:Lv)(T1:TypeId)(cs1:Lv)(T2:TypeId)(cs2:Lv):∃W0,((w.alloc (.cells cs.toArray T)).alloc (.cells cs1.toArray T1)).alloc (.cells cs2.toArray T2)=W0/\By w W0/\Box W0 w.heap.size T cs/\Box W0 (w.heap.size+1) T1 cs1/\Box W0 (w.heap.size+1+1) T2 cs2:=
 ⟨_,rfl,((ba _ _).alloc (by simp) _).alloc (by simp<;>omega) _,
  ((Box.new w T cs rfl).below (B:=w.heap.size+1) ((Below.refl _ _).alloc (by simp) _) (by omega)).below (B:=w.heap.size+1+1) ((Below.refl _ _).alloc (by simp) _) (by omega),
  (Box.new _ T1 cs1 (by simp)).below (B:=w.heap.size+1+1) ((Below.refl _ _).alloc (by simp) _) (by omega),Box.new _ _ _ (by simp)⟩
end
end Go.Proofs.YtkhmjidaeliccaaGreatDoor
