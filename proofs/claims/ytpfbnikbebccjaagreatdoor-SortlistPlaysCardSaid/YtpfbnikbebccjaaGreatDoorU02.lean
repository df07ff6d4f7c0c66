import Derived.Test.YtpfbnikbebccjaaGreatDoorU00
import Derived.Test.YtpfbnikbebccjaaGreatDoorU01
import Derived.WalkKit
import Derived.Deep.QuietTactic
import Derived.BigQuiet
import Derived.Test.YtpfbnikbebccjaaGreatDoorProg
import Derived.Outline
import Derived.Deep.RegionHeld3
import Derived.Maps.OwnSet
import Derived.Maps.OwnOps
set_option maxRecDepth 100000
set_option maxHeartbeats 51200000
namespace Go.Proofs.YtpfbnikbebccjaaGreatDoor
open Option renaming none->N,some->Z
open Value renaming int->I,slice->H
open IntKind renaming i64->J
open Go.Proofs.Tryz
section
open Go.ChangeShapes Go.WideShapes Go.ChangeAt Go.RowKit
section
variable {H:Type}{enc:TypeId×Value->H}{w:Wv}{base:Nat}{spare:Nat->Bool}{held:Bool}{fuel:Nat}{cs:Lv}{x:DataW H×List MemPlace}
theorem mci:prog.cellsOf 3=1:=by kernel_rfl
theorem mcs:prog.cellsOf 9=1:=by kernel_rfl
theorem mcI:prog.cellsOf 49=1:=by kernel_rfl
theorem mcR:prog.cellsOf 24=1:=by kernel_rfl
theorem mcM:prog.cellsOf 23=1:=by kernel_rfl
theorem mcS:prog.cellsOf 26=1:=by kernel_rfl
theorem UJ(h:DataW.trod enc prog w base spare held fuel 49 cs=Z x):
  ∃A len cap,∃l:Li,cs=[.slice A len cap]/\l.length=len/\len<=cap/\cap<=9223372036854775807/\aA w A l:=by
 obtain⟨A,len,cap,l,h1,h2,h3,h4,h5,_⟩:=jF (α:=Int) (fun z=>[I J z]) 1 (by omega) (fun _=>rfl) (fun _=>True) underlying49 mci (fun fuel cs x hl hx=>by
  obtain⟨z,hz,_,_⟩:=DataW.trod_int underlying3 hx
  exact⟨z,hz,trivial⟩) h
 refine⟨A,len,cap,l,h1,h2,h3,h4,?_⟩;unfold cV aF at h5;unfold aA;rw[show l.map (Value.int .i64)=l.flatMap (fun z=>[I J z]) by clear h2 h5;induction l<;>simp_all];exact h5
instance:Inhabited Rg:=⟨⟨0,0⟩⟩
theorem UN(h:DataW.trod enc prog w base spare held fuel 24 cs=Z x):
  ∃A len cap,∃l:List Rg,cs=[.slice A len cap]/\l.length=len/\len<=cap/\cap<=9223372036854775807/\Rgs w A l/\∀_∈l,True:=by
 refine jF (α:=Rg) Rg.cells 2 (by omega) (fun _=>rfl) (fun _=>True) underlying24 (by kernel_rfl) (fun fuel cs x hl hx=>?_) h;obtain⟨xs,k,hk,hxy,_,hxl,hfs⟩:=DataW.trod_struct underlying126 hx;match xs,hxl,cs,hl with
 | [y0,y1],_,[v0,v1],_=>
  have g0:=hfs 0 _ rfl;have g1:=hfs 1 _ rfl;simp[mci]at g0 g1;obtain⟨z0,e0,_,_⟩:=DataW.trod_int underlying3 g0;obtain⟨z1,e1,_,_⟩:=DataW.trod_int underlying3 g1;simp at e0 e1;subst e0;subst e1;exact⟨⟨z0,z1⟩,rfl,trivial⟩
theorem UO(hcl:cs.length=1)(h:DataW.trod enc prog w base spare held fuel 26 cs=Z x):
  ∃A len cap,∃l:List Rg,cs=[.slice A len cap]/\l.length=len/\len<=cap/\cap<=9223372036854775807/\Rgs w A l:=by
 obtain⟨xs,k,hk,hxy,_,hxl,hfs⟩:=DataW.trod_struct underlying26 h;match xs,hxl,cs,hcl with
 | [y0],_,[v0],_=>
  have g0:=hfs 0 _ rfl;simp[mcR]at g0;obtain⟨A,len,cap,l,h1,h2,h3,h4,h5,_⟩:=UN g0;exact⟨A,len,cap,l,h1,h2,h3,h4,h5⟩
def MpR(w:Wv)(p:Mp×Value):Prop:=∃C c,p.2=.slice C p.1.to.length c/\p.1.to.length<=c/\c<=9223372036854775807/\aA w C p.1.to/\p.1.tag.size<=9223372036854775807
theorem UK(h:DataW.trod enc prog w base spare held fuel 23 cs=Z x):
  ∃A len cap,∃l:List Mp,cs=[.slice A len cap]/\l.length=len/\len<=cap/\cap<=9223372036854775807/\Mps w A l/\∀i,(hi:i<l.length)->l[i].to.length<=9223372036854775807/\l[i].tag.size<=9223372036854775807:=by
 have:Inhabited (Mp×Value):=⟨(⟨0,[],.empty⟩,.bool false)⟩
 obtain⟨A,len,cap,l,h1,h2,h3,h4,h5,h6⟩:=jF (α:=Mp×Value) mpC 3 (by omega) (fun _=>rfl) (MpR w) underlying23 (by kernel_rfl) (fun fuel cs x hl hx=>by
  obtain⟨xs,k,hk,hxy,_,hxl,hfs⟩:=DataW.trod_struct underlying116 hx
  match xs,hxl,cs,hl with
  | [y0,y1,y2],_,[v0,v1,v2],_=>
   have g0:=hfs 0 _ rfl
   have g1:=hfs 1 _ rfl
   have g2:=hfs 2 _ rfl
   simp[mci,mcI,mcs]at g0 g1 g2
   obtain⟨z0,e0,_,_⟩:=DataW.trod_int underlying3 g0
   obtain⟨A1,n1,c1,l1,e1,f1,q1,r1,i1⟩:=UJ g1
   obtain⟨z2,e2,_,hs⟩:=DataW.trod_string underlying9 g2
   simp at e0 e1 e2
   subst e0;subst e1;subst e2;subst f1
   exact⟨(⟨z0,l1,z2⟩,.slice A1 l1.length c1),rfl,A1,c1,rfl,q1,r1,i1,by unfold maxLen at hs;show z2.size<=_;omega⟩) h
 have hz:(l.map Prod.fst).zip (l.map Prod.snd)=l:=(List.zip_of_prod rfl rfl).symm;refine⟨A,len,cap,l.map Prod.fst,h1,by simpa using h2,h3,h4,⟨l.map Prod.snd,by simp,by rw[hz];exact h5,fun i hi hv=>?_⟩,fun i hi=>?_⟩
 ·have hl:i<l.length:=by simpa using hi
  obtain⟨C,c,e1,e2,_,e4,_⟩:=h6 l[i] (List.getElem_mem hl);exact⟨C,c,by simpa using e1,by simpa using e2,by simpa using e4⟩
 have hl:i<l.length:=by simpa using hi
 obtain⟨C,c,e1,e2,e3,_,e5⟩:=h6 l[i] (List.getElem_mem hl);simp only[List.getElem_map];exact⟨by omega,e5⟩
end
end
section
open Go.RowKit
structure Spn where
 lo:Int
 hi:Int
 val:Int
def fR(ss:List Spn):Lv:=ss.flatMap fun s=>[I J s.lo,I J s.hi,I J s.val]
theorem xL(ss:List Spn):(fR ss).length=ss.length*3:=by
 induction ss with
 |nil=>rfl
 |cons r rs ih=>simp only[fR,List.flatMap_cons,List.length_append,List.length_cons,List.length_nil]at *;omega
theorem oX(ss:List Spn)(k:Nat)(hk:k<ss.length):
  (fR ss)[k*3]?=Z (I J ss[k].lo)/\(fR ss)[k*3+1]?=Z (I J ss[k].hi)/\(fR ss)[k*3+2]?=Z (I J ss[k].val):=by
 induction ss generalizing k with
 |nil=>simp at hk
 |cons r rs ih=>
  cases k with
  |zero=>simp[fR]
  |succ k=>
   have:=ih k (by simpa using hk);simp only[fR,List.flatMap_cons,List.cons_append,List.nil_append,List.getElem_cons_succ]at *;rw[show(k+1)*3=k*3+1+1+1 by omega];simpa using this
def aZ(w:Wv)(A:Oa)(ss:List Spn):Prop:=Sl w A (fR ss)
theorem aZ.at{w:Wv}{A:Oa}{ss:List Spn}(h:aZ w A ss){k:Nat}(hk:k<ss.length):
  ∃b o,A=Z ⟨b,o,N⟩/\b<w.heap.size/\∀j,(hj:j<ss.length)->w.cell? ⟨b,o+j*3,N⟩=Z (I J ss[j].lo)/\w.cell? ⟨b,o+j*3+1,N⟩=Z (I J ss[j].hi)/\
   w.cell? ⟨b,o+j*3+2,N⟩=Z (I J ss[j].val):=by
 obtain⟨b,o,rfl,hc⟩:=Sl.at h (k:=k*3) (by rw[xL];omega);refine⟨b,o,rfl,World.block_lt_of_cell? w _ (hc _ _ (oX ss k hk).1),fun j hj=>⟨?_,?_,?_⟩⟩
 ·exact hc _ _ (oX ss j hj).1
 ·exact hc _ _ (oX ss j hj).2.1
 exact hc _ _ (oX ss j hj).2.2
theorem aZ.below{w w':Wv}{A:Oa}{ss:List Spn}(h:aZ w A ss)(hb:By w w'):aZ w' A ss:=Sl.below h hb
theorem aZ.keep{w w':Wv}{A:Oa}{ss:List Spn}(h:aZ w A ss)(hb:∀p:Addr,p.block<w.heap.size->w'.cell? p=w.cell? p):aZ w' A ss:=Sl.keep h hb
def cls(ss:List Spn)(c:Int):Int:=
 match ss with
 | []=>0
 |s::r=>if s.lo<=c/\c<=s.hi then s.val else cls r c
def Asc(ss:List Spn):Prop:=∀i j,(hi:i<ss.length)->(hj:j<ss.length)->(ss[i].lo<=ss[i].hi)/\(i<j->ss[i].hi<ss[j].lo)
theorem wG(ss:List Spn)(c:Int)(i:Nat)(hi:i<ss.length)(h:Asc ss)(h1:ss[i].lo<=c)(h2:c<=ss[i].hi):cls ss c=ss[i].val:=by
 induction ss generalizing i with
 |nil=>simp at hi
 |cons s r ih=>
  cases i with
  |zero=>simp only[List.getElem_cons_zero]at *;unfold cls;rw[if_pos ⟨h1,h2⟩]
  |succ i=>
   have hlt:=(h 0 (i+1) (by simp) hi).2 (by omega);simp only[List.getElem_cons_zero,List.getElem_cons_succ]at *;unfold cls;rw[if_neg (by omega)];refine ih i (by simpa using hi) (fun a b ha hb=>?_) h1 h2;have:=h (a+1) (b+1) (by simpa using ha) (by simpa using hb);simp only[List.getElem_cons_succ]at this;exact⟨this.1,fun hab=>this.2 (by omega)⟩
theorem rS(ss:List Spn)(c:Int)(h:∀i,(hi:i<ss.length)->¬(ss[i].lo<=c/\c<=ss[i].hi)):cls ss c=0:=by
 induction ss with
 |nil=>rfl
 |cons s r ih=>
  unfold cls;have h0:=h 0 (by simp);simp only[List.getElem_cons_zero]at h0;rw[if_neg h0]
  exact ih fun i hi=>by
   have:=h (i+1) (by simpa using hi);simpa using this
theorem Asc.nil:Asc []:=fun i _ hi=>by simp at hi
def eI(s:Spn):Prop:=s.lo<0\/1114111<s.hi\/s.hi<s.lo\/s.val<1\/254<s.val
def eT(a b:Spn):Prop:=b.lo<=a.hi\/(b.lo=a.hi+1/\b.val=a.val)
def gP(s:Spn):Prop:=(s.lo<=4370/\4352<=s.hi)\/(s.lo<=4469/\4449<=s.hi)\/(s.lo<=4546/\4520<=s.hi)\/(s.lo<=55203/\44032<=s.hi)
instance (s:Spn):Decidable (eI s):=by unfold eI;exact inferInstance
instance (a b:Spn):Decidable (eT a b):=by unfold eT;exact inferInstance
instance (s:Spn):Decidable (gP s):=by unfold gP;exact inferInstance
def lD:List Spn->Bool
 |a::b::r=>decide (eT a b)||lD (b::r)
 |_=>false
def chk(ss:List Spn):Int:=if(ss.any fun s=>decide (eI s))=true then 1 else if lD ss=true then 4 else if(ss.any fun s=>decide (gP s))=true then 11 else 0
theorem rJ{p:Spn->Bool}{ss:List Spn}{k:Nat}(hk:k<ss.length)(h:p ss[k]=true):ss.any p=true:=List.any_eq_true.2 ⟨ss[k],List.getElem_mem hk,h⟩
theorem oK{p:Spn->Bool}{ss:List Spn}(h:∀t,(ht:t<ss.length)->p ss[t]=false):ss.any p=false:=by
 rw[List.any_eq_false];intro x hx;obtain⟨i,hi,rfl⟩:=List.getElem_of_mem hx;rw[h i hi];simp
theorem vC{ss:List Spn}{k:Nat}(hk:k+1<ss.length)(h:eT ss[k] ss[k+1]):lD ss=true:=by
 induction ss generalizing k with
 |nil=>simp at hk
 |cons a r ih=>
  cases r with
  |nil=>simp at hk
  |cons b r=>
   cases k with
   |zero=>simp only[List.getElem_cons_zero,List.getElem_cons_succ]at h;simp[lD,h]
   |succ k=>
    simp only[lD,Bool.or_eq_true];right;exact ih (k:=k) (by simpa using hk) (by simpa using h)
theorem vB{ss:List Spn}(h:∀t,(ht:t+1<ss.length)->¬eT ss[t] ss[t+1]):lD ss=false:=by
 induction ss with
 |nil=>rfl
 |cons a r ih=>
  cases r with
  |nil=>rfl
  |cons b r=>
   have h0:=h 0 (by simp);simp only[List.getElem_cons_zero,List.getElem_cons_succ]at h0;simp only[lD,Bool.or_eq_false_iff];refine⟨by simpa using h0,ih fun t ht=>?_⟩;have:=h (t+1) (by simpa using ht);simpa using this
theorem wA{ss:List Spn}{k:Nat}(hk:k<ss.length)(h:eI ss[k]):chk ss=1:=by
 unfold chk;rw[if_pos (rJ hk (by simpa using h))]
theorem wC{ss:List Spn}{k:Nat}(h1:∀t,(ht:t<ss.length)->¬eI ss[t])(hk:k+1<ss.length)(h:eT ss[k] ss[k+1]):chk ss=4:=by
 unfold chk;rw[if_neg (by rw[oK fun t ht=>by simpa using h1 t ht];simp),if_pos (vC hk h)]
theorem wB{ss:List Spn}{k:Nat}(h1:∀t,(ht:t<ss.length)->¬eI ss[t])(h2:∀t,(ht:t+1<ss.length)->¬eT ss[t] ss[t+1])(hk:k<ss.length)(h:gP ss[k]):chk ss=11:=by
 unfold chk;rw[if_neg (by rw[oK fun t ht=>by simpa using h1 t ht];simp),if_neg (by rw[vB h2];simp),if_pos (rJ hk (by simpa using h))]
theorem v_{ss:List Spn}(h1:∀t,(ht:t<ss.length)->¬eI ss[t])(h2:∀t,(ht:t+1<ss.length)->¬eT ss[t] ss[t+1])(h3:∀t,(ht:t<ss.length)->¬gP ss[t]):chk ss=0:=by
 unfold chk;rw[if_neg (by rw[oK fun t ht=>by simpa using h1 t ht];simp),if_neg (by rw[vB h2];simp),if_neg (by rw[oK fun t ht=>by simpa using h3 t ht];simp)]
theorem oH{ss:List Spn}{P:Spn->Prop}{i:Nat}(hlt:i<ss.length)(h:∀t,(ht:t<ss.length)->t<i->¬P ss[t])(hi:¬P ss[i]):∀t,(ht:t<ss.length)->t<i+1->¬P ss[t]:=by
 intro t ht g;by_cases e:t<i
 ·exact h t ht e
 obtain rfl:t=i:=by omega
 exact hi
theorem zY{ss:List Spn}{P:Spn->Spn->Prop}{i:Nat}(hlt:i+1<ss.length)(h:∀t,(ht:t+1<ss.length)->t<i->¬P ss[t] ss[t+1])(hi:¬P ss[i] ss[i+1]):∀t,(ht:t+1<ss.length)->t<i+1->¬P ss[t] ss[t+1]:=by
 intro t ht g;by_cases e:t<i
 ·exact h t ht e
 obtain rfl:t=i:=by omega
 exact hi
theorem wD{ss:List Spn}(h:chk ss=0):(∀t,(ht:t<ss.length)->¬eI ss[t])/\(∀t,(ht:t+1<ss.length)->¬eT ss[t] ss[t+1]):=by
 unfold chk at h;split at h
 ·omega
 next h1=>
 split at h
 ·omega
 next h2=>
 refine⟨fun t ht hb=>h1 (rJ ht (by simpa using hb)),fun t ht hb=>h2 (vC ht hb)⟩
theorem vP{ss:List Spn}(h:chk ss=0):Asc ss:=by
 obtain⟨h1,h2⟩:=wD h;have step:∀d i,(hi:i<ss.length)->(hj:i+d+1<ss.length)->ss[i].hi<ss[i+d+1].lo:=by
  intro d;induction d with
  |zero=>
   intro i hi hj;have:=h2 i (by omega);unfold eT at this;have:¬ss[i+1].lo<=ss[i].hi:=fun h=>this (.inl h)
   simp only[Nat.add_zero];omega
  |succ d ih=>
   intro i hi hj;have a1:=ih i hi (by omega);have a2:=h2 (i+d+1) (by omega);have a3:=h1 (i+d+1) (by omega);unfold eT at a2;unfold eI at a3;have a4:¬ss[i+d+1+1].lo<=ss[i+d+1].hi:=fun h=>a2 (.inl h)
   have:i+(d+1)+1=i+d+1+1:=by omega
   simp only[this];omega
 intro i j hi hj;refine⟨?_,fun hij=>?_⟩
 ·have:=h1 i hi
  unfold eI at this;omega
 have:=step (j-i-1) i hi (by omega);have e:i+(j-i-1)+1=j:=by omega
 simp only[e]at this;exact this
end
namespace Hg
def kind(c:Int):Int:=
 if 0x1100<=c/\c<=0x1112 then 1
 else if 0x1161<=c/\c<=0x1175 then 2
 else if 0x11A8<=c/\c<=0x11C2 then 3
 else if 0xAC00<=c/\c<=0xD7A3 then(if(c-0xAC00)%28=0 then 4 else 5)
 else 0
theorem kind1{c:Int}(h:0x1100<=c/\c<=0x1112):kind c=1:=by unfold kind;rw[if_pos h]
theorem kind2{c:Int}(h:0x1161<=c/\c<=0x1175):kind c=2:=by unfold kind;rw[if_neg (by omega),if_pos h]
theorem kind3{c:Int}(h:0x11A8<=c/\c<=0x11C2):kind c=3:=by unfold kind;rw[if_neg (by omega),if_neg (by omega),if_pos h]
theorem kind4{c:Int}(h:0xAC00<=c/\c<=0xD7A3)(h':(c-0xAC00)%28=0):kind c=4:=by unfold kind;rw[if_neg (by omega),if_neg (by omega),if_neg (by omega),if_pos h,if_pos h']
theorem kind5{c:Int}(h:0xAC00<=c/\c<=0xD7A3)(h':¬(c-0xAC00)%28=0):kind c=5:=by unfold kind;rw[if_neg (by omega),if_neg (by omega),if_neg (by omega),if_pos h,if_neg h']
theorem kind0{c:Int}(h1:¬(0x1100<=c/\c<=0x1112))(h2:¬(0x1161<=c/\c<=0x1175))(h3:¬(0x11A8<=c/\c<=0x11C2))(h4:¬(0xAC00<=c/\c<=0xD7A3)):kind c=0:=by
 unfold kind;rw[if_neg h1,if_neg h2,if_neg h3,if_neg h4]
theorem cases6(c:Int):(0x1100<=c/\c<=0x1112/\kind c=1)\/(0x1161<=c/\c<=0x1175/\kind c=2)\/(0x11A8<=c/\c<=0x11C2/\kind c=3)\/(0xAC00<=c/\c<=0xD7A3/\(c-0xAC00)%28=0/\kind c=4)\/
  (0xAC00<=c/\c<=0xD7A3/\¬(c-0xAC00)%28=0/\kind c=5)\/(¬(0x1100<=c/\c<=0x1112)/\¬(0x1161<=c/\c<=0x1175)/\¬(0x11A8<=c/\c<=0x11C2)/\¬(0xAC00<=c/\c<=0xD7A3)/\kind c=0):=by
 by_cases h1:0x1100<=c/\c<=0x1112
 ·exact .inl ⟨h1.1,h1.2,kind1 h1⟩
 by_cases h2:0x1161<=c/\c<=0x1175
 ·exact .inr (.inl ⟨h2.1,h2.2,kind2 h2⟩)
 by_cases h3:0x11A8<=c/\c<=0x11C2
 ·exact .inr (.inr (.inl ⟨h3.1,h3.2,kind3 h3⟩))
 by_cases h4:0xAC00<=c/\c<=0xD7A3
 ·by_cases h5:(c-0xAC00)%28=0
  ·exact .inr (.inr (.inr (.inl ⟨h4.1,h4.2,h5,kind4 h4 h5⟩)))
  exact .inr (.inr (.inr (.inr (.inl ⟨h4.1,h4.2,h5,kind5 h4 h5⟩))))
 exact .inr (.inr (.inr (.inr (.inr ⟨h1,h2,h3,h4,kind0 h1 h2 h3 h4⟩))))
theorem kind_range(c:Int):0<=kind c/\kind c<=5:=by
 rcases cases6 c with h|h|h|h|h|h<;>omega
def decomp(c:Int):Li:=
 if kind c<4 then [c]
 else if(c-0xAC00)%28=0 then [0x1100+(c-0xAC00)/28/21,0x1161+(c-0xAC00)/28%21]
 else [0x1100+(c-0xAC00)/28/21,0x1161+(c-0xAC00)/28%21,0x11A8+(c-0xAC00)%28-1]
def pl(p q r:Int):Nat:=
 if(p==1&&q==2&&r==3)=true then 3 else if(p==1&&q==2)=true then 2 else if(p==4&&q==3)=true then 2 else if 4<=p then 1 else 0
def kd(l:Li)(j:Nat):Int:=(l[j]?.map kind).getD 0
def plen(l:Li):Nat:=pl (kd l 0) (kd l 1) (kd l 2)
def spl(l:Li):Nat->Nat->List (Nat×Nat)
 |0,_=>[]
 |f+1,i=>if i<l.length then(if 0<plen (l.drop i)then(i,i+plen (l.drop i))::spl l f (i+plen (l.drop i))else spl l f (i+1))else []
def sp(l:Li)(i:Nat):List (Nat×Nat):=spl l (l.length-i) i
end Hg
section
section
variable (on:Int->Option (Li))(cap:Int)
def dF(vs:Li):Int:=vs.foldl (fun s v=>min (s+v) cap) 0
theorem IV(vs:Li)(v:Int):dF cap (vs++[v])=min (dF cap vs+v) cap:=by simp[dF,List.foldl_append]
inductive Sz:Int->Int->Prop
 |leaf {c:Int}:on c=N\/on c=Z []->Sz c 1
 |node {c:Int} {to vs:Li}:on c=Z to->to≠[]->vs.length=to.length->(∀i,(hi:i<to.length)->(hv:i<vs.length)->Sz to[i] vs[i])->Sz c (dF cap vs)
def jJ(c d:Int):Prop:=∃to,on c=Z to/\d∈to
inductive cM:Int->Int->Prop
 |one {c d:Int}:jJ on c d->cM c d
 |more {c d e:Int}:cM c d->jJ on d e->cM c e
end
section
variable {on:Int->Option (Li)}{cap:Int}
theorem cM.front{c d e:Int}(h:jJ on c d)(p:cM on d e):cM on c e:=by
 induction p with
 |one h2=>exact .more (.one h) h2
 |more _ h2 ih=>exact .more ih h2
theorem cM.head{c e:Int}(p:cM on c e):jJ on c e\/∃d,jJ on c d/\cM on d e:=by
 induction p with
 |one h=>exact .inl h
 |more p h ih=>
  rcases ih with h1|⟨x,h1,h2⟩
  ·exact .inr ⟨_,h1,.one h⟩
  exact .inr ⟨x,h1,.more h2 h⟩
theorem Sz.func{c v:Int}(h:Sz on cap c v):∀{v'},Sz on cap c v'->v=v':=by
 induction h with
 |leaf h=>
  intro v' h';cases h' with
  |leaf _=>rfl
  |node h1 h2 _ _=>
   rcases h with h|h
   ·rw[h]at h1;cases h1
   rw[h]at h1;injection h1 with h1;exact absurd h1.symm h2
 |node h1 h2 h3 _ ih=>
  intro v' h';cases h' with
  |leaf h=>
   rcases h with h|h
   ·rw[h]at h1;cases h1
   rw[h]at h1;injection h1 with h1;exact absurd h1.symm h2
  | @node _ to vs' g1 g2 g3 g4=>
   rw[h1]at g1;injection g1 with g1;subst g1;congr 1;refine List.ext_getElem (by omega) fun i hi hi'=>?_
   exact ih i (by omega) hi (g4 i (by omega) hi')
theorem Sz.succ{c d v:Int}(h:Sz on cap c v)(e:jJ on c d):∃u,Sz on cap d u:=by
 obtain⟨to,h1,h2⟩:=e;cases h with
 |leaf h=>
  rcases h with h|h
  ·rw[h]at h1;cases h1
  rw[h]at h1;injection h1 with h1;subst h1;cases h2
 | @node _ to' vs g1 g2 g3 g4=>
  rw[h1]at g1;injection g1 with g1;subst g1;obtain⟨i,hi,rfl⟩:=List.getElem_of_mem h2;exact⟨_,g4 i hi (by omega)⟩
theorem Sz.noway{c v:Int}(h:Sz on cap c v):¬cM on c c:=by
 have key:∀{c v:Int},Sz on cap c v->∀d,cM on c d->¬cM on d c:=by
  intro c v h;induction h with
  |leaf h=>
   intro d p _;rcases p.head with⟨to,h1,h2⟩|⟨x,⟨to,h1,h2⟩,_⟩
   all_goals
    rcases h with h|h
    ·rw[h]at h1;cases h1
    rw[h]at h1;injection h1 with h1;subst h1;cases h2
  | @node c to vs h1 h2 h3 _ ih=>
   intro d p q
   have step:∀x,jJ on c x->∀y,cM on x y->¬cM on y x:=fun x⟨to',g1,g2⟩ y=>by
    rw[h1]at g1;injection g1 with g1;subst g1;obtain⟨i,hi,rfl⟩:=List.getElem_of_mem g2;exact ih i hi (by omega) y
   rcases p.head with e|⟨x,e,p2⟩
   ·rcases q.head with e2|⟨y,e2,q2⟩
    ·exact step d e c (.one e2) (.one e)
    exact step d e c q (.one e)
   have q3:cM on d x:=by
    rcases q.head with e2|⟨y,e2,q2⟩
    ·exact .front e2 (.one e)
    exact .more q e
   exact step x e d p2 q3
 exact fun p=>key h c p p
theorem rP{vs:Li}(hc:1<=cap)(h:∀v∈vs,1<=v)(hne:vs≠[]):1<=dF cap vs/\dF cap vs<=cap:=by
 have:∀(l:Li)(s:Int),(∀v∈l,1<=v)->0<=s->s<=cap->(l≠[]\/1<=s)->1<=l.foldl (fun s v=>min (s+v) cap) s/\l.foldl (fun s v=>min (s+v) cap) s<=cap:=by
  intro l;induction l with
  |nil=>intro s _ h0 h1 h2;rcases h2 with h2|h2;exact absurd rfl h2;exact⟨h2,h1⟩
  |cons x l ih=>
   intro s hl h0 h1 _;have hx:=hl x (by simp);exact ih _ (fun v hv=>hl v (by simp[hv])) (by dsimp only;omega) (by dsimp only;omega) (.inr (by dsimp only;omega))
 exact this vs 0 h (by omega) (by omega) (.inl hne)
theorem Sz.bd{c v:Int}(hc:1<=cap)(h:Sz on cap c v):1<=v/\v<=cap:=by
 induction h with
 |leaf _=>exact⟨by omega,hc⟩
 |node h1 h2 h3 _ ih=>
  refine rP hc (fun v hv=>?_) (by rintro rfl;simp at h3;exact h2 (List.eq_nil_of_length_eq_zero h3.symm));obtain⟨i,hi,rfl⟩:=List.getElem_of_mem hv;exact(ih i (by omega) hi).1
end
section
variable (n:Nat)(frm:Nat->Int)(to:Nat->Li)(fnd:Int->Option Nat)(dl:Int->Int)(cap:Int)
def iL(T:List Bool)(i:Nat):Bool:=(to i).all (fun e=>match fnd e with|none=>true|some m=>T.getD m false)
def aP(T:List Bool)(i:Nat):List Bool:=T.set i (iL to fnd T i)
def iQ(L:Li)(e:Int):Int:=match fnd e with|none=>dl e|some m=>L.getD m 0
def kP(L:Li)(i:Nat):Int:=min (max ((to i).map (iQ fnd dl L)).sum 1) cap
def dV(skip:Nat->Bool)(L:Li)(i:Nat):Li:=L.set i (if skip i=true then 1 else kP to fnd dl cap L i)
end
section
variable {n:Nat}{frm:Nat->Int}{to:Nat->Li}{fnd fnd':Int->Option Nat}{dl:Int->Int}{cap:Int}{on on':Int->Option (Li)}{skip:Nat->Bool}
theorem rO{vs:Li}(h:∀v∈vs,0<=v)(hc:0<=cap):dF cap vs=min vs.sum cap:=by
 have:∀(l:Li)(s:Int),(∀v∈l,0<=v)->0<=s->s<=cap->l.foldl (fun s v=>min (s+v) cap) s=min (s+l.sum) cap:=by
  intro l;induction l with
  |nil=>intro s _ _ h;simp;omega
  |cons x l ih=>
   intro s hl h0 h1;have hx:=hl x (by simp);have hp:0<=l.sum:=by
    clear ih;have hl':∀v∈l,0<=v:=fun v hv=>hl v (by simp[hv])
    clear hl;induction l with
    |nil=>simp
    |cons y l ih=>rw[List.sum_cons];have:=hl' y (by simp);have:=ih (fun v hv=>hl' v (by simp[hv]));omega
   rw[List.foldl_cons,ih _ (fun v hv=>hl v (by simp[hv])) (by omega) (by omega),List.sum_cons];omega
 have:=this vs 0 h (by omega) hc;simpa[dF]using this
theorem DH{l:Li}(h:∀v∈l,0<=v):0<=l.sum:=by
 induction l with
 |nil=>simp
 |cons y l ih=>rw[List.sum_cons];have:=h y (by simp);have:=ih (fun v hv=>h v (by simp[hv]));omega
theorem zAf{l:Li}(h:∀v∈l,1<=v)(hne:l≠[]):1<=l.sum:=by
 cases l with
 |nil=>exact absurd rfl hne
 |cons y l=>rw[List.sum_cons];have:=h y (by simp);have:=DH (l:=l) (fun v hv=>by have:=h v (by simp[hv]);omega);omega
structure uS(n:Nat)(frm:Nat->Int)(to:Nat->Li)(fnd:Int->Option Nat)(dl:Int->Int)(cap:Int)(on:Int->Option (Li))(skip:Nat->Bool):Prop where
 cap1:1<=cap
 at_:∀i,i<n->skip i=false->on (frm i)=Z (to i)
 sk:∀i,i<n->skip i=true->on (frm i)=N
 fd:∀e m,fnd e=Z m->m<n/\frm m=e
 no:∀e,fnd e=N->Sz on cap e (dl e)
theorem YQ(M:uS n frm to fnd dl cap on skip)(hsub:∀e m,fnd e=Z m->fnd' e=Z m)(s:List Nat)(hs:∀i∈s,i<n):
  ∀i,i<n->(s.foldl (aP to fnd') (List.replicate n false)).getD i false=true->∃v,Sz on cap (frm i) v/\(s.foldl (dV to fnd dl cap skip) (List.replicate n 0)).getD i 0=v:=by
 have hlenE:∀s:List Nat,(s.foldl (aP to fnd') (List.replicate n false)).length=n:=by
  intro s;have:∀(s:List Nat)(T:List Bool),T.length=n->(s.foldl (aP to fnd') T).length=n:=by
   intro s;induction s with
   |nil=>intro T h;exact h
   |cons x s ih=>intro T h;exact ih _ (by simp[aP,h])
  exact this s _ (by simp)
 have hlenL:∀s:List Nat,(s.foldl (dV to fnd dl cap skip) (List.replicate n 0)).length=n:=by
  intro s;have:∀(s:List Nat)(T:Li),T.length=n->(s.foldl (dV to fnd dl cap skip) T).length=n:=by
   intro s;induction s with
   |nil=>intro T h;exact h
   |cons x s ih=>intro T h;exact ih _ (by simp[dV,h])
  exact this s _ (by simp)
 have key:∀k(s:List Nat),s.length=k->(∀i∈s,i<n)->∀i,i<n->(s.foldl (aP to fnd') (List.replicate n false)).getD i false=true->∃v,Sz on cap (frm i) v/\(s.foldl (dV to fnd dl cap skip) (List.replicate n 0)).getD i 0=v:=by
  intro k;induction k with
  |zero=>
   intro s hk _ i hi h;have:s=[]:=List.eq_nil_of_length_eq_zero hk;subst this;simp[List.getD,hi]at h
  |succ k ih=>
   intro s hk hs i hi h;obtain⟨s',x,rfl⟩:∃s' x,s=s'++[x]:=⟨s.dropLast,s.getLast (by rintro rfl;simp at hk),(List.dropLast_concat_getLast _).symm⟩;have hs':∀i∈s',i<n:=fun j hj=>hs j (by simp[hj])
   have hx:x<n:=hs x (by simp);have IH:=ih s' (by simpa using hk) hs';rw[List.foldl_append]at h|-;simp only[List.foldl_cons,List.foldl_nil]at h|-;have l1:=hlenE s';have l2:=hlenL s';generalize s'.foldl (aP to fnd') (List.replicate n false)=T at *;generalize s'.foldl (dV to fnd dl cap skip) (List.replicate n 0)=L at *;by_cases e:x=i
   ·subst e
    have hT:iL to fnd' T x=true:=by
     simpa[aP,List.getD,l1,hi]using h
    have hL:(dV to fnd dl cap skip L x).getD x 0=if skip x=true then 1 else kP to fnd dl cap L x:=by
     simp[dV,List.getD,l2,hi]
    rw[hL];cases hsk:skip x with
    |true=>exact⟨1,.leaf (.inl (M.sk x hi hsk)),by simp⟩
    |false=>
     simp only[Bool.false_eq_true,if_false]
     have hch:∀e∈to x,Sz on cap e (iQ fnd dl L e):=fun e he=>by
      unfold iQ;cases hf:fnd e with
      |none=>exact M.no e hf
      |some m=>
       obtain⟨hm,hfm⟩:=M.fd e m hf;have:=List.all_eq_true.1 hT e he;rw[hsub e m hf]at this;obtain⟨v,h1,h2⟩:=IH m hm this;rw[hfm]at h1;rw[<-h2]at h1;exact h1
     by_cases hto:to x=[]
     ·refine⟨1,.leaf (.inr (by rw[M.at_ x hi hsk,hto])),?_⟩
      unfold kP;rw[hto];have:=M.cap1;simp;omega
     refine⟨dF cap ((to x).map (iQ fnd dl L)),.node (M.at_ x hi hsk) hto (by simp) (fun j hj hv=>?_),?_⟩
     ·simp only[List.getElem_map]
      exact hch _ (List.getElem_mem hj)
     have hpos:∀v∈(to x).map (iQ fnd dl L),1<=v:=fun v hv=>by
      obtain⟨e,he,rfl⟩:=List.mem_map.1 hv;exact((hch e he).bd M.cap1).1
     have h1:=zAf hpos (by simpa using hto);rw[rO (fun v hv=>by have:=hpos v hv;omega) (by have:=M.cap1;omega)];unfold kP;rw[Int.max_eq_left h1]
   have hT:T.getD i false=true:=by
    simpa[aP,List.getD,List.getElem?_set,e]using h
   obtain⟨v,h1,h2⟩:=IH i hi hT;refine⟨v,h1,?_⟩;rw[<-h2];simp[dV,List.getD,e]
 exact key s.length s rfl hs
end
section
variable {n:Nat}{to:Nat->Li}{fnd:Int->Option Nat}
def lS(to:Nat->Li)(fnd:Int->Option Nat)(T:List Bool):Prop:=∀i,T.getD i false=true->iL to fnd T i=true
def LeB(T T':List Bool):Prop:=T.length=T'.length/\∀i,T.getD i false=true->T'.getD i false=true
theorem LeB.refl(T:List Bool):LeB T T:=⟨rfl,fun _ h=>h⟩
theorem LeB.trans{a b c:List Bool}(h:LeB a b)(k:LeB b c):LeB a c:=⟨h.1.trans k.1,fun i hi=>k.2 i (h.2 i hi)⟩
theorem LeB.antisymm{a b:List Bool}(h:LeB a b)(k:LeB b a):a=b:=by
 refine List.ext_getElem h.1 fun i h1 h2=>?_
 have e1:a.getD i false=a[i]:=by simp[List.getD,List.getElem?_eq_getElem h1]
 have e2:b.getD i false=b[i]:=by simp[List.getD,List.getElem?_eq_getElem h2]
 have p:=h.2 i;have q:=k.2 i;rw[e1,e2]at p q;cases ha:a[i]<;>cases hb:b[i]<;>simp_all
theorem LU{T T':List Bool}(h:LeB T T')(i:Nat)(hi:iL to fnd T i=true):iL to fnd T' i=true:=by
 unfold iL at *;rw[List.all_eq_true]at *;intro e he;have:=hi e he;cases hf:fnd e with
 |none=>rfl
 |some m=>rw[hf]at this;exact h.2 m this
theorem sF{T:List Bool}{i j:Nat}{x:Bool}(hi:i<T.length):(T.set i x).getD j false=if i=j then x else T.getD j false:=by
 by_cases e:i=j
 ·subst e;simp[List.getD,hi]
 simp[List.getD,e]
theorem wX{T:List Bool}(hc:lS to fnd T){i:Nat}(hi:i<T.length):LeB T (aP to fnd T i)/\lS to fnd (aP to fnd T i):=by
 have hle:LeB T (aP to fnd T i):=by
  refine⟨by simp[aP],fun j hj=>?_⟩;unfold aP;rw[sF hi];split
  ·next e=>subst e;exact hc i hj
  exact hj
 refine⟨hle,fun j hj=>LU hle j ?_⟩;unfold aP at hj;rw[sF hi]at hj;split at hj
 ·next e=>subst e;exact hj
 exact hc j hj
theorem mX{s:List Nat}:∀{T:List Bool},lS to fnd T->(∀i∈s,i<T.length)->LeB T (s.foldl (aP to fnd) T)/\lS to fnd (s.foldl (aP to fnd) T):=by
 induction s with
 |nil=>intro T hc _;exact⟨LeB.refl _,hc⟩
 |cons x s ih=>
  intro T hc hs;obtain⟨h1,h2⟩:=wX hc (hs x (by simp));obtain⟨h3,h4⟩:=ih h2 (fun i hi=>by rw[<-h1.1];exact hs i (by simp[hi]));exact⟨h1.trans h3,h4⟩
theorem MY{T:List Bool}(hc:lS to fnd T)(hl:T.length=n)(he:(List.range n).foldl (aP to fnd) T=T){i:Nat}(hi:i<n):T.getD i false=iL to fnd T i:=by
 have hsp:List.range n=List.range i++i::(List.range n).drop (i+1):=by
  have h1:(List.range n).take i=List.range i:=by rw[List.take_range];congr 1;omega
  have h2:(List.range n).drop i=i::(List.range n).drop (i+1):=by
   rw[List.drop_eq_getElem_cons (by simpa using hi)];simp
  rw[<-h1,<-h2,List.take_append_drop]
 have hlt:∀j∈List.range n,j<T.length:=fun j hj=>by rw[hl];exact List.mem_range.1 hj
 rw[hsp,List.foldl_append,List.foldl_cons]at he;obtain⟨a1,a2⟩:=mX (s:=List.range i) hc (fun j hj=>by rw[hl];have:=List.mem_range.1 hj;omega);have hi1:i<((List.range i).foldl (aP to fnd) T).length:=by rw[<-a1.1,hl];exact hi
 obtain⟨b1,b2⟩:=wX a2 hi1;obtain⟨c1,c2⟩:=mX (s:=(List.range n).drop (i+1)) b2 (fun j hj=>by rw[<-b1.1,<-a1.1];exact hlt j (List.mem_of_mem_drop hj));rw[he]at c1;have e1:(List.range i).foldl (aP to fnd) T=T:=LeB.antisymm (b1.trans c1) a1;rw[e1]at b1 c1 hi1;have e2:aP to fnd T i=T:=LeB.antisymm c1 b1;have:=congrArg (fun l:List Bool=>l.getD i false) e2;unfold aP at this;rw[sF hi1,if_pos rfl]at this;exact this.symm
theorem wP{T T':List Bool}(h:LeB T T')(hne:¬T=T'):T.count true<T'.count true:=by
 induction T generalizing T' with
 |nil=>
  have:=h.1;cases T' with
  |nil=>exact absurd rfl hne
  |cons _ _=>simp at this
 |cons x T ih=>
  cases T' with
  |nil=>have:=h.1;simp at this
  |cons y T'=>
   have hl:LeB T T':=⟨by have:=h.1;simpa using this,fun i hi=>by have:=h.2 (i+1);simpa[List.getD]using this (by simpa[List.getD]using hi)⟩;have h0:=h.2 0;simp only[List.getD,List.getElem?_cons_zero,Option.getD_some]at h0;have hcle:T.count true<=T'.count true:=by
    by_cases e:T=T'
    ·rw[e];exact Nat.le_refl _
    exact Nat.le_of_lt (ih hl e)
   rw[List.count_cons,List.count_cons];cases x with
   |true=>
    rw[h0 rfl];have hne':¬T=T':=fun e=>hne (by rw[e,h0 rfl])
    have:=ih hl hne';simp;omega
   |false=>
    cases y with
    |true=>simp;omega
    |false=>
     have hne':¬T=T':=fun e=>hne (by rw[e])
     have:=ih hl hne';simp;omega
def bR(n:Nat)(to:Nat->Li)(fnd:Int->Option Nat):Nat->List Bool
 |0=>List.replicate n false
 |r+1=>(List.range n).foldl (aP to fnd) (bR n to fnd r)
theorem kT(n:Nat)(to:Nat->Li)(fnd:Int->Option Nat)(r:Nat):(bR n to fnd r).length=n/\lS to fnd (bR n to fnd r):=by
 induction r with
 | zero=>exact⟨by simp[bR],fun i hi=>by
   by_cases h:i<n
   ·simp[bR,List.getD,h]at hi
   ·simp[bR,List.getD,h]at hi⟩
 |succ r ih=>
  obtain⟨h1,h2⟩:=mX (s:=List.range n) ih.2 (fun j hj=>by rw[ih.1];exact List.mem_range.1 hj);exact⟨h1.1.symm.trans ih.1,h2⟩
theorem YH(n:Nat)(to:Nat->Li)(fnd:Int->Option Nat):(List.range n).foldl (aP to fnd) (bR n to fnd n)=bR n to fnd n:=by
 have key:∀r,(List.range n).foldl (aP to fnd) (bR n to fnd r)=bR n to fnd r\/r<=(bR n to fnd r).count true:=by
  intro r;induction r with
  |zero=>exact .inr (Nat.zero_le _)
  |succ r ih=>
   rcases ih with ih|ih
   ·left
    show(List.range n).foldl (aP to fnd) ((List.range n).foldl (aP to fnd) (bR n to fnd r))=(List.range n).foldl (aP to fnd) (bR n to fnd r)
    rw[ih,ih]
   obtain⟨l1,c1⟩:=kT n to fnd r;obtain⟨h1,_⟩:=mX (s:=List.range n) c1 (fun j hj=>by rw[l1];exact List.mem_range.1 hj);by_cases e:bR n to fnd r=(List.range n).foldl (aP to fnd) (bR n to fnd r)
   ·left
    show(List.range n).foldl (aP to fnd) ((List.range n).foldl (aP to fnd) (bR n to fnd r))=(List.range n).foldl (aP to fnd) (bR n to fnd r)
    rw[<-e,<-e]
   right;have:=wP h1 e;show r+1<=((List.range n).foldl (aP to fnd) (bR n to fnd r)).count true
   omega
 rcases key n with h|h
 ·exact h
 obtain⟨l1,c1⟩:=kT n to fnd n;obtain⟨h1,_⟩:=mX (s:=List.range n) c1 (fun j hj=>by rw[l1];exact List.mem_range.1 hj);by_cases e:bR n to fnd n=(List.range n).foldl (aP to fnd) (bR n to fnd n)
 ·exact e.symm
 have h2:=wP h1 e;have h3:=List.count_le_length (a:=true) (l:=(List.range n).foldl (aP to fnd) (bR n to fnd n));rw[<-h1.1,l1]at h3;omega
theorem YG{frm:Nat->Int}{on:Int->Option (Li)}{cap:Int}(hat:∀i,i<n->on (frm i)=Z (to i))(hfd:∀e m,fnd e=Z m->m<n/\frm m=e)(hall:∀i,i<n->∃v,Sz on cap (frm i) v):
  ∀i,i<n->(bR n to fnd n).getD i false=true:=by
 obtain⟨l1,c1⟩:=kT n to fnd n;have hfix:=fun i(hi:i<n)=>MY c1 l1 (YH n to fnd) hi
 have key:∀{c v:Int},Sz on cap c v->∀i,i<n->frm i=c->(bR n to fnd n).getD i false=true:=by
  intro c v h;induction h with
  |leaf h=>
   intro i hi hc;subst hc;rw[hfix i hi];rcases h with h|h
   ·rw[hat i hi]at h;cases h
   rw[hat i hi]at h;injection h with h;unfold iL;rw[h];rfl
  | @node c to' vs h1 h2 h3 h4 ih=>
   intro i hi hc;subst hc;rw[hat i hi]at h1;injection h1 with h1;rw[hfix i hi];unfold iL;rw[List.all_eq_true];intro e he;cases hf:fnd e with
   |none=>rfl
   |some m=>
    obtain⟨hm,hfm⟩:=hfd e m hf;rw[h1]at he;obtain⟨j,hj,rfl⟩:=List.getElem_of_mem he;exact ih j hj (by omega) m hm hfm
 intro i hi;obtain⟨v,h⟩:=hall i hi;exact key h i hi rfl
end
section
structure fK(on:Int->Option (Li))(cap mx:Int)(mk:Int->Option Int)(cyc lng:Bool):Prop where
 bd:∀c k,mk c=Z k->-1<=k/\k<=cap
 fin:cyc=false->∀c k,mk c=Z k->k≠-1->Sz on cap c k
 cy:cyc=true->∃x,cM on x x
 lg1:lng=true->∃c k,mk c=Z k/\mx<k
 lg2:∀c k,mk c=Z k->mx<k->lng=true
 nd:∀c k,mk c=Z k->∃to,on c=Z to/\to≠[]
structure eV(mk mk':Int->Option Int):Prop where
 old:∀c k,mk c=Z k->mk' c=Z k
 new:∀c,mk c=N->mk' c≠Z (-1)
variable {on:Int->Option (Li)}{cap mx:Int}{mk mk' mk'':Int->Option Int}{cyc lng cyc':Bool}
theorem eV.refl(mk:Int->Option Int):eV mk mk:=⟨fun _ _ h=>h,fun c h e=>by rw[h]at e;cases e⟩
theorem eV.trans(h:eV mk mk')(k:eV mk' mk''):eV mk mk'':=by
 refine⟨fun c v e=>k.old c v (h.old c v e),fun c e e'=>?_⟩;cases hm:mk' c with
 |none=>exact k.new c hm e'
 |some v=>
  have:=k.old c v hm;rw[e']at this;injection this with this;subst this;exact h.new c e hm
def dP(mk:Int->Option Int)(c k:Int):Int->Option Int:=fun x=>if x=c then Z k else mk x
theorem iG(mk:Int->Option Int)(c k:Int):dP mk c k c=Z k:=by simp[dP]
theorem eS(mk:Int->Option Int){c x:Int}(k:Int)(h:¬x=c):dP mk c k x=mk x:=by simp[dP,h]
theorem fK.begin(h:fK on cap mx mk cyc lng){c:Int}{to:Li}(hc:on c=Z to)(ht:to≠[])(hn:mk c=N)(hcap:1<=cap)(hmx:0<=mx):fK on cap mx (dP mk c (-1)) cyc lng:=by
 refine⟨fun x k hx=>?_,fun hf x k hx hk=>?_,h.cy,fun hl=>?_,fun x k hx hk=>?_,fun x k hx=>?_⟩
 ·by_cases e:x=c
  ·subst e;rw[iG]at hx;injection hx with hx;omega
  rw[eS mk _ e]at hx;exact h.bd x k hx
 ·by_cases e:x=c
  ·subst e;rw[iG]at hx;injection hx with hx;exact absurd hx.symm hk
  rw[eS mk _ e]at hx;exact h.fin hf x k hx hk
 ·obtain⟨x,k,h1,h2⟩:=h.lg1 hl
  refine⟨x,k,?_,h2⟩;rw[eS mk _ (fun e=>by rw[e,hn]at h1;cases h1)];exact h1
 ·by_cases e:x=c
  ·subst e;rw[iG]at hx;injection hx with hx;omega
  rw[eS mk _ e]at hx;exact h.lg2 x k hx hk
 by_cases e:x=c
 ·subst e;exact⟨to,hc,ht⟩
 rw[eS mk _ e]at hx;exact h.nd x k hx
theorem fK.finish(h:fK on cap mx mk cyc lng){c s:Int}{to:Li}(hc:on c=Z to)(ht:to≠[])(hm:mk c=Z (-1))(hs:1<=s/\s<=cap)(hz:cyc=false->Sz on cap c s)(hmx:0<=mx):
  fK on cap mx (dP mk c s) cyc (lng||decide (mx<s)):=by
 refine⟨fun x k hx=>?_,fun hf x k hx hk=>?_,h.cy,fun hl=>?_,fun x k hx hk=>?_,fun x k hx=>?_⟩
 ·by_cases e:x=c
  ·subst e;rw[iG]at hx;injection hx with hx;omega
  rw[eS mk _ e]at hx;exact h.bd x k hx
 ·by_cases e:x=c
  ·subst e;rw[iG]at hx;injection hx with hx;subst hx;exact hz hf
  rw[eS mk _ e]at hx;exact h.fin hf x k hx hk
 ·rw[Bool.or_eq_true,decide_eq_true_eq]at hl
  rcases hl with hl|hl
  ·obtain⟨x,k,h1,h2⟩:=h.lg1 hl
   refine⟨x,k,?_,h2⟩;rw[eS mk _ (fun e=>by rw[e,hm]at h1;injection h1 with h1;omega)];exact h1
  exact⟨c,s,iG mk c s,hl⟩
 ·rw[Bool.or_eq_true,decide_eq_true_eq]
  by_cases e:x=c
  ·subst e;rw[iG]at hx;injection hx with hx;right;omega
  rw[eS mk _ e]at hx;exact .inl (h.lg2 x k hx hk)
 by_cases e:x=c
 ·subst e;exact⟨to,hc,ht⟩
 rw[eS mk _ e]at hx;exact h.nd x k hx
theorem fK.meet(h:fK on cap mx mk cyc lng){c k:Int}(hm:mk c=Z k)(hp:mk c=Z (-1)->cM on c c):fK on cap mx mk (cyc||(k==-1)) lng:=by
 refine⟨h.bd,fun hf=>h.fin (by simp at hf;exact hf.1),fun hc=>?_,h.lg1,h.lg2,h.nd⟩;rw[Bool.or_eq_true]at hc;rcases hc with hc|hc
 ·exact h.cy hc
 simp at hc;subst hc;exact⟨c,hp hm⟩
def unmarked(fs:Li)(mk:Int->Option Int):Nat:=(fs.filter (fun f=>(mk f).isNone)).length
theorem qF{fs:Li}(h:∀c,mk' c=N->mk c=N):unmarked fs mk'<=unmarked fs mk:=by
 unfold unmarked;induction fs with
 |nil=>simp
 |cons f fs ih=>
  rw[List.filter_cons,List.filter_cons];by_cases h1:mk' f=N
  ·rw[if_pos (by simp[h1]),if_pos (by simp[h f h1])];simpa using ih
  rw[if_neg (by simpa using h1)];split
  ·simp;omega
  exact ih
theorem eV.unmarked(h:eV mk mk')(fs:Li):Go.Proofs.YtpfbnikbebccjaaGreatDoor.unmarked fs mk'<=Go.Proofs.YtpfbnikbebccjaaGreatDoor.unmarked fs mk:=qF fun c e=>by
 cases hm:mk c with
 |none=>rfl
 |some v=>rw[h.old c v hm]at e;cases e
theorem DR{fs:Li}{c k:Int}(hf:c∈fs)(hn:mk c=N):unmarked fs (dP mk c k)<unmarked fs mk:=by
 have hle:∀l:Li,unmarked l (dP mk c k)<=unmarked l mk:=fun l=>qF fun x e=>by
  by_cases e':x=c
  ·subst e';exact hn
  rw[eS mk _ e']at e;exact e
 induction fs with
 |nil=>cases hf
 |cons f fs ih=>
  have h1:=hle fs;unfold unmarked at *;rw[List.filter_cons,List.filter_cons];by_cases e:f=c
  ·subst e
   rw[if_neg (by simp[iG]),if_pos (by simp[hn])];simp;omega
  have hf':c∈fs:=by
   rcases List.mem_cons.1 hf with h|h
   ·exact absurd h.symm e
   exact h
  have:=ih hf';by_cases hm:mk f=N
  ·rw[if_pos (by simp[eS mk _ e,hm]),if_pos (by simp[hm])];simpa using this
  rw[if_neg (by simpa[eS mk _ e]using hm),if_neg (by simpa using hm)];exact this
end
end
section
open Go.RowKit
section
variable {P:Program}{f:FuncId}{args:Array Value}{w:Wv}{a n:Nat}{v:Value}
theorem VS(h:Calls P f args (w.drewN (a+n)) fun e w'=>e=.returned v/\w.drewN (a+n)=w'):Calls P f args (w.drewN (a+n)) fun e w''=>e=.returned v/\∃m,w''=w.drewN (a+m):=
 h.mono fun _ _⟨he,hm⟩=>⟨he,n,hm.symm⟩
theorem pV(h:Calls P f args (w.drewN n) fun e w'=>e=.returned v/\Qt (w.drewN n) w'):Calls P f args (w.drewN n) fun e w''=>e=.returned v/\∃m,w''=w.drewN m:=
 h.mono fun _ _⟨he,q,hm⟩=>⟨he,n+q,by rw[hm,World.drewN_drewN]⟩
end
def cB(x y:Int):Int:=if x<y then -1 else if y<x then 1 else 0
theorem sX(x:Int)(w:Wv):Calls prog 122 #[I J x] w fun e w'=>e=.returned (.bool false)/\w=w':=by
 have h:(x !=x)=false:=by simp
 go_enter func122,ntmps122;go_wp2;go_ret;exact⟨rfl,rfl⟩
theorem kF(x y:Int)(w:Wv):Calls prog 88 #[I J x,I J y] w fun e w'=>e=.returned (I J (cB x y))/\w=w':=by
 unfold cB;by_cases h1:x<y
 ·rw[if_pos h1]
  go_enter func88,ntmps88;go_wp2_with(go_at_call 122;refine(sX _ _).mono ?_;rintro e w' ⟨rfl,rfl⟩);go_ret;exact⟨rfl,rfl⟩
 rw[if_neg h1];by_cases h2:y<x
 ·rw[if_pos h2]
  go_enter func88,ntmps88;go_wp2_with(go_at_call 122;refine(sX _ _).mono ?_;rintro e w' ⟨rfl,rfl⟩);go_ret;exact⟨rfl,rfl⟩
 rw[if_neg h2];go_enter func88,ntmps88;go_wp2_with(go_at_call 122;refine(sX _ _).mono ?_;rintro e w' ⟨rfl,rfl⟩);go_ret;exact⟨rfl,rfl⟩
theorem JN(xs ys:Li)(k:Nat)(h:k=xs.length\/k=ys.length)(h1:k<=xs.length)(h2:k<=ys.length):aD (xs.drop k) (ys.drop k)=cB (xs.length:Int) (ys.length:Int):=by
 rw[rV xs ys k h h1 h2];unfold cB;simp only[Int.ofNat_lt]
theorem JP(xs ys:Li)(k:Nat)(h1:k<xs.length)(h2:k<ys.length)(h:xs[k]≠ys[k]):aD (xs.drop k) (ys.drop k)=cB xs[k] ys[k]:=by
 rw[rU xs ys k h1 h2];unfold cB;split
 ·rfl
 split
 ·rfl
 omega
theorem oP(A B:Oa)(n m c d:Nat)(xs ys:Li)(w:Wv)(hA:aA w A xs)(hB:aA w B ys)(hn:xs.length=n)(hm:ys.length=m)
  (hn':n<=9223372036854775807) (hm':m<=9223372036854775807) :
  Calls prog 66 #[H A n c,H B m d] w fun e w'=>e=.returned (I J (aD xs ys))/\Qt w w':=by
 subst hn hm;go_enter func66,ntmps66;go_wp2_with fail
 all_goals
  go_loopw [5,11] (fun _ i wr=>∃k:Nat,k<=xs.length/\k<=ys.length/\i=I J k/\Qt w wr/\aD xs ys=aD (xs.drop k) (ys.drop k)) (fun _ i _=>xs.length-(intOf i).toNat)
  case atStart=>exact⟨0,Nat.zero_le _,Nat.zero_le _,rfl,Qt.refl _,rfl⟩
  obtain⟨k,hk1,hk2,rfl,⟨q,rfl⟩,hcmp⟩:=hrel;have HC:=G hcmp;clear hcmp;by_cases hlt:k<xs.length/\k<ys.length
  ·obtain⟨h1,h2⟩:=hlt
   obtain⟨b,o,rfl,hc⟩:=hA.at h1;obtain⟨b',o',rfl,hc'⟩:=hB.at h2;have hx:=hc k h1;have hy:=hc' k h2;have HS:=G (rU xs ys k h1 h2);have HN:=G (JP xs ys k h1 h2);clear hc hc';generalize xs[k]=x at *;generalize ys[k]=y at *;by_cases hxy:x=y
   ·have hne:(x !=y)=false:=by simpa using hxy
    have HXY:=G hxy;clear hxy;go_wp2;go_quiet(fail);go_wp2;go_roundw
    case rel=>exact⟨k+1,by omega,by omega,by go_num,by repeat(first|exact Qt.refl _|refine Qt.drewN ?_ _),by rw[HC.out,HS.out,if_neg (by have:=HXY.out;omega),if_neg (by have:=HXY.out;omega)]⟩
    simp[intOf];omega
   have hne:(x !=y)=true:=by simpa using hxy
   have HXY:=G hxy;clear hxy;go_wp2;go_quiet(fail);go_wp2;go_quiet((go_at_call 88;exact VS (kF _ _ _)));go_wp2;go_ret;exact⟨aE (by rw[HC.out,HN.out HXY.out]),by repeat(first|exact Qt.refl _|refine Qt.drewN ?_ _)⟩
  have HL:=G (JN xs ys k (by omega) hk1 hk2);go_wp2_with fail;refine(kF _ _ _).mono ?_;rintro e w' ⟨rfl,rfl⟩;go_wp2_with fail;go_ret;exact⟨aE (by rw[HC.out,HL.out]),by repeat(first|exact Qt.refl _|refine Qt.drewN ?_ _)⟩
end
section
section
variable {P:Program}{ops:Array Oper}{Q:Exit->Act->Wv->Prop}{md:Region.Mode}{S:Wv->Prop}
theorem eR{i:Nat}{oi:Oper}{v:Value}{fuel:Nat}{listed:Array Bool}{a:Act}{w:Wv}(d:Option Tmp)(hi:ops[i]?=Z oi)(hd:oi.dst=d)
  (hs:Region.noSelect ops=true) (hf:Region.free md ops listed i=true) (hr:(Region.ready md ops listed).contains i=true)
  (hQ:∀c a w,Q (.panic c) (a.put d v) w->Q (.panic c) a w) (hw:Region.wanted oi (yielded ops a.tmps)=true) (hS:S w) (hv:∀w,S w->(execOp a.eval oi).run P w=.ok (.value v) w)
  (h:wpAnyH P md ops Q S fuel (listed.setIfInBounds i true) (a.put d v) w):wpAnyH P md ops Q S (fuel+1) listed a w:=by
 subst hd;exact wpAnyH_take hi hs hf hr hQ (Or.inl ⟨hw,hv⟩) hS h
theorem GR{i:Nat}{oi:Oper}{fuel:Nat}{listed:Array Bool}{a:Act}{w:Wv}(d:Option Tmp)(hi:ops[i]?=Z oi)(hd:oi.dst=d)
  (hs:Region.noSelect ops=true) (hf:Region.free md ops listed i=true) (hr:(Region.ready md ops listed).contains i=true)
  (hQ:∀c a w,Q (.panic c) (a.put d undef) w->Q (.panic c) a w) (hw:Region.wanted oi (yielded ops a.tmps)=false) (hS:S w)
  (h:wpAnyH P md ops Q S fuel (listed.setIfInBounds i true) (a.put d undef) w):wpAnyH P md ops Q S (fuel+1) listed a w:=by
 subst hd;exact wpAnyH_take hi hs hf hr hQ (Or.inr ⟨hw,rfl⟩) hS h
theorem vJ{i:Nat}{oi:Oper}{fuel:Nat}{listed:Array Bool}{a:Act}{w:Wv}(d:Option Tmp){f:FuncId}{args:Array Value}{v:Value}(hi:ops[i]?=Z oi)(hd:oi.dst=d)
  (hr:Region.ready md ops listed=[i]) (hw:Region.wanted oi (yielded ops a.tmps)=true) (he:(execOp a.eval oi).run P w=.ok (.enter f args) w)
  (hc:Calls P f args w (fun e w'=>e=.returned v/\S w'))
  (h:∀w',S w'->wpAnyH P md ops Q S fuel (listed.setIfInBounds i true) (a.put d v) w'):wpAnyH P md ops Q S (fuel+1) listed a w:=by
 subst hd;refine wpAnyH_ready hr (by simp) (AllReadyH.cons hi (fun K hK=>?_) AllReadyH.nil);rw[if_pos hw];unfold Oper.wp;rw[he];simp only[Oper.upon];refine hc.mono ?_;rintro e w' ⟨rfl,hS'⟩;exact hK.out _ _ hS' (fun hh=>h w' hh)
theorem DA{o:Oper}{a:Act}{w:Wv}{K:Act->Wv->Prop}{G:Act->Wv->Prop}{E:Prop}{R:Value->Wv->Prop}(d:Option Tmp){f:FuncId}{args:Array Value}(hd:o.dst=d)
  (hK:Shut (∀a w,S w->(S w->G a w)->K a w)) (hw:Region.wanted o (yielded ops a.tmps)=true) (he:(execOp a.eval o).run P w=.ok (.enter f args) w)
  (hc:Calls P f args w (fun e w'=>∃v,e=.returned v/\S w'/\R v w'))
  (h:∀v w',S w'->R v w'->G (a.put d v) w'):if Region.wanted o (yielded ops a.tmps)=true then Oper.wp P o a w K Q else E:=by
 subst hd;rw[if_pos hw];unfold Oper.wp;rw[he];simp only[Oper.upon];refine hc.mono ?_;rintro e w' ⟨v,rfl,hS',hR⟩;exact hK.out _ _ hS' (fun hh=>h v w' hh hR)
theorem DB{o:Oper}{a:Act}{w w':Wv}{K:Act->Wv->Prop}{G:Act->Wv->Prop}{E:Prop}(d:Option Tmp){v:Value}(hd:o.dst=d)
  (hK:Shut (∀a w,S w->(S w->G a w)->K a w)) (hw:Region.wanted o (yielded ops a.tmps)=true) (he:(execOp a.eval o).run P w=.ok (.value v) w') (hS:S w')
  (h:S w'->G (a.put d v) w'):if Region.wanted o (yielded ops a.tmps)=true then Oper.wp P o a w K Q else E:=by
 subst hd;rw[if_pos hw];unfold Oper.wp;rw[he];simp only[Oper.upon];exact hK.out _ _ hS h
end
section
variable {P:Program}{ops:Array Oper}{Q:Exit->Act->Wv->Prop}{md:Region.Mode}{S:Wv->Prop}
theorem tK{v:Value}(i k:Nat){oi:Oper}{fuel:Nat}{listed l':Array Bool}{a a':Act}{w:Wv}
  (h:wpAnyH P md ops Q S fuel l' a' w) (hi:ops[i]?=Z oi:=by rfl) (hd:oi.dst=Z k:=by rfl)
  (hs:Region.noSelect ops=true:=by kernel_rfl) (hf:Region.free md ops listed i=true:=by kernel_rfl) (hr:(Region.ready md ops listed).contains i=true:=by kernel_rfl)
  (hQ:∀c a w,Q (.panic c) (a.put (Z k) v) w->Q (.panic c) a w:=by exact fun _ _ _ h=>h) (hw:Region.wanted oi (yielded ops a.tmps)=true:=by rfl) (hS:S w:=by assumption)
  (hv:∀w,S w->(execOp a.eval oi).run P w=.ok (.value v) w:=by intro w hSw;(try dsimp only at hSw);go_split_ands;go_simp;try(with_reducible rfl))
  (hl:listed.setIfInBounds i true=l':=by(try simp only[sA,sB,sC]);first|done|rfl)
  (ha:a.put (Z k) v=a':=by(try simp only[Act.put,sA,sB,sC]);first|done|rfl):wpAnyH P md ops Q S (fuel+1) listed a w:=by
 subst hl;subst ha;exact eR (Z k) hi hd hs hf hr hQ hw hS hv h
theorem sK(i k:Nat){oi:Oper}{fuel:Nat}{listed l':Array Bool}{a a':Act}{w:Wv}
  (h:wpAnyH P md ops Q S fuel l' a' w) (hi:ops[i]?=Z oi:=by rfl) (hd:oi.dst=Z k:=by rfl)
  (hs:Region.noSelect ops=true:=by kernel_rfl) (hf:Region.free md ops listed i=true:=by kernel_rfl) (hr:(Region.ready md ops listed).contains i=true:=by kernel_rfl)
  (hQ:∀c a w,Q (.panic c) (a.put (Z k) undef) w->Q (.panic c) a w:=by exact fun _ _ _ h=>h) (hw:Region.wanted oi (yielded ops a.tmps)=false:=by rfl) (hS:S w:=by assumption)
  (hl:listed.setIfInBounds i true=l':=by(try simp only[sA,sB,sC]);first|done|rfl)
  (ha:a.put (Z k) undef=a':=by(try simp only[Act.put,sA,sB,sC]);first|done|rfl):wpAnyH P md ops Q S (fuel+1) listed a w:=by
 subst hl;subst ha;exact GR (Z k) hi hd hs hf hr hQ hw hS h
theorem tV(i k:Nat)(v:Value){oi:Oper}{fuel:Nat}{listed:Array Bool}{a:Act}{w:Wv}
  (hv:∀w,S w->(execOp a.eval oi).run P w=.ok (.value v) w) (h:wpAnyH P md ops Q S fuel (listed.setIfInBounds i true) (a.put (Z k) v) w) (hi:ops[i]?=Z oi:=by rfl) (hd:oi.dst=Z k:=by rfl)
  (hs:Region.noSelect ops=true:=by kernel_rfl) (hf:Region.free md ops listed i=true:=by kernel_rfl) (hr:(Region.ready md ops listed).contains i=true:=by kernel_rfl)
  (hQ:∀c a w,Q (.panic c) (a.put (Z k) v) w->Q (.panic c) a w:=by exact fun _ _ _ h=>h) (hw:Region.wanted oi (yielded ops a.tmps)=true:=by rfl) (hS:S w:=by assumption):wpAnyH P md ops Q S (fuel+1) listed a w:=
 eR (Z k) hi hd hs hf hr hQ hw hS hv h
end
end
section
open Go.RowKit Go.Maps Go.WideMaps
def l_(v:Value):Option (DataW Value×List MemPlace):=Z (.held v,[])
def aT{κ:Type}(P:Program)(k:TypeId)(kl:κ->Lit)(ok:κ->Prop)(w:Wv)(b n:Nat)(f:κ->Option Value):Prop:=
 ∃D:DataW Value,w.ownsMap P k l_ b n D/\∀x,ok x->Maps.has D (kl x)=(f x).isSome/\∀z,D.atKey (kl x) (.held z)=.held ((f x).getD z)
section
variable {κ:Type}{P:Program}{k:TypeId}{kl:κ->Lit}{ok:κ->Prop}{w w':Wv}{b n:Nat}{f:κ->Option Value}
theorem aT.made(P:Program)(k:TypeId)(kl:κ->Lit)(ok:κ->Prop)(w:Wv):aT P k kl ok (w.alloc (.map #[] 0)) w.heap.size 0 (fun _=>N):=
 ⟨.map [],World.ownsMap_made w P k l_,fun _ _=>⟨rfl,fun _=>rfl⟩⟩
theorem aT.lt(h:aT P k kl ok w b n f):b<w.heap.size:=h.elim fun _ h=>h.1.lt
theorem aT.kept{row:Option Nat}(h:aT P k kl ok w b n f)(hg:w.grownBy w' row)(hne:Z b≠row):aT P k kl ok w' b n f:=by
 obtain⟨D,h1,h2⟩:=h;exact⟨D,h1.kept hg hne,h2⟩
theorem aT.below(h:aT P k kl ok w b n f)(hb:By w w'):aT P k kl ok w' b n f:=
 h.kept (row:=N) ⟨hb.os,hb.tape,hb.output,hb.size,fun k hk _=>hb.block k hk⟩ (by simp)
theorem aT.alloc(h:aT P k kl ok w b n f)(o:Obj):aT P k kl ok (w.alloc o) b n f:=h.below (ba _ _)
theorem aT.mono(h:aT P k kl ok w b n f){m:Nat}(hm:n<=m):aT P k kl ok w b m f:=by
 obtain⟨D,h1,h2⟩:=h;exact⟨D,h1.mono hm,h2⟩
theorem aT.ext(h:aT P k kl ok w b n f){g:κ->Option Value}(hg:∀x,ok x->g x=f x):aT P k kl ok w b n g:=by
 obtain⟨D,h1,h2⟩:=h;exact⟨D,h1,fun x hx=>by rw[hg x hx];exact h2 x hx⟩
theorem aT.look{t e:TypeId}(h:aT P k kl ok w b n f)(K:Keyed P k)(ht:P.underlying t=Z (.map k e)){z:Value}(hz:(zeroValue e).run P w=.ok z w){key:Value}{x:κ}(hx:ok x)(hkey:keyOf P k key=Z (kl x)):
  (Instr.lookup t (.map (Z b)) key false).run P w=.ok ((f x).getD z) w:=by
 obtain⟨D,h1,h2⟩:=h;obtain⟨v,ps,hrun,hv⟩:=h1.lookup K ht hz (zd:=.held z) (zp:=[]) rfl hkey;rw[(h2 x hx).2]at hv;simp only[l_,Option.some.injEq,Prod.mk.injEq,DataW.held.injEq]at hv;rw[hrun,hv.1]
theorem aT.lookOk{t e:TypeId}(h:aT P k kl ok w b n f)(K:Keyed P k)(ht:P.underlying t=Z (.map k e)){z:Value}(hz:(zeroValue e).run P w=.ok z w){key:Value}{x:κ}(hx:ok x)(hkey:keyOf P k key=Z (kl x)):
  (Instr.lookup t (.map (Z b)) key true).run P w=.ok (.tuple #[(f x).getD z,.bool (f x).isSome]) w:=by
 obtain⟨D,h1,h2⟩:=h;obtain⟨v,ps,hrun,hv⟩:=h1.look_ok K ht hz (zd:=.held z) (zp:=[]) rfl hkey;rw[(h2 x hx).2]at hv;simp only[l_,Option.some.injEq,Prod.mk.injEq,DataW.held.injEq]at hv;rw[hrun,hv.1,(h2 x hx).1]
theorem aT.put[DecidableEq κ]{t e:TypeId}(h:aT P k kl ok w b n f)(K:Keyed P k)(ht:P.underlying t=Z (.map k e))(hn:n<maxLen){key v:Value}{x:κ}(hx:ok x)(hkey:keyOf P k key=Z (kl x))
  (hinj:∀y,ok y->kl y=kl x->y=x) :
  ∃w',(Instr.mapUpdate t (.map (Z b)) key v).run P w=.ok () w'/\aT P k kl ok w' b (n+1) (fun y=>if y=x then Z v else f y)/\w.grownBy w' (Z b):=by
 obtain⟨D,h1,h2⟩:=h;obtain⟨w',hrun,r1,r2⟩:=h1.update K ht hn hkey (val:=v) (d:=.held v) (ps:=[]) rfl;refine⟨w',hrun,⟨_,r1,fun y hy=>?_⟩,r2⟩;dsimp only;by_cases e:y=x
 ·subst e
  rw[if_pos rfl];exact⟨by rw[has_put_same h1.isMap (K.key hkey)];rfl,fun z=>atKey_put_same h1.isMap (K.key hkey) _ _⟩
 rw[if_neg e];have hne:kl y≠kl x:=fun e'=>e (hinj y hy e')
 rw[has_put_other hne];exact⟨(h2 y hy).1,fun z=>(atKey_put_other hne _ _).trans ((h2 y hy).2 z)⟩
end
section
variable {κ:Type}{P:Program}{w:Wv}{ops:Array Oper}{rest:List Oper}{o:Oper}{a:Act}{Q:Exit->Act->Wv->Prop}
variable {k:TypeId}{kl:κ->Lit}{ok:κ->Prop}{b n:Nat}{f:κ->Option Value}
theorem qJ(hg:o.guard=N)(m y:Operand)(t:TypeId)(hop:o.op=Op.lookup t m y false){e:TypeId}(h:aT P k kl ok w b n f)(K:Keyed P k)(ht:P.underlying t=Z (.map k e)){z:Value}(hz:(zeroValue e).run P w=.ok z w)
  (hm:a.eval m=.map (Z b)) {key:Value} {x:κ} (hy:a.eval y=key) (hx:ok x) (hkey:keyOf P k key=Z (kl x))
  (hK:wpList P ops Q rest (a.put o.dst ((f x).getD z)) w):wpList P ops Q (o::rest) a w:=by
 refine wpList_plain hg fun K' hK'=>?_
 unfold Oper.wp;simp[execOp,hop,hm,hy,h.look K ht hz hx hkey,Result.andThen];exact hK' _ _ hK
theorem gY(hg:o.guard=N)(m y:Operand)(t:TypeId)(hop:o.op=Op.lookup t m y true){e:TypeId}(h:aT P k kl ok w b n f)(K:Keyed P k)(ht:P.underlying t=Z (.map k e)){z:Value}(hz:(zeroValue e).run P w=.ok z w)
  (hm:a.eval m=.map (Z b)) {key:Value} {x:κ} (hy:a.eval y=key) (hx:ok x) (hkey:keyOf P k key=Z (kl x))
  (hK:wpList P ops Q rest (a.put o.dst (.tuple #[(f x).getD z,.bool (f x).isSome])) w):wpList P ops Q (o::rest) a w:=by
 refine wpList_plain hg fun K' hK'=>?_
 unfold Oper.wp;simp[execOp,hop,hm,hy,h.lookOk K ht hz hx hkey,Result.andThen];exact hK' _ _ hK
theorem nV[DecidableEq κ](hg:o.guard=N)(m y v:Operand)(t:TypeId)(hop:o.op=Op.mapUpdate t m y v){e:TypeId}(h:aT P k kl ok w b n f)(K:Keyed P k)(ht:P.underlying t=Z (.map k e))(hn:n<maxLen)
  (hm:a.eval m=.map (Z b)) {key val:Value} {x:κ} (hy:a.eval y=key) (hv:a.eval v=val) (hx:ok x) (hkey:keyOf P k key=Z (kl x)) (hinj:∀y,ok y->kl y=kl x->y=x)
  (hK:∀w',aT P k kl ok w' b (n+1) (fun y=>if y=x then Z val else f y)->w.grownBy w' (Z b)->wpList P ops Q rest (a.put o.dst undef) w'):wpList P ops Q (o::rest) a w:=by
 refine wpList_plain hg fun K' hK'=>?_
 obtain⟨w',hrun,r1,r2⟩:=h.put K ht hn (v:=val) hx hkey hinj;unfold Oper.wp;simp[execOp,hop,hm,hy,hv,hrun,Result.andThen];exact hK' _ _ (hK w' r1 r2)
end
theorem qI{z:Int}(h1:-9223372036854775808<=z)(h2:z<=9223372036854775807):(Lit.int .i64 z).wf=true:=by
 simp only[Lit.wf,Bool.and_eq_true,decide_eq_true_eq];exact⟨h1,h2⟩
theorem kD{B:Nat}{a w w':Wv}{g:Nat}(h:Below B a w)(hg:w.grownBy w' (Z g))(hb:B<=g)(hs:B<=w.heap.size):Below B a w':=
 h.grown hg hs fun k e=>by injection e with e;omega
def nO(s:ByteArray):Lit:=.string s.data.toList
def sok(s:ByteArray):Prop:=s.size<=maxLen
theorem ZI{s t:ByteArray}(h:nO s=nO t):s=t:=by
 injection h with h;cases s;cases t
 simp only[ByteArray.mk.injEq];exact Array.toList_inj.1 h
abbrev FA(P:Program)(k:TypeId)(w:Wv)(b n:Nat)(f:ByteArray->Option Value):Prop:=aT P k nO sok w b n f
end
end Go.Proofs.YtpfbnikbebccjaaGreatDoor
