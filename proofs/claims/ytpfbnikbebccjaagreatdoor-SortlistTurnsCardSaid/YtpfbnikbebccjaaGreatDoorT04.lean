import Derived.Test.YtpfbnikbebccjaaGreatDoorT00
import Derived.Test.YtpfbnikbebccjaaGreatDoorT01
import Derived.Test.YtpfbnikbebccjaaGreatDoorT02
import Derived.Test.YtpfbnikbebccjaaGreatDoorT03
import Derived.Test.YtpfbnikbebccjaaGreatDoorProg
import Derived.WalkKit
import Derived.WalkLawsBesides
import Derived.Lib.Hide
import Derived.WalkSpells
import Derived.Outline
set_option maxRecDepth 100000
set_option maxHeartbeats 51200000
namespace Go.Proofs.YtpfbnikbebccjaaGreatDoor
open Option renaming none→N,some→Z
open Value renaming int→I,slice→H
open IntKind renaming i64→J
open Go.Proofs.Tryz
section
open Go.RowKit
def cU(rs:List Rg)(c:Int):Bool:=rs.any (fun r=>inR r.lo r.hi c)
theorem sQ{rs:List Rg}{c:Int}(h1:0≤c)(h2:c≤1114111):bA rs c=cU rs c:=by unfold bA cU;rw[iN h1 h2,Bool.true_and]
theorem c_{rs:List Rg}{c:Int}:cU rs c=true ↔ ∃r∈rs,r.lo≤c∧c≤r.hi:=by
 unfold cU;rw[List.any_eq_true];constructor
 ·rintro⟨r,hr,h⟩;exact⟨r,hr,iD.1 h⟩
 rintro⟨r,hr,h⟩;exact⟨r,hr,iD.2 h⟩
def okR(rs:List Rg):Prop:=(∀r∈rs,dI r)∧rs.Pairwise (fun a b=>a.hi+1<b.lo)
theorem okR.nil:okR []:=⟨fun _ h=>(by cases h),List.Pairwise.nil⟩
theorem zH:∀{xs ys:List Rg},okR xs→okR ys→(∀c,0≤c→c≤1114111→(cU xs c=true ↔ cU ys c=true))→xs=ys
 | [],[],_,_,_=>rfl
 | [],y::s,_,hy,h=>by
  have hc:=hy.1 y (by simp);unfold dI at hc;have:=(h y.lo hc.1 (by omega)).2 (c_.2 ⟨y,by simp,by omega,hc.2.1⟩);obtain⟨r,hr,_⟩:=c_.1 this;cases hr
 |x::r,[],hx,_,h=>by
  have hc:=hx.1 x (by simp);unfold dI at hc;have:=(h x.lo hc.1 (by omega)).1 (c_.2 ⟨x,by simp,by omega,hc.2.1⟩);obtain⟨r,hr,_⟩:=c_.1 this;cases hr
 |x::r,y::s,hx,hy,h=>by
  have cx:=hx.1 x (by simp);have cy:=hy.1 y (by simp);obtain⟨px,qx⟩:=List.pairwise_cons.1 hx.2;obtain⟨py,qy⟩:=List.pairwise_cons.1 hy.2;unfold dI at cx cy;have lo:x.lo=y.lo:=by
   rcases Int.lt_trichotomy x.lo y.lo with g|g|g
   ·have:=(h x.lo cx.1 (by omega)).1 (c_.2 ⟨x,by simp,by omega,cx.2.1⟩)
    obtain⟨t,ht,t1,t2⟩:=c_.1 this;rcases List.mem_cons.1 ht with rfl|ht
    ·omega
    have:=py t ht;omega
   ·exact g
   have:=(h y.lo cy.1 (by omega)).2 (c_.2 ⟨y,by simp,by omega,cy.2.1⟩);obtain⟨t,ht,t1,t2⟩:=c_.1 this;rcases List.mem_cons.1 ht with rfl|ht
   ·omega
   have:=px t ht;omega
  have hi:x.hi=y.hi:=by
   rcases Int.lt_trichotomy x.hi y.hi with g|g|g
   ·have:=(h (x.hi+1) (by omega) (by omega)).2 (c_.2 ⟨y,by simp,by omega,by omega⟩)
    obtain⟨t,ht,t1,t2⟩:=c_.1 this;rcases List.mem_cons.1 ht with rfl|ht
    ·omega
    have:=px t ht;omega
   ·exact g
   have:=(h (y.hi+1) (by omega) (by omega)).1 (c_.2 ⟨x,by simp,by omega,by omega⟩);obtain⟨t,ht,t1,t2⟩:=c_.1 this;rcases List.mem_cons.1 ht with rfl|ht
   ·omega
   have:=py t ht;omega
  have e:x=y:=by cases x;cases y;simp_all
  subst e;rw[zH (xs:=r) (ys:=s) ⟨fun t ht=>hx.1 t (by simp[ht]),qx⟩ ⟨fun t ht=>hy.1 t (by simp[ht]),qy⟩ (fun c c0 c1=>?_)];constructor
  ·intro g
   obtain⟨t,ht,t1,t2⟩:=c_.1 g;have:=px t ht;obtain⟨u,hu,u1,u2⟩:=c_.1 ((h c c0 c1).1 (c_.2 ⟨t,by simp[ht],t1,t2⟩));rcases List.mem_cons.1 hu with rfl|hu
   ·omega
   exact c_.2 ⟨u,hu,u1,u2⟩
  intro g;obtain⟨t,ht,t1,t2⟩:=c_.1 g;have:=py t ht;obtain⟨u,hu,u1,u2⟩:=c_.1 ((h c c0 c1).2 (c_.2 ⟨t,by simp[ht],t1,t2⟩));rcases List.mem_cons.1 hu with rfl|hu
  ·omega
  exact c_.2 ⟨u,hu,u1,u2⟩
def f_(r:Rg):Rg:=⟨max r.lo 0,min r.hi 1114111⟩
def dA(rs:List Rg):List Rg:=(rs.map f_).filter (fun r=>decide (r.lo≤r.hi))
theorem IP{rs:List Rg}{i:Nat}(hi:i<rs.length):dA (rs.take (i+1))=dA (rs.take i)++(if(f_ rs[i]).lo≤(f_ rs[i]).hi then [f_ rs[i]]else []):=by
 unfold dA;rw[List.take_succ_eq_append_getElem hi,List.map_append,List.filter_append];congr 1;by_cases h:(f_ rs[i]).lo≤(f_ rs[i]).hi<;>simp[h]
theorem wA(rs:List Rg):(dA rs).length≤rs.length:=by
 unfold dA;have:=List.length_filter_le (fun r:Rg=>decide (r.lo≤r.hi)) (rs.map f_);rw[List.length_map]at this;exact this
theorem IOq(rs:List Rg):∀r∈dA rs,dI r:=by
 intro r hr;unfold dA at hr;rw[List.mem_filter,List.mem_map]at hr;obtain⟨⟨q,_,rfl⟩,h⟩:=hr;simp at h;unfold dI;unfold f_ at *;dsimp only at *;omega
theorem IN{rs:List Rg}{c:Int}(h1:0≤c)(h2:c≤1114111):cU (dA rs) c=true ↔ cU rs c=true:=by
 rw[c_,c_];constructor
 ·rintro⟨r,hr,a,b⟩
  unfold dA at hr;rw[List.mem_filter,List.mem_map]at hr;obtain⟨⟨q,hq,rfl⟩,_⟩:=hr;unfold f_ at a b;dsimp only at a b;exact⟨q,hq,by omega,by omega⟩
 rintro⟨q,hq,a,b⟩;refine⟨f_ q,?_,?_,?_⟩
 ·unfold dA
  rw[List.mem_filter,List.mem_map];refine⟨⟨q,hq,rfl⟩,?_⟩;unfold f_;simp;omega
 ·unfold f_;dsimp only;omega
 unfold f_;dsimp only;omega
def eY:List Rg→Int→List Rg
 | [],_=>[]
 | [x],h=>[⟨x.lo,max x.hi h⟩]
 |x::y::r,h=>x::eY (y::r) h
theorem xM:∀(l:List Rg)(h:Int),(eY l h).length=l.length
 | [],_=>rfl
 | [_],_=>rfl
 |x::y::r,h=>by simp only[eY,List.length_cons,xM (y::r) h]
theorem o_:∀{l:List Rg}{n:Nat}(hn:l.length=n+1)(h:Int),eY l h=l.set n ⟨(l[n]'(by omega)).lo,max (l[n]'(by omega)).hi h⟩
 | [x],0,_,h=>rfl
 |x::y::r,n+1,hn,h=>by
  have:=o_ (l:=y::r) (n:=n) (by simpa using hn) h;simp only[eY,List.set_cons_succ,this,List.getElem_cons_succ]
def mrg(out:List Rg)(r:Rg):List Rg:=match out.getLast? with|some l=>if r.lo≤l.hi+1 then eY out r.hi else out++[r]|none=>[r]
structure Mg(ps out:List Rg)(b:Int):Prop where
 ok:okR out
 any:∀c,cU out c=true ↔ cU ps c=true
 lo:∀r∈out,r.lo≤b
theorem Mg.nil(b:Int):Mg [] [] b:=⟨okR.nil,fun _=>Iff.rfl,fun _ h=>(by cases h)⟩
theorem mA:∀{l:List Rg}{h:Int}{r:Rg},r∈eY l h→∃q∈l,q.lo=r.lo∧(r.hi=q.hi∨(l.getLast?=Z q∧r.hi=max q.hi h))
 | [x],h,r,hr=>by
  simp only[eY,List.mem_singleton]at hr;subst hr;exact⟨x,by simp,rfl,.inr ⟨rfl,rfl⟩⟩
 |x::y::l,h,r,hr=>by
  simp only[eY,List.mem_cons]at hr;rcases hr with rfl|hr
  ·exact⟨r,by simp,rfl,.inl rfl⟩
  obtain⟨q,hq,h1,h2⟩:=mA hr;exact⟨q,by simp[hq],h1,h2.imp id (fun⟨a,b⟩=>⟨by rw[List.getLast?_cons_cons];exact a,b⟩)⟩
theorem sL:∀{l:List Rg}{x q:Rg}{c:Int},l.getLast?=Z x→x.lo≤q.lo→q.lo≤x.hi+1→x.lo≤x.hi→(cU (eY l q.hi) c=true ↔ (cU l c=true∨(q.lo≤c∧c≤q.hi)))
 | [y],x,q,c,hl,h1,h2,h3=>by
  simp at hl;subst hl;rw[c_,c_];simp only[eY,List.mem_singleton];constructor
  ·rintro⟨_,rfl,a,b⟩
   dsimp only at a b;by_cases g:c≤y.hi
   ·exact .inl ⟨y,rfl,a,g⟩
   exact .inr (by omega)
  rintro(⟨_,rfl,a,b⟩|⟨a,b⟩)
  ·exact⟨_,rfl,a,by dsimp only;omega⟩
  exact⟨_,rfl,by dsimp only;omega,by dsimp only;omega⟩
 |z::y::r,x,q,c,hl,h1,h2,h3=>by
  rw[List.getLast?_cons_cons]at hl;have ih:=sL (l:=y::r) (x:=x) (q:=q) (c:=c) hl h1 h2 h3;simp only[eY];have e:∀(s:List Rg),cU (z::s) c=true ↔ (inR z.lo z.hi c=true∨cU s c=true):=fun s=>by unfold cU;rw[List.any_cons,Bool.or_eq_true]
  rw[e,e,ih,or_assoc]
theorem sM:∀{l:List Rg}{h:Int},l.Pairwise (fun a b=>a.hi+1<b.lo)→(eY l h).Pairwise (fun a b=>a.hi+1<b.lo)
 | [],_,_=>List.Pairwise.nil
 | [x],_,_=>List.pairwise_singleton _ _
 |x::y::r,h,hp=>by
  obtain⟨p1,p2⟩:=List.pairwise_cons.1 hp;simp only[eY];refine List.pairwise_cons.2 ⟨fun t ht=>?_,sM p2⟩;obtain⟨q,hq,h1,_⟩:=mA ht;have:=p1 q hq;omega
theorem mS{xs ys:List Rg}{c:Int}:cU (xs++ys) c=true ↔ (cU xs c=true∨cU ys c=true):=by unfold cU;rw[List.any_append,Bool.or_eq_true]
theorem vI{q:Rg}{c:Int}:cU [q] c=true ↔ (q.lo≤c∧c≤q.hi):=by unfold cU;simp[iD]
theorem yH:∀{l:List Rg}{x:Rg},(∀r∈l,dI r)→l.Pairwise (fun a b=>a.hi+1<b.lo)→l.getLast?=Z x→∀r∈l,r.hi≤x.hi
 | [],_,_,_,h,_,_=>by cases h
 | [y],x,_,_,h,r,hr=>by simp at h hr;subst h;subst hr;exact Int.le_refl _
 |z::y::l,x,hc,hp,h,r,hr=>by
  rw[List.getLast?_cons_cons]at h;obtain⟨p1,p2⟩:=List.pairwise_cons.1 hp;have ih:=yH (l:=y::l) (fun t ht=>hc t (by simp[ht])) p2 h;rcases List.mem_cons.1 hr with rfl|hr
  ·have h1:=p1 y (by simp)
   have h2:=hc y (by simp);have h3:=ih y (by simp);unfold dI at h2;omega
  exact ih r hr
theorem Mg.step{ps out:List Rg}{b:Int}{q:Rg}(h:Mg ps out b)(hb:b≤q.lo)(hq:dI q):Mg (ps++[q]) (mrg out q) q.lo:=by
 obtain⟨⟨o1,o2⟩,ha,hl⟩:=h;unfold dI at hq;unfold mrg;cases hx:out.getLast? with
 |none=>
  have:out=[]:=List.getLast?_eq_none_iff.1 hx;subst this;refine⟨⟨fun r hr=>?_,List.pairwise_singleton _ _⟩,fun c=>?_,fun r hr=>?_⟩
  ·simp at hr;subst hr;exact hq
  ·rw[mS,←ha c]
   have:¬cU [] c=true:=by unfold cU;simp
   simp[this]
  simp at hr;subst hr;exact Int.le_refl _
 |some x=>
  have hxm:x∈out:=List.mem_of_getLast? hx;have hxo:=o1 x hxm;have hxl:=hl x hxm;unfold dI at hxo;simp only;split
  ·next g=>
   refine⟨⟨fun r hr=>?_,sM o2⟩,fun c=>?_,fun r hr=>?_⟩
   ·obtain⟨t,ht,h1,h2⟩:=mA hr
    have:=o1 t ht;unfold dI at this⊢;rcases h2 with h2|⟨_,h2⟩<;>omega
   ·rw[sL hx (by omega) g (by omega),mS,ha c,vI]
   obtain⟨t,ht,h1,_⟩:=mA hr;have:=hl t ht;omega
  next g=>
  have hm:=yH o1 o2 hx;refine⟨⟨fun r hr=>?_,?_⟩,fun c=>?_,fun r hr=>?_⟩
  ·rcases List.mem_append.1 hr with hr|hr
   ·exact o1 r hr
   simp at hr;subst hr;exact hq
  ·rw[List.pairwise_append]
   refine⟨o2,List.pairwise_singleton _ _,fun a ha' t ht=>?_⟩;simp at ht;subst ht;have:=hm a ha';omega
  ·rw[mS,mS,ha c]
  rcases List.mem_append.1 hr with hr|hr
  ·have:=hl r hr;omega
  simp at hr;subst hr;exact Int.le_refl _
def bJ:List Int→Int→List Int
 | [],n=>[n]
 |x::r,n=>if n≤x then(if n<x then n::x::r else x::r)else x::bJ r n
theorem jT:∀{l:List Int}{n x:Int},x∈bJ l n ↔ (x=n∨x∈l)
 | [],n,x=>by simp[bJ]
 |y::r,n,x=>by
  simp only[bJ];split
  ·split
   ·simp
   have:n=y:=by omega
   subst this;simp
  rw[List.mem_cons,jT,List.mem_cons];constructor
  ·rintro(h|h|h)
   ·exact .inr (.inl h)
   ·exact .inl h
   exact .inr (.inr h)
  rintro(h|h|h)
  ·exact .inr (.inl h)
  ·exact .inl h
  exact .inr (.inr h)
theorem zW:∀{l:List Int}{n:Int},l.Pairwise (·< ·)→(bJ l n).Pairwise (·< ·)
 | [],n,_=>List.pairwise_singleton _ _
 |y::r,n,h=>by
  obtain⟨h1,h2⟩:=List.pairwise_cons.1 h;simp only[bJ];split
  ·split
   ·refine List.pairwise_cons.2 ⟨fun t ht=>?_,h⟩
    rcases List.mem_cons.1 ht with rfl|ht
    ·assumption
    have:=h1 t ht;omega
   exact h
  refine List.pairwise_cons.2 ⟨fun t ht=>?_,zW h2⟩;rcases jT.1 ht with rfl|ht
  ·omega
  exact h1 t ht
def dV(l:List Int)(r:Rg):List Int:=
 let l1:=if inR 0 1114111 r.lo=true then bJ l r.lo else l
 if 0≤r.hi∧r.hi<1114111 then bJ l1 (r.hi+1)else l1
def bH(l:List Int)(rs:List Rg):List Int:=bJ (rs.foldl dV l) 0
theorem JW{rs:List Rg}{l:List Int}{i:Nat}(hi:i<rs.length):(rs.take (i+1)).foldl dV l=dV ((rs.take i).foldl dV l) rs[i]:=by
 rw[List.take_succ_eq_append_getElem hi,List.foldl_append];rfl
structure Ct(rs:List Rg)(l:List Int):Prop where
 asc:l.Pairwise (·< ·)
 bd:∀x∈l,0≤x∧x≤1114111
 lo:∀r∈rs,0≤r.lo→r.lo≤1114111→r.lo∈l
 hi:∀r∈rs,0≤r.hi→r.hi<1114111→r.hi+1∈l
theorem Ct.nil:Ct [] []:=⟨List.Pairwise.nil,fun _ h=>(by cases h),fun _ h=>(by cases h),fun _ h=>(by cases h)⟩
theorem Ct.place{rs:List Rg}{l:List Int}(h:Ct rs l){n:Int}(h1:0≤n)(h2:n≤1114111):Ct rs (bJ l n):=
 ⟨zW h.asc,fun x hx=>by rcases jT.1 hx with rfl|hx;exact⟨h1,h2⟩;exact h.bd x hx,fun r hr a b=>jT.2 (.inr (h.lo r hr a b)),fun r hr a b=>jT.2 (.inr (h.hi r hr a b))⟩
theorem Ct.step{rs:List Rg}{l:List Int}(h:Ct rs l)(r:Rg):Ct (rs++[r]) (dV l r):=by
 unfold dV;have h1:∃l1,(if inR 0 1114111 r.lo=true then bJ l r.lo else l)=l1∧Ct rs l1∧(0≤r.lo→r.lo≤1114111→r.lo∈l1):=by
  by_cases g:inR 0 1114111 r.lo=true
  ·have gg:=iD.1 g
   exact⟨_,rfl,by rw[if_pos g];exact h.place gg.1 gg.2,fun _ _=>by rw[if_pos g];exact jT.2 (.inl rfl)⟩
  refine⟨_,rfl,by rw[if_neg g];exact h,fun a b=>absurd (iN a b) g⟩
 obtain⟨l1,e,c1,c2⟩:=h1;dsimp only;rw[e];have h2:∃l2,(if 0≤r.hi∧r.hi<1114111 then bJ l1 (r.hi+1)else l1)=l2∧Ct rs l2∧(0≤r.lo→r.lo≤1114111→r.lo∈l2)∧(0≤r.hi→r.hi<1114111→r.hi+1∈l2):=by
  by_cases g:0≤r.hi∧r.hi<1114111
  ·exact⟨_,rfl,by rw[if_pos g];exact c1.place (by omega) (by omega),fun a b=>by rw[if_pos g];exact jT.2 (.inr (c2 a b)),fun _ _=>by rw[if_pos g];exact jT.2 (.inl rfl)⟩
  exact⟨_,rfl,by rw[if_neg g];exact c1,fun a b=>by rw[if_neg g];exact c2 a b,fun a b=>absurd ⟨a,b⟩ g⟩
 obtain⟨l2,e2,d1,d2,d3⟩:=h2;rw[e2];refine⟨d1.asc,d1.bd,fun t ht a b=>?_,fun t ht a b=>?_⟩
 ·rcases List.mem_append.1 ht with ht|ht
  ·exact d1.lo t ht a b
  simp at ht;subst ht;exact d2 a b
 rcases List.mem_append.1 ht with ht|ht
 ·exact d1.hi t ht a b
 simp at ht;subst ht;exact d3 a b
theorem Ct.fold:∀(rs:List Rg){qs:List Rg}{l:List Int},Ct qs l→Ct (qs++rs) (rs.foldl dV l)
 | [],qs,l,h=>by simpa using h
 |r::rs,qs,l,h=>by
  have:=Ct.fold rs (h.step r);rw[List.append_assoc]at this;exact this
theorem Ct.cuts{rs qs:List Rg}{l:List Int}(h:Ct qs l):Ct (qs++rs) (bH l rs)∧0∈bH l rs:=
 ⟨(Ct.fold rs h).place (by omega) (by omega),jT.2 (.inl rfl)⟩
def nxt(cs:List Int)(k:Nat):Int:=(cs[k]?).getD 1114112
def bld(p:Int→Bool)(cs:List Int):Nat→List Rg×Bool
 |0=>([],false)
 |k+1=>
  let s:=bld p cs k
  let c:=nxt cs k
  let h:=nxt cs (k+1)-1
  if p c=true then(if s.2=true then eY s.1 h else s.1++[⟨c,h⟩],true)else(s.1,false)
def eO(rs:List Rg):List Rg:=(bld (bA rs) (bH (bH [] rs) []) (bH (bH [] rs) []).length).1
structure Bd(p:Int→Bool)(out:List Rg)(o:Bool)(n:Int):Prop where
 ok:okR out
 any:∀c,0≤c→c<n→(cU out c=true ↔ p c=true)
 hi:∀r∈out,r.hi<n
 yes:o=true→∃x,out.getLast?=Z x∧x.hi=n-1
 no:o=false→∀r∈out,r.hi+1<n
theorem Bd.step{p:Int→Bool}{out:List Rg}{o:Bool}{n m:Int}(h:Bd p out o n)(h0:0≤n)(hm:n<m)(hmx:m≤1114112)(hc:∀c,n≤c→c<m→p c=p n):
  Bd p (if p n=true then(if o=true then eY out (m-1)else out++[⟨n,m-1⟩],true)else(out,false)).1 (if p n=true then(if o=true then eY out (m-1)else out++[⟨n,m-1⟩],true)else(out,false)).2 m:=by
 obtain⟨⟨o1,o2⟩,ha,hh,hy,hn⟩:=h;by_cases hp:p n=true
 ·rw[if_pos hp]
  dsimp only;cases o with
  |true=>
   rw[if_pos rfl];obtain⟨x,hx,hxh⟩:=hy rfl;have hxm:=List.mem_of_getLast? hx;have hxo:=o1 x hxm;unfold dI at hxo;refine⟨⟨fun r hr=>?_,sM o2⟩,fun c c0 c1=>?_,fun r hr=>?_,fun _=>?_,fun e=>by cases e⟩
   ·obtain⟨t,ht,h1,h2⟩:=mA hr
    have:=o1 t ht;unfold dI at this⊢;rcases h2 with h2|⟨_,h2⟩<;>omega
   ·rw[sL (q:=⟨n,m-1⟩) hx (by dsimp only;omega) (by dsimp only;omega) (by omega)]
    dsimp only;by_cases g:c<n
    ·rw[ha c c0 g]
     constructor
     ·rintro(h|h)
      ·exact h
      omega
     exact .inl
    rw[hc c (by omega) c1];exact⟨fun _=>hp,fun _=>.inr (by omega)⟩
   ·obtain⟨t,ht,h1,h2⟩:=mA hr
    have:=hh t ht;rcases h2 with h2|⟨_,h2⟩<;>omega
   have hne:out≠[]:=by rintro rfl;cases hx
   obtain⟨k,hk⟩:∃k,out.length=k+1:=⟨out.length-1,by have:=List.length_pos_iff.2 hne;omega⟩;rw[o_ hk];have hxk:out[k]'(by omega)=x:=by
    rw[List.getLast?_eq_getElem?,hk]at hx;simp at hx;exact(List.getElem?_eq_some_iff.1 hx).2
   rw[hxk];refine⟨⟨x.lo,max x.hi (m-1)⟩,?_,by dsimp only;omega⟩;rw[List.getLast?_eq_getElem?,List.length_set,hk];simp[hk]
  |false=>
   rw[if_neg (by simp)];have hn':=hn rfl;refine⟨⟨fun r hr=>?_,?_⟩,fun c c0 c1=>?_,fun r hr=>?_,fun _=>⟨⟨n,m-1⟩,by simp,rfl⟩,fun e=>by cases e⟩
   ·rcases List.mem_append.1 hr with hr|hr
    ·exact o1 r hr
    simp at hr;subst hr;unfold dI;dsimp only;omega
   ·rw[List.pairwise_append]
    refine⟨o2,List.pairwise_singleton _ _,fun a ha' t ht=>?_⟩;simp at ht;subst ht;exact hn' a ha'
   ·rw[mS,vI]
    dsimp only;by_cases g:c<n
    ·rw[ha c c0 g]
     constructor
     ·rintro(h|h)
      ·exact h
      omega
     exact .inl
    rw[hc c (by omega) c1];exact⟨fun _=>hp,fun _=>.inr (by omega)⟩
   rcases List.mem_append.1 hr with hr|hr
   ·have:=hh r hr;omega
   simp at hr;subst hr;dsimp only;omega
 rw[if_neg hp];dsimp only;refine⟨⟨o1,o2⟩,fun c c0 c1=>?_,(fun r hr=>by have:=hh r hr;omega),(fun e=>by cases e),(fun _ r hr=>by have:=hh r hr;omega)⟩;by_cases g:c<n
 ·exact ha c c0 g
 rw[hc c (by omega) c1];constructor
 ·intro h
  obtain⟨r,hr,a,b⟩:=c_.1 h;have:=hh r hr;omega
 intro h;exact absurd h hp
theorem vK{cs:List Int}(h:cs.Pairwise (·< ·)){k:Nat}(hk:k<cs.length){x:Int}(hx:x∈cs)(h1:cs[k]<x):nxt cs (k+1)≤x:=by
 obtain⟨j,hj,rfl⟩:=List.getElem_of_mem hx;have hjk:k<j:=by
  rcases Nat.lt_trichotomy j k with g|g|g
  ·have:=List.pairwise_iff_getElem.1 h j k hj hk g;omega
  ·subst g;omega
  exact g
 unfold nxt;rcases Nat.lt_or_ge (k+1) cs.length with g|g
 ·rw[List.getElem?_eq_getElem g]
  simp only[Option.getD_some];rcases Nat.lt_or_ge (k+1) j with g2|g2
  ·have:=List.pairwise_iff_getElem.1 h (k+1) j g hj g2;omega
  have:j=k+1:=by omega
  subst this;exact Int.le_refl _
 omega
theorem NK{rs:List Rg}{cs:List Int}(h:Ct rs cs){k:Nat}(hk:k<cs.length){c:Int}(h1:cs[k]≤c)(h2:c<nxt cs (k+1))(h3:c≤1114111):bA rs c=bA rs cs[k]:=by
 have hb:=h.bd _ (List.getElem_mem hk);rw[sQ (by omega) h3,sQ hb.1 hb.2,Bool.eq_iff_iff,c_,c_];constructor
 ·rintro⟨r,hr,a,b⟩
  refine⟨r,hr,?_,by omega⟩;apply Int.not_lt.1;intro g;have:=vK h.asc hk (h.lo r hr (by omega) (by omega)) g;omega
 rintro⟨r,hr,a,b⟩;refine⟨r,hr,by omega,?_⟩;apply Int.not_lt.1;intro g;have:=vK h.asc hk (h.hi r hr (by omega) (by omega)) (by omega);omega
theorem zF{rs:List Rg}{cs:List Int}(h:Ct rs cs)(k:Nat):0≤nxt cs k∧nxt cs k≤1114112:=by
 unfold nxt;rcases Nat.lt_or_ge k cs.length with g|g
 ·rw[List.getElem?_eq_getElem g]
  have:=h.bd _ (List.getElem_mem g);simp;omega
 rw[List.getElem?_eq_none g];simp
theorem rP{rs:List Rg}{cs:List Int}(h:Ct rs cs)(h0:0∈cs):∀k,k≤cs.length→Bd (bA rs) (bld (bA rs) cs k).1 (bld (bA rs) cs k).2 (nxt cs k)
 |0,_=>by
  have e:nxt cs 0=0:=by
   obtain⟨j,hj,he⟩:=List.getElem_of_mem h0;have h1:0<cs.length:=by omega
   have hb:=h.bd _ (List.getElem_mem h1);unfold nxt;rw[List.getElem?_eq_getElem h1];simp only[Option.getD_some];rcases Nat.eq_zero_or_pos j with g|g
   ·subst g;exact he
   have:=List.pairwise_iff_getElem.1 h.asc 0 j h1 hj g;omega
  rw[e];exact⟨okR.nil,fun c a b=>by omega,fun _ hr=>(by cases hr),fun e=>(by cases e),fun _ _ hr=>(by cases hr)⟩
 |k+1,hk=>by
  have ih:=rP h h0 k (by omega);have hn:=zF h k;have hn':=zF h (k+1);have e:nxt cs k=cs[k]:=by unfold nxt;rw[List.getElem?_eq_getElem (by omega)];rfl
  have hb:=h.bd _ (List.getElem_mem (show k<cs.length by omega));have hlt:nxt cs k<nxt cs (k+1):=by
   rcases Nat.lt_or_ge (k+1) cs.length with g|g
   ·have:=List.pairwise_iff_getElem.1 h.asc k (k+1) (by omega) g (by omega)
    rw[e];unfold nxt;rw[List.getElem?_eq_getElem g];exact this
   rw[e];unfold nxt;rw[List.getElem?_eq_none g];simp;omega
  have:=ih.step hn.1 hlt hn'.2 (fun c c0 c1=>by rw[e]at c0⊢;exact NK h (by omega) c0 c1 (by omega));exact this
theorem vR(rs:List Rg):okR (eO rs)∧∀c,0≤c→c≤1114111→(cU (eO rs) c=true ↔ cU rs c=true):=by
 have h1:=(Ct.nil).cuts (rs:=rs);have h2:=h1.1.cuts (rs:=[]);rw[List.append_nil,List.nil_append]at h2;have hb:=rP h2.1 h2.2 (bH (bH [] rs) []).length (Nat.le_refl _);have e:nxt (bH (bH [] rs) []) (bH (bH [] rs) []).length=1114112:=by unfold nxt;rw[List.getElem?_eq_none (Nat.le_refl _)];rfl
 rw[e]at hb;refine⟨hb.ok,fun c c0 c1=>?_⟩;unfold eO;rw[hb.any c c0 (by omega),sQ c0 c1]
theorem IF{rs out:List Rg}(h:okR out)(ha:∀c,0≤c→c≤1114111→(cU out c=true ↔ cU rs c=true)):out=eO rs:=
 zH h (vR rs).1 (fun c c0 c1=>(ha c c0 c1).trans ((vR rs).2 c c0 c1).symm)
def gU(rs:List Rg):Bool:=decide (eO rs=rs)
structure Nrm where
 cls:List Spn
 dec:List Mp
 exc:List Rg
def mp0:Mp:=⟨0,[],.empty⟩
def aB(ms:List Mp)(compat:Bool)(e:Int):Option Nat:=ms.findIdx? (fun m=>decide (m.frm=e)&&(compat||decide (m.tag.size=0)))
def jQ(ms:List Mp)(i:Nat):Int:=(ms.getD i mp0).frm
def toM(ms:List Mp)(i:Nat):List Int:=(ms.getD i mp0).to
def aT(ms:List Mp)(compat:Bool)(i:Nat):Bool:=!compat&&decide (¬(ms.getD i mp0).tag.size=0)
def dlM(e:Int):Int:=(Hg.decomp e).length
def onM(ms:List Mp)(compat:Bool)(c:Int):Option (List Int):=
 if 4≤Hg.kind c then Z (Hg.decomp c)else(aB ms compat c).map (toM ms)
def mxE:Int:=64
def aG:Int:=65
theorem mK(c:Int)(w:World):Calls prog 60 #[I J c] w fun e w'=>e=.returned (I J (Hg.kind c))∧w=w':=by
 rcases Hg.cases6 c with⟨h1,h2,hk⟩|⟨h1,h2,hk⟩|⟨h1,h2,hk⟩|⟨h1,h2,h3,hk⟩|⟨h1,h2,h3,hk⟩|⟨h1,h2,h3,h4,hk⟩<;>rw[hk]<;>clear hk
 all_goals
  go_enter func60,ntmps60;go_wp2;all_goals(go_ret;exact⟨rfl,rfl⟩)
theorem pW(c:Int)(w:World):Calls prog 77 #[I J c] w fun e w'=>e=.returned (I J (Hg.kind c))∧w=w':=by
 rcases Hg.cases6 c with⟨h1,h2,hk⟩|⟨h1,h2,hk⟩|⟨h1,h2,hk⟩|⟨h1,h2,h3,hk⟩|⟨h1,h2,h3,hk⟩|⟨h1,h2,h3,h4,hk⟩<;>rw[hk]<;>clear hk
 all_goals
  go_enter func77,ntmps77;go_wp2;all_goals(go_ret;exact⟨rfl,rfl⟩)
end
section
open Go.RowKit Go.Maps Go.WideMaps
theorem mW:(prog.info? 106).map (fun i=>(i.zero,i.size,i.bytes))=Z (Z (.agg #[I J 0,I J 0,I J 0,.bool false]),4,32):=by kernel_rfl
theorem aL:(prog.info? 3).map (fun i=>(i.zero,i.size,i.bytes))=Z (Z (I J 0),1,8):=by kernel_rfl
theorem nC(es:List Elt):∀u∈aI Elt.cells es,u.oneCell'=true:=by
 intro u hu;obtain⟨g,_,hg⟩:=List.mem_flatMap.1 hu;simp only[Elt.cells,List.mem_cons,List.not_mem_nil,or_false]at hg;rcases hg with rfl|rfl|rfl|rfl<;>rfl
def nX(es:List Elt)(w:World)(e:Ending)(w':World):Prop:=∃A c,e=.returned (H A es.length c)∧w'.ownsRow w.heap.size 106 4 (H A es.length c) es.length (aI Elt.cells es)∧Below w.heap.size w w'
def bF(zs:List Int)(w:World)(e:Ending)(w':World):Prop:=∃A c,e=.returned (H A zs.length c)∧w'.ownsRow w.heap.size 3 1 (H A zs.length c) zs.length (zs.map (Value.int .i64))∧Below w.heap.size w w'
theorem IQ(A:Option Addr)(n k:Nat)(gs:List Elt)(w:World)(hA:cD w A gs)(hn:gs.length=n)(hb:n≤1048576):
  Calls prog 72 #[H A n k] w (nX gs w):=by
 subst hn;cases A with
 |none=>
  have hz:gs=[]:=by
   cases gs with
   |nil=>rfl
   |cons z r=>obtain⟨b,o,h,_⟩:=hA.at (m:=0) (by simp);cases h
  subst hz;have hnil:=fun(W:World) n c=>Lib.run_eql_slice_nil (P:=prog) W 107 106 N n c 0 0 underlying107
  go_enter func72,ntmps72;go_wp2;go_ret;exact⟨N,0,rfl,World.ownsRow_nil _ _ _ _,Below.refl _ _⟩
 |some a=>
  have hnil:=fun(W:World) n c=>Lib.run_eql_slice_nil (P:=prog) W 107 106 (Z a) n c 0 0 underlying107
  go_enter func72,ntmps72;go_wp2_with(at_builtin;refine aJ _ _ 107 106 (.agg #[I J 0,I J 0,I J 0,.bool false]) 4 32 rfl rfl underlying107 mW rfl (by decide) (by decide) rfl (iG [] 106 4 0 w.heap.size rfl rfl (Nat.le_refl _) (by omega)) rfl (Sl.alloc hA _) (gQ Elt.cells 4 (fun _=>rfl) gs) (nC _) (by omega) (by simp) ?_;intro A1 c1 w1 hown1 hc1 hb1 _ _;simp only[Nat.zero_add,List.nil_append]at hown1 hc1);go_ret;exact⟨A1,c1,rfl,hown1,(ba _ _).trans hb1⟩
theorem i_(A:Option Addr)(n k:Nat)(gs:List Int)(w:World)(hA:aA w A gs)(hn:gs.length=n)(hb:n≤1048576):
  Calls prog 47 #[H A n k] w (bF gs w):=by
 subst hn;cases A with
 |none=>
  have hz:gs=[]:=by
   cases gs with
   |nil=>rfl
   |cons z r=>obtain⟨b,o,h,_⟩:=hA.at (k:=0) (by simp);cases h
  subst hz;have hnil:=fun(W:World) n c=>Lib.run_eql_slice_nil (P:=prog) W 49 3 N n c 0 0 underlying49
  go_enter func47,ntmps47;go_wp2;go_ret;exact⟨N,0,rfl,World.ownsRow_nil _ _ _ _,Below.refl _ _⟩
 |some a=>
  have hnil:=fun(W:World) n c=>Lib.run_eql_slice_nil (P:=prog) W 49 3 (Z a) n c 0 0 underlying49
  go_enter func47,ntmps47;go_wp2_with(at_builtin;refine aJ _ _ 49 3 (I J 0) 1 8 rfl rfl underlying49 aL rfl (by decide) (by decide) rfl (iG [] 3 1 0 w.heap.size rfl rfl (Nat.le_refl _) (by omega)) rfl (Sl.alloc hA _) (by simp) (aR _) (by omega) (by simp) ?_;intro A1 c1 w1 hown1 hc1 hb1 _ _;simp only[Nat.zero_add,List.nil_append]at hown1 hc1);go_ret;exact⟨A1,c1,rfl,hown1,(ba _ _).trans hb1⟩
end
section
open Go.RowKit
theorem mE{c:Int}(h:Hg.kind c=4):0xAC00≤c∧c≤0xD7A3∧(c-0xAC00)%28=0:=by rcases Hg.cases6 c with h'|h'|h'|h'|h'|h'<;>omega
theorem mF{c:Int}(h:Hg.kind c=5):0xAC00≤c∧c≤0xD7A3∧¬(c-0xAC00)%28=0:=by rcases Hg.cases6 c with h'|h'|h'|h'|h'|h'<;>omega
def jJ(zs:List Int)(w:World)(e:Ending)(w':World):Prop:=∃A c,e=.returned (H A zs.length c)∧zs.length≤c∧aA w' A zs∧Below w.heap.size w w'
theorem lK{c:Int}(h:Hg.kind c<4):Hg.decomp c=[c]:=by unfold Hg.decomp;rw[if_pos h]
theorem oP{c:Int}(h:Hg.kind c=4):Hg.decomp c=[0x1100+(c-0xAC00)/28/21,0x1161+(c-0xAC00)/28%21]:=by
 unfold Hg.decomp;rw[if_neg (by omega),if_pos (mE h).2.2]
theorem oQ{c:Int}(h:Hg.kind c=5):Hg.decomp c=[0x1100+(c-0xAC00)/28/21,0x1161+(c-0xAC00)/28%21,0x11A8+(c-0xAC00)%28-1]:=by
 unfold Hg.decomp;rw[if_neg (by omega),if_neg (mF h).2.2]
def qX(x y z:Int)(w:World)(e:Ending)(w':World):Prop:=e=.returned (.agg #[I J x,I J y,I J z])∧Below w.heap.size w w'
theorem UJ(c:Int)(w:World)(h:Hg.kind c<4):Calls prog 162 #[I J c] w (qX 0 0 0 w):=by
 go_enter func162,ntmps162;go_wp2_with(go_at_call 60;refine(mK _ _).mono ?_;rintro e w' ⟨rfl,rfl⟩);refine bodyPost_ret (v:=.agg #[I J 0,I J 0,I J 0]) (by simp[results,results162,go_sem]) rfl ⟨rfl,?_⟩;exact ba _ _
theorem UF(c:Int)(w:World)(h:Hg.kind c=4):Calls prog 162 #[I J c] w (qX (0x1100+(c-0xAC00)/28/21) (0x1161+(c-0xAC00)/28%21) 0 w):=by
 obtain⟨b1,b2,b3⟩:=mE h;go_enter func162,ntmps162;go_wp2_with(go_at_call 60;refine(mK _ _).mono ?_;rintro e w' ⟨rfl,rfl⟩);refine bodyPost_ret (v:=.agg #[I J (0x1100+(c-0xAC00)/28/21),I J (0x1161+(c-0xAC00)/28%21),I J 0]) (by simp[results,results162,go_sem]) rfl ⟨rfl,?_⟩;exact(ba _ _).alloc (by simp) _
theorem UH(c:Int)(w:World)(h:Hg.kind c=5):Calls prog 162 #[I J c] w (qX (0x1100+(c-0xAC00)/28/21) (0x1161+(c-0xAC00)/28%21) (0x11A8+(c-0xAC00)%28-1) w):=by
 obtain⟨b1,b2,b3⟩:=mF h;have b4:0<(c-0xAC00)%28:=by omega
 clear b3;go_enter func162,ntmps162;go_wp2_with(go_at_call 60;refine(mK _ _).mono ?_;rintro e w' ⟨rfl,rfl⟩);refine bodyPost_ret (v:=.agg #[I J (0x1100+(c-0xAC00)/28/21),I J (0x1161+(c-0xAC00)/28%21),I J (0x11A8+(c-0xAC00)%28-1)]) (by simp[results,results162,go_sem]) rfl ⟨rfl,?_⟩;exact(ba _ _).alloc (by simp) _
theorem EB(c:Int)(w:World):Calls prog 136 #[I J c] w (jJ (Hg.decomp c) w):=by
 obtain⟨i0,hi,hz0,hz1,hz2⟩:=info_parts aL;have q3:=fun W x y z x' y' z'=>XK (P:=prog) W 9998 184 3 .i64 i0 underlying184 underlying3 hi hz1 x y z x' y' z'
 clear hi hz0 hz1 hz2;by_cases h:Hg.kind c<4
 ·rw[lK h]
  have H:=G (fun W=>UJ c W h);clear h;go_enter func136,ntmps136;go_wp2_with(go_at_call 162;refine(H.out _).mono ?_;rintro e w1 ⟨rfl,hb⟩);go_ret;exact⟨_,_,rfl,Nat.le_refl _,bW _ [_] _ (by simp),(hb.alloc hb.size _).alloc (by have:=hb.size;simp;omega) _⟩
 by_cases h4:Hg.kind c=4
 ·rw[oP h4]
  have hc:=mE h4;have h1:(0x1100+(c-0xAC00)/28/21==0)=false:=by simp;omega
  have H:=G (fun W=>UF c W h4);clear h h4 hc;generalize 0x1100+(c-0xAC00)/28/21=x at *;generalize 0x1161+(c-0xAC00)/28%21=y at *;go_enter func136,ntmps136;go_wp2_with(go_at_call 162;refine(H.out _).mono ?_;rintro e w1 ⟨rfl,hb⟩);go_ret;exact⟨_,_,rfl,Nat.le_refl _,bW _ [_,_] _ (by simp),(hb.alloc hb.size _).alloc (by have:=hb.size;simp;omega) _⟩
 have h5:Hg.kind c=5:=by have:=Hg.kind_range c;omega
 rw[oQ h5];have hc:=mF h5;have h1:(0x1100+(c-0xAC00)/28/21==0)=false:=by simp;omega
 have h2:(0x11A8+(c-0xAC00)%28-1==0)=false:=by simp;omega
 have H:=G (fun W=>UH c W h5);clear h h4 h5 hc;generalize 0x1100+(c-0xAC00)/28/21=x at *;generalize 0x1161+(c-0xAC00)/28%21=y at *;generalize 0x11A8+(c-0xAC00)%28-1=z at *;go_enter func136,ntmps136;go_wp2_with(go_at_call 162;refine(H.out _).mono ?_;rintro e w1 ⟨rfl,hb⟩);go_ret;exact⟨_,_,rfl,Nat.le_refl _,bW _ [_,_,_] _ (by simp),(hb.alloc hb.size _).alloc (by have:=hb.size;simp;omega) _⟩
theorem AE(c:Int)(w:World):Calls prog 115 #[I J c] w (jJ (Hg.decomp c) w):=by
 obtain⟨i0,hi,hz0,hz1,hz2⟩:=info_parts aL;by_cases h:Hg.kind c<4
 ·rw[lK h]
  go_enter func115,ntmps115;go_wp2_with(go_at_call 77;refine(pW _ _).mono ?_;rintro e w' ⟨rfl,rfl⟩);go_ret;exact⟨_,_,rfl,Nat.le_refl _,bW _ [_] _ (by simp),ba _ _⟩
 by_cases h4:Hg.kind c=4
 ·rw[oP h4]
  obtain⟨b1,b2,b3⟩:=mE h4;have HK:=G (fun W=>pW c W);rw[h4]at HK;clear h h4;go_enter func115,ntmps115;go_wp2_with(go_at_call 77;refine(HK.out _).mono ?_;rintro e w' ⟨rfl,rfl⟩);go_ret;exact⟨_,_,rfl,Nat.le_refl _,bW _ [_,_] _ (by simp),ba _ _⟩
 have h5:Hg.kind c=5:=by have:=Hg.kind_range c;omega
 rw[oQ h5];obtain⟨b1,b2,b3⟩:=mF h5;have b4:0<(c-0xAC00)%28:=by omega
 have HK:=G (fun W=>pW c W);rw[h5]at HK;clear h h4 h5 b3;go_enter func115,ntmps115
 go_wp2_with(first
  |(go_at_call 77;refine(HK.out _).mono ?_;rintro e w' ⟨rfl,rfl⟩)
  | (at_builtin;refine aJ _ _ 49 3 (I J 0) 1 8 rfl rfl underlying49 aL rfl (by decide) (by decide) rfl ((iG [_,_] 3 1 2 w.heap.size rfl rfl (Nat.le_refl _) (by omega)).alloc _) rfl (cK _ [_] _ (by simp)) rfl (aR [_]) (by omega) (by simp<;>omega) ?_;intro B k w1 hown hk hb _ _))
 go_ret;exact⟨_,_,rfl,hk,Sl.of_own hown,((ba _ _).alloc (by simp) _).trans hb⟩
end
section
open Go.RowKit Go.Maps Go.WideMaps
section
variable {ms:List Mp}
theorem zS{k:Nat}(hk:k<ms.length)(h:dF ms[k]=true):cW ms=1:=by unfold cW;rw[if_pos (iA hk h)]
theorem zT(h1:∀t,(ht:t<ms.length)→dF ms[t]=false){k:Nat}(hk:k<ms.length)(h:64<ms[k].to.length):cW ms=2:=by
 unfold cW;rw[if_neg (by rw[fM h1];simp),if_pos (iA hk (by simpa using h))]
theorem zU(h1:∀t,(ht:t<ms.length)→dF ms[t]=false)(h2:∀t,(ht:t<ms.length)→¬64<ms[t].to.length){k:Nat}(hk:k<ms.length)(h:eZ ms[k]=true):cW ms=6:=by
 unfold cW;rw[if_neg (by rw[fM h1];simp),if_neg (by rw[fM (fun t ht=>by simpa using h2 t ht)];simp),if_pos (iA hk h)]
theorem zR(h1:∀t,(ht:t<ms.length)→dF ms[t]=false)(h2:∀t,(ht:t<ms.length)→¬64<ms[t].to.length)(h3:∀t,(ht:t<ms.length)→eZ ms[t]=false):cW ms=0:=by
 unfold cW;rw[if_neg (by rw[fM h1];simp),if_neg (by rw[fM (fun t ht=>by simpa using h2 t ht)];simp),if_neg (by rw[fM h3];simp)]
theorem UK(h:cW ms=0):∀m∈ms,dF m=false∧m.to.length≤64∧eZ m=false:=by
 unfold cW at h;split at h
 ·cases h
 next h1=>
 split at h
 ·cases h
 next h2=>
 split at h
 ·cases h
 next h3=>
 intro m hm;simp only[Bool.not_eq_true,List.any_eq_false]at h1 h2 h3;have a:=h1 m hm;have b:=h2 m hm;have c:=h3 m hm;refine⟨by simpa using a,?_,by simpa using c⟩;simp at b;exact b
end
theorem yX{m:Mp}(h:inR 0 1114111 m.frm=false):dF m=true:=by unfold dF;rw[h];rfl
theorem yZ{m:Mp}{k:Nat}(hk:k<m.to.length)(h:inR 0 1114111 m.to[k]=false):dF m=true:=by
 unfold dF;rw[Bool.or_eq_true];right;exact iA hk (by rw[h];rfl)
theorem yY{m:Mp}(h0:inR 0 1114111 m.frm=true)(h:∀t,(ht:t<m.to.length)→inR 0 1114111 m.to[t]=true):dF m=false:=by
 unfold dF;rw[h0,fM (fun t ht=>by rw[h t ht];rfl)];rfl
theorem RS{m:Mp}(h:dF m=false):(0≤m.frm∧m.frm≤1114111)∧∀z∈m.to,0≤z∧z≤1114111:=by
 unfold dF at h;rw[Bool.or_eq_false_iff]at h;refine⟨iD.1 (by simpa using h.1),fun z hz=>?_⟩;have:=List.any_eq_false.1 h.2 z hz;exact iD.1 (by simpa using this)
theorem ZN{m:Mp}(h:eZ m=false):m.tag.size≤32:=by
 unfold eZ at h;by_cases h0:m.tag.size=0
 ·omega
 have:cH m.tag=true:=by simpa[h0]using h
 unfold cH at this;simp at this;omega
theorem CY{m:Mp}(h:m.tag.size=0):eZ m=false:=by unfold eZ;simp[h]
theorem CZ{m:Mp}(h:¬m.tag.size=0):eZ m=!cH m.tag:=by unfold eZ;simp[h]
theorem UI(A:Option Addr)(n a:Nat)(ms:List Mp)(w:World)(hA:Mps w A ms)(hn:ms.length=n)(hz:kY ms):
  Calls prog 98 #[H A n a] w (cJ (cW ms) w):=by
 subst hn;have HA:=G hA;have hnz:=hz.n;have HZ:=G hz.e;have P1:=G (fun k hk h=>zS (ms:=ms) (k:=k) hk h);have P2:=G (fun h1 k hk h=>zT (ms:=ms) h1 (k:=k) hk h);have P6:=G (fun h1 h2 k hk h=>zU (ms:=ms) h1 h2 (k:=k) hk h);have P0:=G (zR (ms:=ms));clear hA hz;generalize cW ms=R at *;go_enter func98,ntmps98;go_wp2_with fail;go_loopw [13] (fun u wr=>∃i:Nat,i≤ms.length∧u=I J i∧(∀t,(ht:t<ms.length)→t<i→dF ms[t]=false)∧Below w.heap.size w wr) (fun u _=>ms.length-(intOf u).toNat)
 case atStart=>exact⟨0,Nat.zero_le _,rfl,fun t _ h=>by omega,Below.refl _ _⟩
 obtain⟨i,hi,rfl,hno,hbr⟩:=hrel;have HNO:=G hno;clear hno;by_cases hlt:i<ms.length
 ·obtain⟨b1,o1,rfl,hbl,hcell⟩:=(HA.out.below hbr).at hlt
  obtain⟨C,cc,c0,c1,c2,hcc,hC⟩:=hcell i hlt;obtain⟨z1,z2⟩:=HZ.out i hlt;have HB:=G (fun h=>P1.out i hlt h);have HN:=G (fun h=>cZ (P:=fun m=>dF m=false) hlt HNO.out h);clear hcell;generalize ms[i]=mi at *;have M0:=G (yX (m:=mi));have M1:=G (fun k hk h=>yZ (m:=mi) (k:=k) hk h);have M2:=G (yY (m:=mi));generalize dF mi=bd at *;obtain⟨mf,mt,mg⟩:=mi;dsimp only at *;have Ba:Below wr.heap.size wr (wr.alloc (.cells #[I J mf,H C mt.length cc,.string mg] 116)):=ba _ _;have HCa:=G (hC.below Ba);have hb2:=hbr.trans (Ba.mono hbr.size);have e1:(wr.alloc (.cells #[I J mf,H C mt.length cc,.string mg] 116)).cell? ⟨wr.heap.size,1,N⟩=Z (H C mt.length cc):=by simp
  have E1:=G e1;have WaE:∃Wa,(wr.alloc (.cells #[I J mf,H C mt.length cc,.string mg] 116))=Wa:=⟨_,rfl⟩;clear hC e1;cases hv:inR 0 1114111 mf with
  |false=>
   obtain rfl:=M0.out hv;have HR:=G (HB.out rfl);go_wp2_with(go_at_call 108;refine(lV mf _).mono ?_;rw[hv];rintro e w' ⟨rfl,rfl⟩);go_ret;exact⟨aE HR.out.symm,hb2⟩
  |true=>
   go_wp2_with(go_at_call 108;refine(lV mf _).mono ?_;rw[hv];rintro e w' ⟨rfl,rfl⟩);obtain⟨Wa,hWa⟩:=WaE;rw[hWa]at Ba HCa hb2 E1⊢;clear hWa c0 c1 c2;obtain⟨wr0,rfl⟩:∃wr0:World,wr0=wr:=⟨_,rfl⟩;go_loop [24] (fun u=>∃k:Nat,k≤mt.length∧u=I J k∧(∀t,(ht:t<mt.length)→t<k→inR 0 1114111 mt[t]=true)) (fun u=>mt.length-(intOf u).toNat)
   case atStart=>exact⟨0,Nat.zero_le _,rfl,fun t _ h=>by omega⟩
   obtain⟨k,hk,rfl,hok⟩:=hrel;have HOK:=G hok;clear hok;by_cases hltk:k<mt.length
   ·obtain⟨b2,o2,rfl,hc2⟩:=HCa.out.at hltk
    have d0:=hc2 k hltk;have HBK:=G (fun h=>M1.out k hltk h);have HNK:=G (fun h=>cZ (P:=fun z=>inR 0 1114111 z=true) hltk HOK.out h);clear hc2;generalize mt[k]=z at *;cases hvz:inR 0 1114111 z with
    |false=>
     obtain rfl:=HBK.out hvz;have HR:=G (HB.out rfl);go_wp2_with(go_at_call 108;refine(lV z _).mono ?_;rw[hvz];rintro e w' ⟨rfl,rfl⟩);go_ret;exact⟨aE HR.out.symm,hb2⟩
    |true=>
     have HQ:=G (HNK.out hvz);go_wp2_with(go_at_call 108;refine(lV z _).mono ?_;rw[hvz];rintro e w' ⟨rfl,rfl⟩);go_round
     case rel=>exact⟨k+1,by omega,by go_num,HQ.out⟩
     simp[intOf];omega
   obtain rfl:=M2.out hv (fun t ht=>HOK.out t ht (by omega));have HQ:=G (HN.out rfl);go_wp2_with fail;go_roundw
   case rel=>exact⟨i+1,by omega,by go_num,HQ.out,hb2⟩
   simp[intOf];omega
 have H1:=G (fun t(ht:t<ms.length)=>HNO.out t ht (by omega));clear HNO P1;go_wp2_with fail;go_loopw [35] (fun u wr=>∃i:Nat,i≤ms.length∧u=I J i∧(∀t,(ht:t<ms.length)→t<i→¬64<ms[t].to.length)∧Below w.heap.size w wr) (fun u _=>ms.length-(intOf u).toNat)
 case atStart=>exact⟨0,Nat.zero_le _,rfl,fun t _ h=>by omega,hbr⟩
 obtain⟨i,hi,rfl,hno,hbr⟩:=hrel;have HNO:=G hno;clear hno;by_cases hlt:i<ms.length
 ·obtain⟨b1,o1,rfl,hbl,hcell⟩:=(HA.out.below hbr).at hlt
  obtain⟨C,cc,c0,c1,c2,hcc,hC⟩:=hcell i hlt;obtain⟨z1,z2⟩:=HZ.out i hlt;have HB:=G (fun h=>P2.out H1.out i hlt h);have HN:=G (fun h=>cZ (P:=fun m:Mp=>¬64<m.to.length) hlt HNO.out h);clear hcell hC;generalize ms[i]=mi at *;obtain⟨mf,mt,mg⟩:=mi;dsimp only at *;have hb2:=hbr.trans (((Below.refl wr.heap.size wr).alloc (Nat.le_refl _) (.cells #[I J mf,H C mt.length cc,.string mg] 116)).mono hbr.size);by_cases h64:64<mt.length
  ·have q1:decide ((64:Int)<(mt.length:Int))=true:=by simp;omega
   obtain rfl:=HB.out h64;go_wp2_with fail;go_ret;exact⟨rfl,hb2⟩
  have q1:decide ((64:Int)<(mt.length:Int))=false:=by simp;omega
  have HQ:=G (HN.out h64);go_wp2_with fail;go_roundw
  case rel=>exact⟨i+1,by omega,by go_num,HQ.out,hb2⟩
  simp[intOf];omega
 have H2:=G (fun t(ht:t<ms.length)=>HNO.out t ht (by omega));clear HNO P2;go_wp2_with fail;go_loopw [46] (fun u wr=>∃i:Nat,i≤ms.length∧u=I J i∧(∀t,(ht:t<ms.length)→t<i→eZ ms[t]=false)∧Below w.heap.size w wr) (fun u _=>ms.length-(intOf u).toNat)
 case atStart=>exact⟨0,Nat.zero_le _,rfl,fun t _ h=>by omega,hbr⟩
 obtain⟨i,hi,rfl,hno,hbr⟩:=hrel;have HNO:=G hno;clear hno;by_cases hlt:i<ms.length
 ·obtain⟨b1,o1,rfl,hbl,hcell⟩:=(HA.out.below hbr).at hlt
  obtain⟨C,cc,c0,c1,c2,hcc,hC⟩:=hcell i hlt;obtain⟨z1,z2⟩:=HZ.out i hlt;have HB:=G (fun h=>P6.out H1.out H2.out i hlt h);have HN:=G (fun h=>cZ (P:=fun m:Mp=>eZ m=false) hlt HNO.out h);clear hcell hC;generalize ms[i]=mi at *;have T0:=G (CY (m:=mi));have T1:=G (CZ (m:=mi));generalize eZ mi=tb at *;obtain⟨mf,mt,mg⟩:=mi;dsimp only at *;have hb2:=hbr.trans (((Below.refl wr.heap.size wr).alloc (Nat.le_refl _) (.cells #[I J mf,H C mt.length cc,.string mg] 116)).mono hbr.size);by_cases hg:mg.size=0
  ·have g0:mg.toList=[]:=gX hg
   have HQ:=G (HN.out (T0.out hg));clear T0 T1 HB HN;go_wp2_with fail;go_roundw
   case rel=>exact⟨i+1,by omega,by go_num,HQ.out,hb2⟩
   simp[intOf];omega
  have g0:¬mg.toList=[]:=gW hg;have g1:mg.toList.isEmpty=false:=by simpa using g0
  have hT:=T1.out hg;cases hnm:cH mg with
  |true=>
   rw[hnm]at hT;have HQ:=G (HN.out hT);clear hT T0 T1 HB HN;go_wp2_with(go_at_call 129;refine(yT mg _ z2).mono ?_;rw[hnm];rintro e w' ⟨rfl,rfl⟩);go_roundw
   case rel=>exact⟨i+1,by omega,by go_num,HQ.out,hb2⟩
   simp[intOf];omega
  |false=>
   rw[hnm]at hT;obtain rfl:=HB.out hT;clear hT T0 T1 HB HN;go_wp2_with(go_at_call 129;refine(yT mg _ z2).mono ?_;rw[hnm];rintro e w' ⟨rfl,rfl⟩);go_ret;exact⟨rfl,hb2⟩
 obtain rfl:=P0.out H1.out H2.out (fun t ht=>HNO.out t ht (by omega));go_wp2_with fail;go_ret;exact⟨rfl,hbr⟩
theorem GN{ms:List Mp}{i:Nat}(h1:1≤i)(hi:i<ms.length):dP (ms.take (i+1))=(dP (ms.take i)&&decide (dU (ms[i-1]'(by omega)) ms[i]<0)):=by
 induction ms generalizing i with
 |nil=>simp at hi
 |cons a r ih=>
  cases r with
  |nil=>simp at hi;omega
  |cons b r=>
   by_cases e:i=1
   ·subst e;simp[dP]
   obtain⟨j,rfl⟩:∃j,i=j+2:=⟨i-2,by omega⟩;have:=ih (i:=j+1) (by omega) (by simpa using hi);simp only[List.take_succ_cons,dP]at this⊢;rw[this,Bool.and_assoc];simp
theorem GM{ms:List Mp}{i:Nat}(h:i≤1):dP (ms.take i)=true:=by
 match i,ms with
 |0,_=>rfl
 |1,[]=>rfl
 |1,_::_=>rfl
section
variable {ms:List Mp}
theorem QZ(h:cW ms≠0):cC ms=cW ms:=by unfold cC;rw[if_pos h]
theorem QR(h:cW ms=0)(ha:dP ms=true):cC ms=0:=by unfold cC;rw[if_neg (by simpa using h),if_pos ha]
theorem QT(h:cW ms=0)(ha:dP ms=false)(hd:¬(ms.map aX).Nodup):cC ms=5:=by unfold cC;rw[if_neg (by simpa using h),if_neg (by simp[ha]),if_neg hd]
theorem QS(h:cW ms=0)(ha:dP ms=false)(hd:(ms.map aX).Nodup):cC ms=4:=by unfold cC;rw[if_neg (by simpa using h),if_neg (by simp[ha]),if_pos hd]
def kms(ms:List Mp)(k:Nat):List (Int×ByteArray):=(ms.take k).map aX
theorem tA{k:Nat}(hk:k<ms.length):kms ms (k+1)=kms ms k++[aX ms[k]]:=by
 unfold kms;rw[List.take_succ_eq_append_getElem hk,List.map_append];rfl
theorem PH{k:Nat}(hk:k<ms.length)(h:aX ms[k]∈kms ms k):¬(ms.map aX).Nodup:=by
 intro hn;have hs:(kms ms (k+1)).Sublist (ms.map aX):=by unfold kms;exact(List.take_sublist _ _).map _
 have h1:=hn.sublist hs;rw[tA hk,List.nodup_append]at h1;exact h1.2.2 _ h _ (List.mem_singleton.2 rfl) rfl
theorem PJ{k:Nat}(hk:k<ms.length)(hn:(kms ms k).Nodup)(h:aX ms[k] ∉ kms ms k):(kms ms (k+1)).Nodup:=by
 rw[tA hk,List.nodup_append];refine⟨hn,by simp,fun a ha b hb e=>?_⟩;rw[List.mem_singleton]at hb;subst hb;subst e;exact h ha
theorem PE{m:Mp}(h1:dF m=false)(h2:eZ m=false):mok (aX m):=by
 have a:=(RS h1).1;have b:=ZN h2;refine⟨?_,by unfold maxLen;show m.tag.size≤_;omega⟩;exact qO (by show _≤m.frm;omega) (by show m.frm≤_;omega)
end
theorem QU(A:Option Addr)(n a:Nat)(ms:List Mp)(w:World)(hA:Mps w A ms)(hn:ms.length=n)(hz:kY ms):
  Calls prog 58 #[H A n a] w (cJ (cC ms) w):=by
 subst hn;have PC:=G (UI A ms.length a ms w hA rfl hz);have HA:=G hA;have hnz:=hz.n;have EP:=G (QZ (ms:=ms));have E0:=G (QR (ms:=ms));have E4:=G (QS (ms:=ms));have E5:=G (QT (ms:=ms));have OKS:=G (UK (ms:=ms));have hmm:=@run_makeMap prog;clear hA hz;generalize cC ms=R at *;generalize cW ms=pe at *;go_enter func58,ntmps58;go_wp2_with fail;with_reducible refine PC.out.mono ?_
 rintro e W1 ⟨rfl,hb1⟩;clear PC;by_cases hpe:pe=0;rotate_left
 ·have q1:(pe !=0)=true:=by simpa using hpe
  obtain rfl:=EP.out hpe;clear hpe EP E0 E4 E5;go_wp2_with fail;go_ret;exact⟨rfl,hb1⟩
 have q1:(pe !=0)=false:=by simpa using hpe
 have E0':=G (E0.out hpe);have E4':=G (E4.out hpe);have E5':=G (E5.out hpe);have OK:=G (fun i(hi:i<ms.length)=>OKS.out hpe ms[i] (List.getElem_mem hi));have A1:=G (GM (ms:=ms) (i:=1) (by omega));clear EP E0 E4 E5 OKS hpe;go_wp2_with fail;go_loopw [4,5] (fun v u wr=>∃i:Nat,1≤i∧(i≤ms.length∨i=1)∧u=I J i∧v=.bool (dP (ms.take i))∧Below w.heap.size w wr) (fun _ u _=>ms.length-(intOf u).toNat)
 case atStart=>exact⟨1,by omega,.inr rfl,rfl,by rw[A1.out],hb1⟩
 obtain⟨i,hi1,hi2,rfl,rfl,hbr⟩:=hrel;by_cases hlt:i<ms.length
 ·obtain⟨b1,o1,rfl,hbl,hcell⟩:=(HA.out.below hbr).at hlt
  obtain⟨C,cc,c0,c1,c2,_,_⟩:=hcell i hlt;obtain⟨D,dd,d0,d1,d2,_,_⟩:=hcell (i-1) (by omega);have HT:=G (GN hi1 hlt);have MC:=G (fun W=>QV (ms[i-1]'(by omega)) ms[i] (H D (ms[i-1]'(by omega)).to.length dd) (H C ms[i].to.length cc) W);clear hcell;generalize dU (ms[i-1]'(by omega)) ms[i]=cv at *;generalize (ms[i-1]'(by omega))=ma at *;generalize ms[i]=mb at *;obtain⟨af,al',ag⟩:=ma;obtain⟨bf,bl'',bg⟩:=mb;dsimp only at *;generalize al'.length=al at *;generalize bl''.length=bl' at *;have i1:(0:Int)≤(i:Int)-1:=by omega
  have i2:(i:Int)-1<(ms.length:Int):=by omega
  have i3:((i:Int)-1).toNat=i-1:=by omega
  have i4:(i:Int)<(ms.length:Int):=by omega
  have i5:(0:Int)≤(i:Int):=by omega
  have i6:(1:Int)≤(i:Int):=by omega
  have w1:IntKind.i64.wrap ((i:Int)-1)=(i:Int)-1:=IntWalk.i64_in _ (by omega);have KS:=U (∀W',Below wr.heap.size wr W'→W'.cell? ⟨b1,o1+(i-1)*3,N⟩=Z (I J af)∧W'.cell? ⟨b1,o1+(i-1)*3+1,N⟩=Z (H D al dd)∧W'.cell? ⟨b1,o1+(i-1)*3+2,N⟩=Z (.string ag)∧W'.cell? ⟨b1,o1+i*3,N⟩=Z (I J bf)∧W'.cell? ⟨b1,o1+i*3+1,N⟩=Z (H C bl' cc)∧W'.cell? ⟨b1,o1+i*3+2,N⟩=Z (.string bg)∧Below wr.heap.size wr W') (fun W' hb=>⟨(hb.cell (p:=⟨b1,o1+(i-1)*3,N⟩) hbl).trans d0,(hb.cell (p:=⟨b1,o1+(i-1)*3+1,N⟩) hbl).trans d1,(hb.cell (p:=⟨b1,o1+(i-1)*3+2,N⟩) hbl).trans d2,(hb.cell (p:=⟨b1,o1+i*3,N⟩) hbl).trans c0,(hb.cell (p:=⟨b1,o1+i*3+1,N⟩) hbl).trans c1,(hb.cell (p:=⟨b1,o1+i*3+2,N⟩) hbl).trans c2,hb⟩);have MC1:=G (fun W'(hb:Below wr.heap.size wr W')=>(MC.out W').mono (R':=fun e W'=>e=.returned (I J cv)∧(W'.cell? ⟨b1,o1+(i-1)*3,N⟩=Z (I J af)∧W'.cell? ⟨b1,o1+(i-1)*3+1,N⟩=Z (H D al dd)∧W'.cell? ⟨b1,o1+(i-1)*3+2,N⟩=Z (.string ag)∧W'.cell? ⟨b1,o1+i*3,N⟩=Z (I J bf)∧W'.cell? ⟨b1,o1+i*3+1,N⟩=Z (H C bl' cc)∧W'.cell? ⟨b1,o1+i*3+2,N⟩=Z (.string bg)∧Below wr.heap.size wr W')) (fun e w'⟨he,hb'⟩=>⟨he,KS.out w' (hb.trans (hb'.mono hb.size))⟩));go_wp2_with fail;refine wp_region_held_drew (S:=fun W'=>W'.cell? ⟨b1,o1+(i-1)*3,N⟩=Z (I J af)∧W'.cell? ⟨b1,o1+(i-1)*3+1,N⟩=Z (H D al dd)∧W'.cell? ⟨b1,o1+(i-1)*3+2,N⟩=Z (.string ag)∧W'.cell? ⟨b1,o1+i*3,N⟩=Z (I J bf)∧W'.cell? ⟨b1,o1+i*3+1,N⟩=Z (H C bl' cc)∧W'.cell? ⟨b1,o1+i*3+2,N⟩=Z (.string bg)∧Below wr.heap.size wr W') (by kernel_rfl) (KS.out _ (Below.refl _ _).drew) (fun hHeld=>?_);refine tK 0 20 ?_;refine tK 1 21 ?_;refine tK 2 22 ?_;refine tK 3 23 ?_;refine tK 4 24 ?_;refine tK 5 25 ?_;refine tK 6 26 ?_;refine tK 7 27 ?_;refine tK 8 28 ?_;refine qK 9 29 (MC1.out _ hHeld.2.2.2.2.2.2) ?_;clear hHeld;intro W3 hHeld;refine tK 10 30 ?_;refine wpAnyH_done (by kernel_rfl) ?_ _;have Bp:=hHeld.2.2.2.2.2.2;have hb2:=hbr.trans (Bp.mono hbr.size);clear hHeld c0 c1 c2 d0 d1 d2 KS MC MC1 i1 i2 i3 i4 i5 i6 w1;by_cases hcv:0≤cv
  ·have q9:decide (0≤cv)=true:=by simpa using hcv
   have ht:=HT.out;rw[show decide (cv<0)=false by simp;omega,Bool.and_false]at ht;have HF:=G ht;clear ht HT;go_wp2_with fail;go_roundw
   case rel=>exact⟨i+1,by omega,.inl (by omega),by go_num,by rw[HF.out],hb2⟩
   simp[intOf];omega
  have q9:decide (0≤cv)=false:=by simpa using hcv
  have ht:=HT.out;rw[show decide (cv<0)=true by simp;omega,Bool.and_true]at ht;have HF:=G ht;clear ht HT;go_wp2_with fail;go_roundw
  case rel=>exact⟨i+1,by omega,.inl (by omega),by go_num,by rw[HF.out],hb2⟩
  simp[intOf];omega
 have hlen:ms.length≤i:=by omega
 rw[List.take_of_length_le hlen];cases hasc:dP ms with
 |true=>
  obtain rfl:=E0'.out hasc;clear E4' E5' hasc;go_wp2_with fail;go_ret;exact⟨rfl,hbr⟩
 |false=>
  have E4'':=G (E4'.out hasc);have E5'':=G (E5'.out hasc);clear E0' E4' E5' hasc hlen;have B2:Below wr.heap.size wr (wr.alloc (.map #[] 0)):=ba _ _;have M2:=aS.made prog 153 mG mok wr;have s2:(wr.alloc (.map #[] 0)).heap.size=wr.heap.size+1:=by simp
  have W2E:∃W2,wr.alloc (.map #[] 0)=W2:=⟨_,rfl⟩;have HAW:=G (HA.out.below hbr);obtain⟨W5,rfl⟩:∃W5:World,W5=wr:=⟨_,rfl⟩;go_wp2_with fail;obtain⟨W2,hW2⟩:=W2E;rw[hW2]at B2 M2 s2⊢;clear hW2;have HM2:=G M2;clear M2;go_loopw [35] (fun u wr=>∃i:Nat,i≤ms.length∧u=I J i∧(kms ms i).Nodup∧aS prog 153 mG mok wr W5.heap.size i (jW (kms ms i))∧Below W5.heap.size W5 wr∧W5.heap.size<wr.heap.size) (fun u _=>ms.length-(intOf u).toNat)
  case atStart=>exact⟨0,Nat.zero_le _,rfl,by simp[kms],HM2.out.ext (fun x _=>by simp[kms,jW]),B2,by omega⟩
  obtain⟨i,hi,rfl,hnd,hM,hb6,hs6⟩:=hrel;have HND:=G hnd;have HM:=G hM;clear hnd hM HM2;by_cases hlt:i<ms.length
  ·obtain⟨b1,o1,rfl,hbl,hcell⟩:=(HAW.out.below hb6).at hlt
   obtain⟨C,cc,c0,c1,c2,_,_⟩:=hcell i hlt;obtain⟨ok1,_,ok3⟩:=OK.out i hlt;have HKK:=G (PE ok1 ok3);have HD:=G (fun h=>E5''.out (PH hlt h));have HN:=G (fun h=>PJ hlt HND.out h);have HE:=G (tA hlt);have KO:=G (fun W=>QX ms[i] (H C ms[i].to.length cc) W);clear hcell ok1 ok3;generalize aX ms[i]=kx at *;generalize ms[i]=mi at *;obtain⟨mf,mt,mg⟩:=mi;dsimp only at *;have Ba:Below wr.heap.size wr (wr.alloc (.cells #[I J mf,H C mt.length cc,.string mg] 116)):=ba _ _;have x0:(wr.alloc (.cells #[I J mf,H C mt.length cc,.string mg] 116)).cell? ⟨wr.heap.size,0,N⟩=Z (I J mf):=by simp
   have x1:(wr.alloc (.cells #[I J mf,H C mt.length cc,.string mg] 116)).cell? ⟨wr.heap.size,1,N⟩=Z (H C mt.length cc):=by simp
   have x2:(wr.alloc (.cells #[I J mf,H C mt.length cc,.string mg] 116)).cell? ⟨wr.heap.size,2,N⟩=Z (.string mg):=by simp
   have sa:(wr.alloc (.cells #[I J mf,H C mt.length cc,.string mg] 116)).heap.size=wr.heap.size+1:=by simp
   have WaE:∃Wa,(wr.alloc (.cells #[I J mf,H C mt.length cc,.string mg] 116))=Wa:=⟨_,rfl⟩;go_wp2_with fail;obtain⟨Wa,hWa⟩:=WaE;rw[hWa]at Ba x0 x1 x2 sa⊢;clear hWa c0 c1 c2;with_reducible refine(KO.out Wa).mono ?_
   rintro e Wb ⟨rfl,hbb⟩;have hxa:wr.heap.size<Wa.heap.size:=by omega
   have y0:=(hbb.cell (p:=⟨wr.heap.size,0,N⟩) hxa).trans x0;have y1:=(hbb.cell (p:=⟨wr.heap.size,1,N⟩) hxa).trans x1;have y2:=(hbb.cell (p:=⟨wr.heap.size,2,N⟩) hxa).trans x2;have sb:=hbb.size;have Bw:=Ba.trans (hbb.mono Ba.size);have HMB:=G (HM.out.below Bw);have hb7:=hb6.trans (Bw.mono hb6.size);clear x0 x1 x2;by_cases hin:kx∈kms ms i
   ·have HV:=G (XY hin)
    obtain rfl:=HD.out hin;clear HN HD hin;go_wp2_with(at_lookup;refine qP rfl _ _ 151 rfl HMB.out pI underlying151 (DU _) rfl rfl HKK.out (nA HKK.out) ?_;rw[HV.out]);go_ret;exact⟨rfl,hbr.trans (hb7.mono hbr.size)⟩
   have HV:=G (XW hin);have HP:=G (fun x=>XX (kms ms i) kx x);have HQ:=G (HN.out hin);clear HN HD hin;go_wp2_with(at_lookup;refine qP rfl _ _ 151 rfl HMB.out pI underlying151 (DU _) rfl rfl HKK.out (nA HKK.out) ?_;rw[HV.out]);with_reducible refine(KO.out Wb).mono ?_
   rintro e Wc ⟨rfl,hbc⟩;have HMC:=G (HMB.out.below hbc);have hb8:=hb7.trans (hbc.mono hb7.size);have sc:=hbc.size;clear y0 y1 y2 HMB;go_wp2_with(at_mapUpdate;refine nR rfl _ _ _ 151 rfl HMC.out pI underlying151 (by unfold maxLen;omega) rfl rfl rfl HKK.out (nA HKK.out) (fun y hy e=>RO hy HKK.out e) ?_;intro w9 hM9 hg9;have HM9:=G hM9;have HG9:=G hg9;have sg:=hg9.size;clear hM9 hg9);go_roundw
   case rel=>exact⟨i+1,by omega,by go_num,HQ.out,by rw[HE.out];exact HM9.out.ext (fun x _=>HP.out x),kA hb8 HG9.out (Nat.le_refl _) hb8.size,by omega⟩
   simp[intOf];omega
  have hnd:=HND.out;unfold kms at hnd;rw[List.take_of_length_le (show ms.length≤i by omega)]at hnd;obtain rfl:=E4''.out hnd;clear hnd HND;go_wp2_with fail;go_ret;exact⟨rfl,hbr.trans (hb6.mono hbr.size)⟩
end
end Go.Proofs.YtpfbnikbebccjaaGreatDoor
