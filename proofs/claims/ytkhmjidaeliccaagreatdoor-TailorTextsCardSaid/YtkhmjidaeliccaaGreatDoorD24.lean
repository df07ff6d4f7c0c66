import Derived.Test.YtkhmjidaeliccaaGreatDoorD00
import Derived.Test.YtkhmjidaeliccaaGreatDoorD02
import Derived.Test.YtkhmjidaeliccaaGreatDoorD08
import Derived.Test.YtkhmjidaeliccaaGreatDoorD09
import Derived.Test.YtkhmjidaeliccaaGreatDoorD11
import Derived.Test.YtkhmjidaeliccaaGreatDoorD14
import Derived.Test.YtkhmjidaeliccaaGreatDoorD15
import Derived.Test.YtkhmjidaeliccaaGreatDoorD16
import Derived.Test.YtkhmjidaeliccaaGreatDoorProg
import Derived.WalkSpells
set_option maxRecDepth 100000
set_option maxHeartbeats 51200000
namespace Go.Proofs.YtkhmjidaeliccaaGreatDoor
open Option renaming none->N,some->Z
open Value renaming int->I,slice->H
open IntKind renaming i64->J
open Go.Proofs.Tryz
namespace Tl
open Go.RowKit
theorem cmp_map{g:Int->Int}(hg:∀x y,g x<g y ↔ x<y):∀u v:Li,aA (u.map g) (v.map g)=aA u v
 | [],[]=>rfl
 | [],_::_=>rfl
 |_::_,[]=>rfl
 |a::u,b::v=>by
  show(if g a<g b then _ else if g b<g a then _ else aA (u.map g) (v.map g))=if a<b then _ else if b<a then _ else aA u v
  rw[cmp_map hg u v];simp only[hg]
def lexC:List (Li)->List (Li)->Int
 |x::X,y::Y=>if aA x y=0 then lexC X Y else aA x y
 |_,_=>0
theorem cmp_sep:∀{x y:Li}{s t:Li},(∀z∈x,1<=z)->(∀z∈y,1<=z)->aA (x++0::s) (y++0::t)=if aA x y=0 then aA s t else aA x y
 | [],[],s,t,_,_=>by simp[aA]
 | [],b::y,s,t,_,hy=>by
  have:=hy b (by simp);rw[show aA ([]:Li) (b::y)=-1 from rfl,if_neg (by decide)];simp only[List.nil_append,List.cons_append,aA];rw[if_pos (by omega)]
 |a::x,[],s,t,hx,_=>by
  have:=hx a (by simp);rw[show aA (a::x) ([]:Li)=1 from rfl,if_neg (by decide)];simp only[List.nil_append,List.cons_append,aA];rw[if_neg (by omega),if_pos (by omega)]
 |a::x,b::y,s,t,hx,hy=>by
  have ih:=cmp_sep (x:=x) (y:=y) (s:=s) (t:=t) (fun z hz=>hx z (List.mem_cons_of_mem _ hz)) (fun z hz=>hy z (List.mem_cons_of_mem _ hz));simp only[List.cons_append,aA];rw[ih];by_cases h1:a<b
  ·simp[h1]
  by_cases h2:b<a
  ·simp[h1,h2]
  simp[h1,h2]
theorem join_lex:∀{X Y:List (Li)},X.length=Y.length->(∀x∈X,∀z∈x,1<=z)->(∀y∈Y,∀z∈y,1<=z)->aA (cY X) (cY Y)=lexC X Y
 | [],[],_,_,_=>rfl
 | [x],[y],_,_,_=>by
  show aA x y=if aA x y=0 then 0 else aA x y
  split
  ·next h=>exact h
  rfl
 |x::x2::X,y::y2::Y,hl,hX,hY=>by
  have ih:=join_lex (X:=x2::X) (Y:=y2::Y) (by simpa using hl) (fun z hz=>hX z (List.mem_cons_of_mem _ hz)) (fun z hz=>hY z (List.mem_cons_of_mem _ hz));show aA (x++0::cY (x2::X)) (y++0::cY (y2::Y))=_
  rw[cmp_sep (hX x (by simp)) (hY y (by simp)),ih];rfl
 | [],_::_,hl,_,_=>by simp at hl
 |_::_,[],hl,_,_=>by simp at hl
 | [_],_::_::_,hl,_,_=>by simp at hl
 |_::_::_,[_],hl,_,_=>by simp at hl
theorem lex_congr{A B A' B':Nat->Li}:∀ks:List Nat,(∀k∈ks,aA (A k) (B k)=aA (A' k) (B' k))->lexC (ks.map A) (ks.map B)=lexC (ks.map A') (ks.map B')
 | [],_=>rfl
 |k::ks,h=>by
  have ih:=lex_congr ks (fun j hj=>h j (List.mem_cons_of_mem _ hj));show(if aA (A k) (B k)=0 then lexC (ks.map A) (ks.map B)else aA (A k) (B k))=if aA (A' k) (B' k)=0 then lexC (ks.map A') (ks.map B')else aA (A' k) (B' k)
  rw[h k (by simp),ih]
theorem lex_zero{A B:Nat->Li}:∀ks:List Nat,(∀k∈ks,A k=B k)->lexC (ks.map A) (ks.map B)=0
 | [],_=>rfl
 |k::ks,h=>by
  show(if aA (A k) (B k)=0 then lexC (ks.map A) (ks.map B)else aA (A k) (B k))=0
  rw[if_pos ((lP _ _).2 (h k (by simp)))];exact lex_zero ks (fun j hj=>h j (List.mem_cons_of_mem _ hj))
theorem lex_hit{A B:Nat->Li}{r:Int}(hr:r≠0){m:Nat}(hm:aA (A m) (B m)=r)(post:List Nat):∀pre:List Nat,(∀k∈pre,A k=B k)->lexC ((pre++m::post).map A) ((pre++m::post).map B)=r
 | [],_=>by
  show(if aA (A m) (B m)=0 then _ else aA (A m) (B m))=r
  rw[hm,if_neg hr]
 |k::ks,h=>by
  show(if aA (A k) (B k)=0 then lexC ((ks++m::post).map A) ((ks++m::post).map B)else aA (A k) (B k))=r
  rw[if_pos ((lP _ _).2 (h k (by simp)))];exact lex_hit hr hm post ks (fun j hj=>h j (List.mem_cons_of_mem _ hj))
def optN(s:Int):Opt:=⟨s,1,false,false⟩
theorem optN_D{s:Int}(h1:1<=s)(h4:s<=4):bY (optN s)=optN s:=by
 unfold bY;rw[if_pos];unfold jJ optN;simp;omega
def wn(k:Nat)(e:Elt):Int:=if k<3 then aJ e k else if aM e=true then 0 else 65535
def rw1(es:List Elt)(k:Nat):Li:=(es.map (wn k)).filter (fun x=>decide (x≠0))
theorem rw1_app(a b:List Elt)(k:Nat):rw1 (a++b) k=rw1 a k++rw1 b k:=by unfold rw1;rw[List.map_append,List.filter_append]
theorem rw1_flat{α:Type}(f:α->List Elt)(k:Nat)(l:List α):rw1 (l.flatMap f) k=l.flatMap (fun x=>rw1 (f x) k):=by
 induction l with
 |nil=>rfl
 |cons x l ih=>rw[List.flatMap_cons,rw1_app,ih,List.flatMap_cons]
theorem wts_n(k:Nat):∀(a:Bool)(es:List Elt),(gH 1 a es).map (fun w=>w k)=es.map (wn k)
 |_,[]=>rfl
 |a,e::es=>by
  unfold gH;rw[List.map_cons,List.map_cons,wts_n k _ es];rfl
theorem lvl_n(s:Int)(es:List Elt)(k:Nat):kG (optN s) es k=rw1 es k:=by
 unfold kG;rw[if_neg (by rintro⟨_,h⟩;cases h)];unfold jN rw1 optN;rw[wts_n]
def NN(e:Elt):Prop:=0<=e.p/\0<=e.s/\0<=e.t
theorem EOk.nn{e:Elt}(h:EOk e):NN e:=⟨h.p0,h.s0,h.t0⟩
theorem wn_nn{e:Elt}(h:NN e)(k:Nat):0<=wn k e:=by
 obtain⟨h1,h2,h3⟩:=h;unfold wn aJ;repeat' split
 all_goals omega
theorem rw1_pos{es:List Elt}(h:∀e∈es,NN e)(k:Nat):∀z∈rw1 es k,1<=z:=by
 intro z hz;unfold rw1 at hz;obtain⟨h1,h2⟩:=List.mem_filter.1 hz;obtain⟨e,he,rfl⟩:=List.mem_map.1 h1;have:=wn_nn (h e he) k;have:wn k e≠0:=by simpa using h2
 omega
theorem key_lex{s:Int}{a b:List Elt}(ha:∀e∈a,NN e)(hb:∀e∈b,NN e)(x y:Li):aA (bO (optN s) a x) (bO (optN s) b y)=lexC ((List.range s.toNat).map (rw1 a)) ((List.range s.toNat).map (rw1 b)):=by
 have e:∀(es:List Elt)(z:Li),bO (optN s) es z=cY ((List.range s.toNat).map (rw1 es)):=by
  intro es z;unfold bO;rw[if_neg (by simp[optN]),List.append_nil];unfold fB;congr 1;exact List.map_congr_left fun k _=>lvl_n s es k
 rw[e,e];refine join_lex (by simp) ?_ ?_
 ·intro r hr
  obtain⟨k,_,rfl⟩:=List.mem_map.1 hr;exact rw1_pos ha k
 intro r hr;obtain⟨k,_,rfl⟩:=List.mem_map.1 hr;exact rw1_pos hb k
theorem imp_nn{c:Col}(h:aH c=0)(x:Int):∀e∈aO c x,NN e:=by
 obtain⟨_,g2,g3,g4,g5⟩:=iF h;intro e he;unfold aO at he;split at he
 ·simp only[List.mem_cons,List.not_mem_nil,or_false]at he
  rcases he with rfl|rfl
  ·exact⟨by dsimp only;omega,by dsimp only;omega,by dsimp only;omega⟩
  exact⟨by dsimp only;omega,by dsimp only;omega,by dsimp only;omega⟩
 cases he
theorem part_nn{c:Col}(h:aH c=0)(p:Li)(q:Bool):∀e∈Mtc.ofPart (aC c.ents) (aO c) p q,NN e:=by
 intro e he;unfold Mtc.ofPart at he;split at he
 ·cases hl:aC c.ents p with
  |none=>rw[hl]at he;cases he
  |some es=>
   rw[hl]at he;obtain⟨x,hx,_,rfl⟩:=jI hl;exact(((ent_iff c.base x).1 (ents_all (eY h) x hx)).ev e he).nn
 exact imp_nn h _ e he
theorem els_nn{c:Col}(h:aH c=0)(cl:Int->Int)(t:Li):∀e∈Mtc.elems cl (aC c.ents) (aO c) t,NN e:=by
 intro e he;rw[Mtc.elems_parts]at he;obtain⟨p,_,he⟩:=List.mem_flatMap.1 he;exact part_nn h _ _ e he
section
variable {k l:Int}{e:Elt}
theorem wn_rs(hl:1<=l)(h:NN e)(j:Nat):wn j (rsE k l e)=if k=j+1/\j<3 then mvd l (wn j e)else wn j e:=by
 obtain⟨h1,h2,h3⟩:=h;have q1:(rsE k l e).p=0 ↔ e.p=0:=by rw[rsE_p];split;(rw[mvd_zero hl];omega);exact Iff.rfl
 have q2:(rsE k l e).s=0 ↔ e.s=0:=by rw[rsE_s];split;(rw[mvd_zero hl];omega);exact Iff.rfl
 have q3:(rsE k l e).t=0 ↔ e.t=0:=by rw[rsE_t];split;(rw[mvd_zero hl];omega);exact Iff.rfl
 by_cases j3:j<3
 ·rcases show j=0\/j=1\/j=2 by omega with rfl|rfl|rfl
  ·show(rsE k l e).p=if k=((0:Nat):Int)+1/\0<3 then mvd l e.p else e.p
   rw[rsE_p];by_cases hk:k=1
   ·rw[if_pos hk,if_pos ⟨by omega,by decide⟩]
   rw[if_neg hk,if_neg (by omega)]
  ·show(rsE k l e).s=if k=((1:Nat):Int)+1/\1<3 then mvd l e.s else e.s
   rw[rsE_s];by_cases hk:k=2
   ·rw[if_pos hk,if_pos ⟨by omega,by decide⟩]
   rw[if_neg hk,if_neg (by omega)]
  show(rsE k l e).t=if k=((2:Nat):Int)+1/\2<3 then mvd l e.t else e.t
  rw[rsE_t];by_cases hk:k=3
  ·rw[if_pos hk,if_pos ⟨by omega,by decide⟩]
  rw[if_neg hk,if_neg (by omega)]
 have hneg:¬(k=(j:Int)+1/\j<3):=fun g=>j3 g.2
 have hno:aM (rsE k l e)=aM e:=by
  unfold aM;rw[show decide ((rsE k l e).p=0)=decide (e.p=0)from decide_eq_decide.2 q1,show decide ((rsE k l e).s=0)=decide (e.s=0)from decide_eq_decide.2 q2,show decide ((rsE k l e).t=0)=decide (e.t=0)from decide_eq_decide.2 q3]
 rw[if_neg hneg];unfold wn;rw[if_neg j3,if_neg j3,hno]
theorem rw1_rs(hl:1<=l){es:List Elt}(h:∀e∈es,NN e)(j:Nat):rw1 (es.map (rsE k l)) j=if k=j+1/\j<3 then(rw1 es j).map (mvd l)else rw1 es j:=by
 induction es with
 |nil=>simp[rw1]
 |cons e es ih=>
  have ih:=ih (fun x hx=>h x (List.mem_cons_of_mem _ hx));have he:=h e (by simp);have hw:=wn_rs (k:=k) hl he j;have hn:=wn_nn he j;have e1:∀(x:Elt)(xs:List Elt),rw1 (x::xs) j=(if wn j x=0 then []else [wn j x])++rw1 xs j:=by
   intro x xs;unfold rw1;rw[List.map_cons];by_cases q:wn j x=0
   ·rw[List.filter_cons_of_neg (by simpa using q),if_pos q];rfl
   rw[List.filter_cons_of_pos (by simpa using q),if_neg q];rfl
  rw[List.map_cons,e1,e1,ih,hw];by_cases hk:k=j+1/\j<3
  ·rw[if_pos hk,if_pos hk,if_pos hk]
   by_cases q:wn j e=0
   ·rw[q,mvd_z hl,if_pos rfl];rfl
   have:1<=mvd l (wn j e):=mvd_pos (by omega);rw[if_neg q,if_neg (by omega)];simp
  rw[if_neg hk,if_neg hk,if_neg hk]
end
structure Rm(k l:Int)(c c1:Col):Prop where
 ok:aH c=0
 k03:k=0\/k=1\/k=2\/k=3
 l1:1<=l
 lb:k=1->l<=c.base
 ents:c1.ents=c.ents.map fun x=>⟨x.codes,x.elems.map (rsE k l)⟩
 base:c1.base=if k=1 then mvd l c.base else c.base
 second:c1.second=if k=2 then mvd l c.second else c.second
 third:c1.third=if k=3 then mvd l c.third else c.third
section
variable {d:Li}{kn:Bool}{es:List Elt}{c:Col}{t:Tlr}{c':Col}
def lT(t:Tlr)(es:List Elt):Int:=if t.lvl=0 then 1 else lst (atW t.lvl es) t.bef
theorem StpOk.room(h:StpOk d kn es c t c')(hk:kndT t=true)(hc:aH c=0)(ha:AncOk c.base es):Rm t.lvl (lT t es) c (rmC t es c):=by
 unfold rmC lT;rcases h.lv with⟨h1,_⟩|⟨h1,h2,h3,h4,h5⟩
 ·rw[if_pos h1,if_pos h1,h1]
  refine⟨hc,.inl rfl,by decide,fun q=>absurd q (by decide),?_,rfl,rfl,rfl⟩;refine((List.map_congr_left fun x _=>?_).trans (List.map_id _)).symm;rw[show x.elems.map (rsE 0 1)=x.elems from(List.map_congr_left fun e _=>rsE_0 (by decide) e).trans (List.map_id _)];rfl
 rw[if_neg (by omega),if_neg (by omega)];obtain⟨w1,wb⟩:=atW_pos ha h2;have hl:=lst_cases (atW t.lvl es) t.bef;refine⟨hc,.inr (lvl_cases hk h1),by omega,fun q=>?_,rfl,rfl,rfl,rfl⟩;have:=wb q;omega
end
section
variable {k l:Int}{c c1:Col}{cl:Int->Int}
theorem Rm.last(h:Rm k l c c1)(zs:Li):aC c1.ents zs=(aC c.ents zs).map (List.map (rsE k l)):=by
 rw[h.ents];exact last_map c.ents zs
theorem last_nn{c:Col}(h:aH c=0){p:Li}{es:List Elt}(hl:aC c.ents p=Z es):∀e∈es,NN e/\e.p<c.base:=by
 intro e he;obtain⟨x,hx,_,rfl⟩:=jI hl;have:=(ent_iff c.base x).1 (ents_all (eY h) x hx);exact⟨(this.ev e he).nn,this.eb e he⟩
theorem Rm.part(h:Rm k l c c1)(p:Li)(q:Bool){j:Nat}(hj:¬(k=1/\j=0)):rw1 (Mtc.ofPart (aC c1.ents) (aO c1) p q) j=if k=j+1/\j<3 then(rw1 (Mtc.ofPart (aC c.ents) (aO c) p q) j).map (mvd l)else rw1 (Mtc.ofPart (aC c.ents) (aO c) p q) j:=by
 cases q with
 |true=>
  unfold Mtc.ofPart;rw[if_pos rfl,if_pos rfl,h.last];cases hl:aC c.ents p with
  |none=>simp[rw1]
  |some es=>
   show rw1 (es.map (rsE k l)) j=_
   exact rw1_rs h.l1 (fun e he=>(last_nn h.ok hl e he).1) j
 |false=>
  unfold Mtc.ofPart;simp only[Bool.false_eq_true,↓reduceIte];generalize p.getD 0 0=z;obtain⟨_,g2,g3,g4,g5⟩:=iF h.ok;unfold aO;rw[h.base,h.second,h.third];by_cases hz:0<=z/\z<=1114111
  ·rw[if_pos hz,if_pos hz]
   have hm2:=mvd_pos (l:=l) g4.1;have hm3:=mvd_pos (l:=l) g5.1;have hm1:=mvd_pos (l:=l) g2;rcases h.k03 with rfl|rfl|rfl|rfl
   ·simp[show¬((0:Int)=(j:Int)+1) by omega]
   ·have hj0:j≠0:=fun e=>hj ⟨rfl,e⟩
    rw[if_neg (show¬((1:Int)=(j:Int)+1/\j<3)from fun g=>hj0 (by omega))];by_cases j3:j<3
    ·rcases(show j=1\/j=2 by omega)with rfl|rfl
     ·simp[rw1,wn,aJ]
     simp[rw1,wn,aJ]
    have e1:¬(mvd l c.base+z/32768=0):=by omega
    have e2:¬(c.base+z/32768=0):=by omega
    unfold rw1 wn aM;simp[j3,e1,e2]
   ·by_cases j1:j=1
    ·subst j1
     have e2:¬c.second=0:=by omega
     have e3:¬mvd l c.second=0:=by omega
     simp[rw1,wn,aJ,e2,e3]
    rw[if_neg (show¬((2:Int)=(j:Int)+1/\j<3)from fun g=>j1 (by omega))];by_cases j3:j<3
    ·rcases(show j=0\/j=2 by omega)with rfl|rfl
     ·simp[rw1,wn,aJ]
     simp[rw1,wn,aJ]
    unfold rw1 wn aM;have e2:¬(c.base+z/32768=0):=by omega
    simp[j3,e2]
   by_cases j2:j=2
   ·subst j2
    have e2:¬c.third=0:=by omega
    have e3:¬mvd l c.third=0:=by omega
    simp[rw1,wn,aJ,e2,e3]
   rw[if_neg (show¬((3:Int)=(j:Int)+1/\j<3)from fun g=>j2 (by omega))];by_cases j3:j<3
   ·rcases(show j=0\/j=1 by omega)with rfl|rfl
    ·simp[rw1,wn,aJ]
    simp[rw1,wn,aJ]
   unfold rw1 wn aM;have e2:¬(c.base+z/32768=0):=by omega
   simp[j3,e2]
  rw[if_neg hz,if_neg hz];simp[rw1]
theorem Rm.rows(h:Rm k l c c1)(P:List (Li×Bool)){j:Nat}(hj:¬(k=1/\j=0)):rw1 (P.flatMap fun p=>Mtc.ofPart (aC c1.ents) (aO c1) p.1 p.2) j=if k=j+1/\j<3 then(rw1 (P.flatMap fun p=>Mtc.ofPart (aC c.ents) (aO c) p.1 p.2) j).map (mvd l)else rw1 (P.flatMap fun p=>Mtc.ofPart (aC c.ents) (aO c) p.1 p.2) j:=by
 rw[rw1_flat,rw1_flat];induction P with
 |nil=>simp
 |cons p P ih=>
  rw[List.flatMap_cons,List.flatMap_cons,ih,h.part p.1 p.2 hj];split
  ·rw[List.map_append]
  rfl
def flt(x:Int×Option Int):Li:=match x.2 with|none=>[x.1]|some y=>[x.1,y]
theorem cmp_tok{l base:Int}:∀(u v:List (Int×Option Int)),(∀x∈u++v,x.2=N->x.1<base)->(∀x∈u++v,x.2≠N->base<=x.1)->aA ((u.map fun x=>(mvd l x.1,x.2)).flatMap flt) ((v.map fun x=>(mvd l x.1,x.2)).flatMap flt)=aA (u.flatMap flt) (v.flatMap flt)
 | [],[],_,_=>rfl
 | [],(b,o)::v,_,_=>by cases o<;>rfl
 |(a,o)::u,[],_,_=>by cases o<;>rfl
 |(a,o)::u,(b,o')::v,h1,h2=>by
  have ih:=cmp_tok (l:=l) u v (fun x hx=>h1 x (by simp at hx|-;rcases hx with hx|hx<;>simp[hx])) (fun x hx=>h2 x (by simp at hx|-;rcases hx with hx|hx<;>simp[hx]));have e:∀(x:Int)(o:Option Int)(r:List (Int×Option Int)),((x,o)::r).flatMap flt=flt (x,o)++r.flatMap flt:=fun x o r=>List.flatMap_cons
  have em:∀(x:Int)(o:Option Int)(r:List (Int×Option Int)),(((x,o)::r).map fun x=>(mvd l x.1,x.2)).flatMap flt=flt (mvd l x,o)++(r.map fun x=>(mvd l x.1,x.2)).flatMap flt:=fun x o r=>by rw[List.map_cons];exact List.flatMap_cons
  rw[em,em,e,e];have hlt:=mvd_lt (l:=l) (x:=a) (y:=b);have hgt:=mvd_lt (l:=l) (x:=b) (y:=a);cases o with
  |none=>
   cases o' with
   |none=>
    simp only[flt,List.cons_append,List.nil_append,aA,hlt,hgt];rw[ih]
   |some y=>
    have q1:=h1 (a,N) (by simp) rfl;have q2:=h2 (b,Z y) (by simp) (by simp);dsimp only at q1 q2;simp only[flt,List.cons_append,List.nil_append,aA,hlt];rw[if_pos (by omega),if_pos (by omega)]
  |some x=>
   cases o' with
   |none=>
    have q1:=h1 (b,N) (by simp) rfl;have q2:=h2 (a,Z x) (by simp) (by simp);dsimp only at q1 q2;simp only[flt,List.cons_append,List.nil_append,aA,hlt,hgt];rw[if_neg (by omega),if_pos (by omega),if_neg (by omega),if_pos (by omega)]
   |some y=>
    simp only[flt,List.cons_append,List.nil_append,aA,hlt,hgt];rw[ih]
def tokP(c:Col)(p:Li×Bool):List (Int×Option Int):=if p.2=true then(rw1 ((aC c.ents p.1).getD []) 0).map (fun x=>(x,N))else if 0<=p.1.getD 0 0/\p.1.getD 0 0<=1114111 then [(c.base+p.1.getD 0 0/32768,Z (32768+p.1.getD 0 0%32768))]else []
theorem flt_one(l:Li):(l.map fun x=>((x,N):Int×Option Int)).flatMap flt=l:=by
 induction l with
 |nil=>rfl
 |cons x l ih=>rw[List.map_cons,List.flatMap_cons,ih];rfl
theorem tok_row{c:Col}(h:aH c=0)(p:Li×Bool):rw1 (Mtc.ofPart (aC c.ents) (aO c) p.1 p.2) 0=(tokP c p).flatMap flt:=by
 obtain⟨_,g2,g3,g4,g5⟩:=iF h;unfold Mtc.ofPart tokP;split
 ·rw[flt_one]
 unfold aO;split
 ·next hz=>
  have e1:¬c.base+p.1.getD 0 0/32768=0:=by omega
  have e2:¬32768+p.1.getD 0 0%32768=0:=by omega
  generalize p.1.getD 0 0=z at *;simp[rw1,wn,aJ,e1,e2,flt]
 simp[rw1]
theorem Rm.tok(h:Rm 1 l c c1)(p:Li×Bool):rw1 (Mtc.ofPart (aC c1.ents) (aO c1) p.1 p.2) 0=((tokP c p).map fun x=>(mvd l x.1,x.2)).flatMap flt:=by
 obtain⟨_,g2,g3,g4,g5⟩:=iF h.ok;unfold Mtc.ofPart tokP;split
 ·rw[List.map_map,h.last]
  have e:((fun x:Int×Option Int=>(mvd l x.1,x.2)) ∘ fun x:Int=>((x,N):Int×Option Int))=(fun x:Int=>((x,N):Int×Option Int)) ∘ mvd l:=rfl;rw[e,<-List.map_map,flt_one];cases hl:aC c.ents p.1 with
  |none=>simp[rw1]
  |some es=>
   show rw1 (es.map (rsE 1 l)) 0=_
   rw[rw1_rs h.l1 (fun e he=>(last_nn h.ok hl e he).1) 0,if_pos ⟨rfl,by decide⟩];rfl
 unfold aO;split
 ·next hz=>
  have hb:c1.base=c.base+1:=by
   rw[h.base,if_pos rfl];unfold mvd;rw[if_pos (h.lb rfl)]
  have hm:mvd l (c.base+p.1.getD 0 0/32768)=c.base+1+p.1.getD 0 0/32768:=by
   have:=h.lb rfl;unfold mvd;rw[if_pos (by omega)];omega
  have e1:¬c.base+1+p.1.getD 0 0/32768=0:=by omega
  have e2:¬32768+p.1.getD 0 0%32768=0:=by omega
  rw[hb];simp only[List.map_cons,List.map_nil,hm];generalize p.1.getD 0 0=z at *;simp[rw1,wn,aJ,e1,e2,flt]
 simp[rw1]
theorem tok_bd{c:Col}(h:aH c=0)(p:Li×Bool):(∀x∈tokP c p,x.2=N->x.1<c.base)/\(∀x∈tokP c p,x.2≠N->c.base<=x.1):=by
 unfold tokP;split
 ·refine⟨fun x hx _=>?_,fun x hx hn=>?_⟩
  ·obtain⟨z,hz,rfl⟩:=List.mem_map.1 hx
   unfold rw1 at hz;obtain⟨e,he,rfl⟩:=List.mem_map.1 (List.mem_filter.1 hz).1;cases hl:aC c.ents p.1 with
   |none=>rw[hl]at he;cases he
   |some es=>
    rw[hl]at he;exact(last_nn h hl e he).2
  obtain⟨z,hz,rfl⟩:=List.mem_map.1 hx;exact absurd rfl hn
 split
 ·refine⟨fun x hx hn=>?_,fun x hx _=>?_⟩
  ·rw[List.mem_singleton.1 hx]at hn;cases hn
  rw[List.mem_singleton.1 hx];dsimp only;omega
 exact⟨fun x hx=>(by cases hx),fun x hx=>(by cases hx)⟩
theorem Rm.cmp(h:Rm k l c c1)(P Q:List (Li×Bool))(j:Nat):
  aA (rw1 (P.flatMap fun p=>Mtc.ofPart (aC c1.ents) (aO c1) p.1 p.2) j) (rw1 (Q.flatMap fun p=>Mtc.ofPart (aC c1.ents) (aO c1) p.1 p.2) j)=aA (rw1 (P.flatMap fun p=>Mtc.ofPart (aC c.ents) (aO c) p.1 p.2) j) (rw1 (Q.flatMap fun p=>Mtc.ofPart (aC c.ents) (aO c) p.1 p.2) j):=by
 by_cases hj:k=1/\j=0
 ·obtain⟨rfl,rfl⟩:=hj
  have e:∀P:List (Li×Bool),rw1 (P.flatMap fun p=>Mtc.ofPart (aC c.ents) (aO c) p.1 p.2) 0=(P.flatMap (tokP c)).flatMap flt:=by
   intro P;rw[rw1_flat];induction P with
   |nil=>rfl
   |cons p P ih=>rw[List.flatMap_cons,List.flatMap_cons,List.flatMap_append,ih,tok_row h.ok]
  have e':∀P:List (Li×Bool),rw1 (P.flatMap fun p=>Mtc.ofPart (aC c1.ents) (aO c1) p.1 p.2) 0=((P.flatMap (tokP c)).map fun x=>(mvd l x.1,x.2)).flatMap flt:=by
   intro P;rw[rw1_flat];induction P with
   |nil=>rfl
   |cons p P ih=>rw[List.flatMap_cons,List.flatMap_cons,List.map_append,List.flatMap_append,ih,h.tok]
  rw[e,e,e',e'];refine cmp_tok (base:=c.base) _ _ (fun x hx=>?_) (fun x hx=>?_)
  ·rcases List.mem_append.1 hx with hx|hx
   ·obtain⟨p,_,hx⟩:=List.mem_flatMap.1 hx
    exact(tok_bd h.ok p).1 x hx
   obtain⟨p,_,hx⟩:=List.mem_flatMap.1 hx;exact(tok_bd h.ok p).1 x hx
  rcases List.mem_append.1 hx with hx|hx
  ·obtain⟨p,_,hx⟩:=List.mem_flatMap.1 hx
   exact(tok_bd h.ok p).2 x hx
  obtain⟨p,_,hx⟩:=List.mem_flatMap.1 hx;exact(tok_bd h.ok p).2 x hx
 rw[h.rows P hj,h.rows Q hj];split
 ·exact cmp_map (fun x y=>mvd_lt) _ _
 rfl
end
def freeT(d u:Li):Prop:=∃x0 d',d=x0::d'/\¬x0∈u
section
variable {d:Li}{kn:Bool}{es:List Elt}{c:Col}{t:Tlr}{c':Col}{cl:Int->Int}
theorem StpOk.col(h:StpOk d kn es c t c'):c'.base=(rmC t es c).base/\c'.second=(rmC t es c).second/\c'.third=(rmC t es c).third:=by rw[h.eq];exact⟨rfl,rfl,rfl⟩
theorem StpOk.imp(h:StpOk d kn es c t c'):aO c'=aO (rmC t es c):=by
 obtain⟨h1,h2,h3⟩:=h.col;funext z;unfold aO;rw[h1,h2,h3]
theorem StpOk.free(h:StpOk d kn es c t c')(hk:kndT t=true)(hc:aH c=0)(ha:AncOk c.base es){u:Li}(hf:freeT d u):
  Mtc.parts cl (aC c.ents) u=Mtc.parts cl (aC c'.ents) u/\Mtc.elems cl (aC c'.ents) (aO c') u=(Mtc.parts cl (aC c.ents) u).flatMap fun p=>Mtc.ofPart (aC (rmC t es c).ents) (aO (rmC t es c)) p.1 p.2:=by
 obtain⟨x0,d',hd,hx⟩:=hf;have hrm:=h.room hk hc ha
 have hne:∀x∈u,∀zs,x::zs≠d:=fun x hu zs e=>by
  rw[hd]at e;injection e with e _;subst e;exact hx hu
 have e1:Mtc.parts cl (aC c.ents) u=Mtc.parts cl (aC c'.ents) u:=Mtc.parts_congr (fun x hu zs=>by
  rw[h.found hk hc ha,if_neg (hne x hu zs),hrm.last]
  cases aC c.ents (x::zs)<;>rfl)
 refine⟨e1,?_⟩;rw[Mtc.elems_parts,<-e1];have key:∀P:List (Li×Bool),(∀p∈P,p.1≠[]/\∀x∈p.1,x∈u)->P.flatMap (fun p=>Mtc.ofPart (aC c'.ents) (aO c') p.1 p.2)=P.flatMap fun p=>Mtc.ofPart (aC (rmC t es c).ents) (aO (rmC t es c)) p.1 p.2:=by
  intro P;induction P with
  |nil=>intro _;rfl
  |cons p P ih=>
   intro hP;rw[List.flatMap_cons,List.flatMap_cons,ih (fun q hq=>hP q (List.mem_cons_of_mem _ hq))];congr 1;obtain⟨h1,h2⟩:=hP p (by simp);have hnd:¬p.1=d:=by
    obtain⟨p1,p2⟩:=p;cases p1 with
    |nil=>exact absurd rfl h1
    |cons x zs=>exact hne x (h2 x (by simp)) zs
   unfold Mtc.ofPart;rw[h.imp,h.found hk hc ha,if_neg hnd]
 exact key _ (fun p hp=>by
  have:=Mtc.parts_mem p hp
  exact⟨this.1,this.2.1⟩)
theorem StpOk.keeps(h:StpOk d kn es c t c')(hk:kndT t=true)(hc:aH c=0)(ha:AncOk c.base es)(hc':aH c'=0){u v:Li}(hu:freeT d u)(hv:freeT d v)(s:Int)(x y x' y':Li):
  aA (bO (optN s) (Mtc.elems cl (aC c'.ents) (aO c') u) x') (bO (optN s) (Mtc.elems cl (aC c'.ents) (aO c') v) y')=aA (bO (optN s) (Mtc.elems cl (aC c.ents) (aO c) u) x) (bO (optN s) (Mtc.elems cl (aC c.ents) (aO c) v) y):=by
 rw[key_lex (els_nn hc' cl u) (els_nn hc' cl v),key_lex (els_nn hc cl u) (els_nn hc cl v)];refine lex_congr _ (fun j _=>?_);rw[(h.free hk hc ha hu).2,(h.free hk hc ha hv).2,Mtc.elems_parts u,Mtc.elems_parts v];exact(h.room hk hc ha).cmp _ _ j
theorem zero_low{k:Int}{e:Elt}(hk:k=1\/k=2\/k=3)(h:EOk e)(h0:wt k e=0){j:Nat}(hj:(j:Int)+1<=k):wn j e=0:=by
 have h1:=h.ps;have h2:=h.st;unfold wt at h0;unfold wn aJ;rcases hk with rfl|rfl|rfl
 ·obtain rfl:j=0:=by omega
  simpa using h0
 ·rw[if_neg (by decide),if_pos rfl]at h0
  have hp:e.p=0:=Classical.byContradiction fun g=>h1 g h0
  rcases show j=0\/j=1 by omega with rfl|rfl
  ·simpa using hp
  simpa using h0
 rw[if_neg (by decide),if_neg (by decide)]at h0;have hs:e.s=0:=Classical.byContradiction fun g=>h2 g h0
 have hp:e.p=0:=Classical.byContradiction fun g=>h1 g hs
 rcases show j=0\/j=1\/j=2 by omega with rfl|rfl|rfl
 ·simpa using hp
 ·simpa using hs
 simpa using h0
theorem rw1_zero{es:List Elt}{j:Nat}(h:∀e∈es,wn j e=0):rw1 es j=[]:=by
 unfold rw1;rw[List.filter_eq_nil_iff];intro z hz;obtain⟨e,he,rfl⟩:=List.mem_map.1 hz;simpa using h e he
theorem wn_wt{k:Int}(hk:k=1\/k=2\/k=3)(e:Elt){j:Nat}(hj:(j:Int)+1=k):wn j e=wt k e:=by
 unfold wn aJ wt;rcases hk with rfl|rfl|rfl
 ·obtain rfl:j=0:=by omega
  rfl
 ·obtain rfl:j=1:=by omega
  rfl
 obtain rfl:j=2:=by omega
 rfl
theorem new_rows{t:Tlr}(hk:t.lvl=1\/t.lvl=2\/t.lvl=3)(ha:AncOk c.base es)(h0:0<lstK t.lvl es es.length):
  (∀j:Nat,(j:Int)+1<t.lvl->rw1 (newL t es c) j=rw1 (es.map (rsE t.lvl (lst (atW t.lvl es) t.bef))) j)/\(∀j:Nat,(j:Int)+1=t.lvl->aA (rw1 (newL t es c) j) (rw1 (es.map (rsE t.lvl (lst (atW t.lvl es) t.bef))) j)=if t.bef=true then -1 else 1):=by
 obtain⟨w1,wb⟩:=atW_pos ha h0;obtain⟨a1,a2,a5⟩:=atE_in h0;obtain⟨a3,a4⟩:=ha _ a1;have hl:=lst_cases (atW t.lvl es) t.bef;have hlv:lst (atW t.lvl es) t.bef=if t.bef=true then atW t.lvl es else atW t.lvl es+1:=rfl;have hat:atE t.lvl es=es[lstK t.lvl es es.length-1]:=by
  unfold atE;rw[List.getD_eq_getElem?_getD,List.getElem?_eq_getElem a5];rfl
 have hup:∀e∈es.drop (lstK t.lvl es es.length),wt t.lvl e=0/\EOk e:=by
  intro e he;obtain⟨i,hi,rfl⟩:=List.getElem_of_mem he;rw[List.length_drop]at hi;rw[List.getElem_drop];have hi2:lstK t.lvl es es.length+i<es.length:=by omega
  have:=lstK_up (k:=t.lvl) (es:=es) (n:=es.length) (i:=lstK t.lvl es es.length+i) (by omega) hi2;rw[List.getD_eq_getElem?_getD,List.getElem?_eq_getElem hi2]at this;exact⟨this,(ha _ (List.getElem_mem hi2)).1⟩
 have hsplit:es=es.take (lstK t.lvl es es.length-1)++atE t.lvl es::es.drop (lstK t.lvl es es.length):=by
  rw[hat];have h2:=List.drop_eq_getElem_cons a5;rw[show lstK t.lvl es es.length-1+1=lstK t.lvl es es.length by omega]at h2;rw[<-h2,List.take_append_drop]
 have haw:atW t.lvl es=wt t.lvl (atE t.lvl es):=rfl;have hnew:newL t es c=(es.take (lstK t.lvl es es.length-1)).map (rsE t.lvl (lst (atW t.lvl es) t.bef))++[newE t.lvl (lst (atW t.lvl es) t.bef) (roomT t es c) (atE t.lvl es)]:=rfl;have hmap:es.map (rsE t.lvl (lst (atW t.lvl es) t.bef))=(es.take (lstK t.lvl es es.length-1)).map (rsE t.lvl (lst (atW t.lvl es) t.bef))++([rsE t.lvl (lst (atW t.lvl es) t.bef) (atE t.lvl es)]++(es.drop (lstK t.lvl es es.length)).map (rsE t.lvl (lst (atW t.lvl es) t.bef))):=by
  have hm:=congrArg (List.map (rsE t.lvl (lst (atW t.lvl es) t.bef))) hsplit;rw[List.map_append,List.map_cons]at hm;exact hm
 have hdrop:∀j:Nat,(j:Int)+1<=t.lvl->rw1 ((es.drop (lstK t.lvl es es.length)).map (rsE t.lvl (lst (atW t.lvl es) t.bef))) j=[]:=by
  intro j hj;rw[rw1_rs (by omega) (fun e he=>(hup e he).2.nn) j,rw1_zero (fun e he=>zero_low hk (hup e he).2 (hup e he).1 hj)];split<;>rfl
 rw[hnew,hmap];generalize lst (atW t.lvl es) t.bef=l at *;generalize roomT t es c=rc at *;refine⟨fun j hj=>?_,fun j hj=>?_⟩
 ·rw[rw1_app,rw1_app,rw1_app,hdrop j (by omega),List.append_nil]
  congr 1;have hwe:wn j (rsE t.lvl l (atE t.lvl es))=wn j (atE t.lvl es):=by rw[wn_rs (by omega) a3.nn j,if_neg (by rintro⟨g,_⟩;omega)]
  have hwn:wn j (newE t.lvl l rc (atE t.lvl es))=wn j (atE t.lvl es):=by
   unfold newE;rcases hk with e|e|e
   ·omega
   ·obtain rfl:j=0:=by omega
    rw[e];rfl
   rcases show j=0\/j=1 by omega with rfl|rfl
   ·rw[e];rfl
   rw[e];rfl
  unfold rw1;simp only[List.map_cons,List.map_nil,hwe,hwn]
 rw[rw1_app,rw1_app,rw1_app,hdrop j (by omega),List.append_nil,Pk.cmp_strip];have hwe:wn j (rsE t.lvl l (atE t.lvl es))=mvd l (atW t.lvl es):=by rw[wn_rs (by omega) a3.nn j,if_pos ⟨by omega,by omega⟩,wn_wt hk _ hj,haw]
 have hwn:wn j (newE t.lvl l rc (atE t.lvl es))=l:=by
  unfold newE;rcases hk with e|e|e
  ·obtain rfl:j=0:=by omega
   rw[e];rfl
  ·obtain rfl:j=1:=by omega
   rw[e];rfl
  obtain rfl:j=2:=by omega
  rw[e];rfl
 have hm:=mvd_pos (l:=l) w1;have e1:∀x:Elt,wn j x≠0->rw1 [x] j=[wn j x]:=by
  intro x hx;unfold rw1;simp[hx]
 rw[e1 _ (by rw[hwn];omega),e1 _ (by rw[hwe];omega),hwn,hwe];simp only[aA];cases hb:t.bef with
 |true=>
  rw[hb,if_pos rfl]at hlv;have:mvd l (atW t.lvl es)=atW t.lvl es+1:=by unfold mvd;rw[if_pos (by omega)]
  rw[this,if_pos (by omega),if_pos rfl]
 |false=>
  rw[hb,if_neg (by decide)]at hlv;have:mvd l (atW t.lvl es)=atW t.lvl es:=by unfold mvd;rw[if_neg (by omega)]
  rw[this,if_neg (by omega),if_pos (by omega),if_neg (by decide)]
theorem StpOk.elemsD(h:StpOk d kn es c t c')(hk:kndT t=true)(hc:aH c=0)(ha:AncOk c.base es)(hd:d≠[]):Mtc.elems cl (aC c'.ents) (aO c') d=nwL t es c:=by
 have hf:aC c'.ents d=Z (nwL t es c):=by rw[h.found hk hc ha,if_pos rfl]
 rw[Mtc.elems_parts,Mtc.parts_whole hd (by rw[hf];rfl)];simp[Mtc.ofPart,hf]
theorem StpOk.elemsA(h:StpOk d kn es c t c')(hk:kndT t=true)(hc:aH c=0)(ha:AncOk c.base es){u:Li}(hu:freeT d u)(hkn:Mtc.known cl (aC c.ents) u=true):Mtc.elems cl (aC c'.ents) (aO c') u=(Mtc.elems cl (aC c.ents) (aO c) u).map (rsE t.lvl (lT t es)):=by
 have hrm:=h.room hk hc ha;rw[(h.free hk hc ha hu).2,Mtc.elems_parts u];have hall:∀p∈Mtc.parts cl (aC c.ents) u,p.2=true:=fun p hp=>List.all_eq_true.1 hkn p hp
 generalize Mtc.parts cl (aC c.ents) u=P at *;induction P with
 |nil=>rfl
 |cons p P ih=>
  rw[List.flatMap_cons,List.flatMap_cons,List.map_append,ih (fun q hq=>hall q (List.mem_cons_of_mem _ hq))];congr 1;unfold Mtc.ofPart;rw[if_pos (hall p (by simp)),if_pos (hall p (by simp)),hrm.last];cases aC c.ents p.1<;>rfl
theorem StpOk.great(h:StpOk d kn es c t c')(hk:kndT t=true)(hc:aH c=0)(ha:AncOk c.base es)(hc':aH c'=0){u:Li}(hu:freeT d u)(hkn:Mtc.known cl (aC c.ents) u=true)(hes:es=Mtc.elems cl (aC c.ents) (aO c) u){s:Int}(hs:s=1\/s=2\/s=3)(x y:Li):
  aA (bO (optN s) (Mtc.elems cl (aC c'.ents) (aO c') d) x) (bO (optN s) (Mtc.elems cl (aC c'.ents) (aO c') u) y)=if 0<t.lvl/\t.lvl<=s then(if t.bef=true then -1 else 1)else 0:=by
 have hd:d≠[]:=by obtain⟨x0,d',e,_⟩:=hu;rw[e];simp
 rw[key_lex (els_nn hc' cl d) (els_nn hc' cl u),h.elemsD hk hc ha hd,h.elemsA hk hc ha hu hkn,<-hes];have hr:(if t.bef=true then(-1:Int)else 1)≠0:=by split<;>decide
 unfold nwL lT;rcases h.lv with⟨h1,_⟩|⟨h1,h2,h3,h4,h5⟩
 ·rw[if_pos h1,if_pos h1,if_neg (by omega),h1]
  refine lex_zero _ (fun j _=>?_);rw[show es.map (rsE 0 1)=es from(List.map_congr_left fun e _=>rsE_0 (by decide) e).trans (List.map_id _)]
 have hl:=lvl_cases hk h1;obtain⟨r1,r2⟩:=new_rows (c:=c) hl ha h2;rw[if_neg (by omega),if_neg (by omega)];generalize es.map (rsE t.lvl (lst (atW t.lvl es) t.bef))=es1 at *;generalize newL t es c=nl at *;generalize (if t.bef=true then(-1:Int)else 1)=r at *;by_cases hsl:t.lvl<=s
 ·rw[if_pos ⟨h1,hsl⟩]
  rcases hl with e|e|e<;>rcases hs with rfl|rfl|rfl<;>first
   |omega
   |exact lex_hit (A:=rw1 nl) (B:=rw1 es1) hr (r2 0 (by omega)) [] [] (fun j hj=>by cases hj)
   |exact lex_hit (A:=rw1 nl) (B:=rw1 es1) hr (r2 0 (by omega)) [1] [] (fun j hj=>by cases hj)
   |exact lex_hit (A:=rw1 nl) (B:=rw1 es1) hr (r2 0 (by omega)) [1,2] [] (fun j hj=>by cases hj)
   |exact lex_hit (A:=rw1 nl) (B:=rw1 es1) hr (r2 1 (by omega)) [] [0] (fun j hj=>by rw[List.mem_singleton.1 hj];exact r1 0 (by omega))
   |exact lex_hit (A:=rw1 nl) (B:=rw1 es1) hr (r2 1 (by omega)) [2] [0] (fun j hj=>by rw[List.mem_singleton.1 hj];exact r1 0 (by omega))
   |exact lex_hit (A:=rw1 nl) (B:=rw1 es1) hr (r2 2 (by omega)) [] [0,1] (fun j hj=>by simp at hj;rcases hj with rfl|rfl;exact r1 0 (by omega);exact r1 1 (by omega))
 rw[if_neg (by omega)];refine lex_zero _ (fun j hj=>r1 j ?_);have:=List.mem_range.1 hj;omega
end
end Tl
namespace Tl
open Go.RowKit
def cdp(z:Int):Prop:=0<=z/\z<=1114111
theorem full_cdp{ms:List Mp}(hc:fM ms)(kd:∀m∈ms,m.tag.size=0->m.toq.length=1\/m.toq.length=2){c:Int}{l:Li}(h:bH (onM ms false) c l):l≠[]/\(cdp c->∀e∈l,cdp e):=by
 induction h with
 |leaf h=>exact⟨by simp,fun h1 e he=>by simp at he;subst he;exact h1⟩
 | @node c tt vs h1 h2 _ ih=>
  have hk:tt≠[]/\∀e∈tt,cdp e:=by
   unfold onM at h1;split at h1
   ·next h4=>
    injection h1 with h1;subst h1;refine⟨?_,fun e he=>((kY h4).2 e he).1⟩;unfold Hg.decomp;rw[if_neg (by omega)];split<;>simp
   cases hf:aT ms false c with
   |none=>rw[hf]at h1;cases h1
   |some m=>
    rw[hf]at h1;obtain⟨hm,_,ht⟩:=gP hf;simp only[Option.map_some,Option.some.injEq]at h1;rw[mH hm]at h1;subst h1;refine⟨?_,(hc m hm).2.2⟩;have:=kd ms[m] (List.getElem_mem hm) (ht.resolve_left (by decide));intro e;rw[e]at this;simp at this
  obtain⟨k1,k2⟩:=hk;have hp:0<tt.length:=List.length_pos_iff.2 k1;refine⟨?_,fun _ e he=>?_⟩
  ·have h0:=(ih 0 hp (by omega)).1
   intro e;rw[List.flatten_eq_nil_iff]at e;exact h0 (e _ (List.getElem_mem _))
  obtain⟨v,hv,he⟩:=List.mem_flatten.1 he;obtain⟨i,hi,rfl⟩:=List.getElem_of_mem hv;exact(ih i (by omega) hi).2 (k2 _ (List.getElem_mem (by omega))) e he
theorem dtx_cdp(x:Nrm){t:Li}(ht:rngT t=true):1<=(dtx x false t).length/\∀z∈dtx x false t,0<=z/\z<=1114111:=by
 have hN:=pK x;unfold rngT at ht;simp only[Bool.and_eq_true,Bool.not_eq_true',List.all_eq_true,decide_eq_true_eq]at ht;obtain⟨h1,h2⟩:=ht;have hf:∀c,bH (onM (usN x).dec false) c (dcM (usN x).dec false c):=fun c=>mV hN.st hN.hg hN.en false c
 constructor
 ·unfold dtx
  rw[Can.srt_len];cases t with
  |nil=>simp at h1
  |cons c t=>
   unfold flM;rw[List.flatMap_cons,List.length_append];have:=List.length_pos_iff.2 (full_cdp hN.co hN.kd (hf c)).1;omega
 intro z hz;unfold dtx at hz;have hm:=(Can.srt_perm (flM (usN x) false t)).mem_iff.1 hz;unfold flM at hm;obtain⟨c,hct,hzc⟩:=List.mem_flatMap.1 hm;exact(full_cdp hN.co hN.kd (hf c)).2 (h2 c hct) z hzc
def stepP(x:Nrm)(c:Col)(t:Tlr):Int×Col:=
 if bQ x≠0 then(bQ x,col0)
 else if aH c≠0 then(aH c,col0)
 else if kndT t=false then(8,col0)
 else if rngT t.anc=false\/rngT t.cds=false then(1,col0)
 else stepB (dtx x false t.cds) (fI x c t.anc) (aI x c t.anc) c t
structure Chk(x:Nrm)(c:Col)(t:Tlr):Prop where
 n:bQ x=0
 c:aH c=0
 k:kndT t=true
 a:rngT t.anc=true
 d:rngT t.cds=true
theorem stepP_chk{x:Nrm}{c:Col}{t:Tlr}(h:Chk x c t):stepP x c t=stepB (dtx x false t.cds) (fI x c t.anc) (aI x c t.anc) c t:=by
 unfold stepP;rw[if_neg (by rw[h.n];simp),if_neg (by rw[h.c];simp),if_neg (by rw[h.k];simp),if_neg (by rw[h.a,h.d];simp)]
theorem stepP_ok{x:Nrm}{c:Col}{t:Tlr}{c':Col}(h:stepP x c t=(0,c')):Chk x c t/\StpOk (dtx x false t.cds) (fI x c t.anc) (aI x c t.anc) c t c'/\AncOk c.base (aI x c t.anc):=by
 have hk:Chk x c t:=by
  unfold stepP at h;split at h
  ·next g=>injection h with h;exact absurd h g
  next g1=>
  split at h
  ·next g=>injection h with h;exact absurd h g
  next g2=>
  split at h
  ·injection h with h;cases h
  next g3=>
  split at h
  ·injection h with h;cases h
  next g4=>
  refine⟨by omega,by omega,?_,?_,?_⟩
  ·cases q:kndT t with|true=>rfl|false=>exact absurd q g3
  ·cases q:rngT t.anc with|true=>rfl|false=>exact absurd (.inl q) g4
  cases q:rngT t.cds with|true=>rfl|false=>exact absurd (.inr q) g4
 rw[stepP_chk hk]at h;have hs:=stepB_ok hk.k h;refine⟨hk,hs,?_⟩;have hkn:=hs.kn;unfold fI at hkn;have e:a_ c=c:=if_pos hk.c;rw[e]at hkn;unfold aI;rw[e];exact known_ok hk.c hkn
theorem stepB_err{d:Li}{kn:Bool}{es:List Elt}{c:Col}{t:Tlr}(h:(stepB d kn es c t).1≠0):(stepB d kn es c t).2=col0:=by
 unfold stepB at h|-;split at h
 ·rw[if_pos (by assumption)]
 rw[if_neg (by assumption)];split at h
 ·rw[if_pos (by assumption)]
 rw[if_neg (by assumption)];split at h
 ·rw[if_pos (by assumption)]
  split at h
  ·rw[if_pos (by assumption)]
  exact absurd rfl h
 rw[if_neg (by assumption)];split at h
 ·rw[if_pos (by assumption)]
 rw[if_neg (by assumption)];split at h
 ·rw[if_pos (by assumption)]
 exact absurd rfl h
theorem stepP_err{x:Nrm}{c:Col}{t:Tlr}(h:(stepP x c t).1≠0):(stepP x c t).2=col0:=by
 unfold stepP at h|-;split
 ·rfl
 split
 ·rfl
 split
 ·rfl
 split
 ·rfl
 next g1 g2 g3 g4=>
 rw[if_neg g1,if_neg g2,if_neg g3,if_neg g4]at h;generalize dtx x false t.cds=d at *;generalize fI x c t.anc=kn at *;generalize aI x c t.anc=es at *;exact stepB_err h
section
variable {x:Nrm}{c:Col}{t:Tlr}{c':Col}
theorem stepP_valid(h:stepP x c t=(0,c')):aH c'=0:=by
 obtain⟨hk,hs,ha⟩:=stepP_ok h;obtain⟨d1,d2⟩:=dtx_cdp x hk.d;exact hs.valid hk.k hk.c ha d1 d2
theorem elsN_eq(h:aH c=0)(u:Li):aI x c u=Mtc.elems (cls (usN x).cls) (aC c.ents) (aO c) (dtx x false u):=by
 have e:a_ c=c:=if_pos h;unfold aI;rw[e]
theorem stepP_found(h:stepP x c t=(0,c')):∃l,aC c'.ents (dtx x false t.cds)=Z l/\(0<l.length ↔ 0<(aI x c t.anc).length)/\l.length<=(aI x c t.anc).length/\c'.grps.length=c.grps.length/\c'.ents.length<=c.ents.length+1:=by
 obtain⟨hk,hs,ha⟩:=stepP_ok h;obtain⟨l1,l2,l3,l4⟩:=hs.lens;exact⟨_,by rw[hs.found hk.k hk.c ha,if_pos rfl],l1,l2,l3,l4⟩
theorem stepP_keeps(h:stepP x c t=(0,c')){u v:Li}(hu:freeT (dtx x false t.cds) (dtx x false u))(hv:freeT (dtx x false t.cds) (dtx x false v))(s:Int)(p q p' q':Li):
  aA (bO (optN s) (aI x c' u) p') (bO (optN s) (aI x c' v) q')=aA (bO (optN s) (aI x c u) p) (bO (optN s) (aI x c v) q):=by
 obtain⟨hk,hs,ha⟩:=stepP_ok h;have hv':=stepP_valid h;rw[elsN_eq hv' u,elsN_eq hv' v,elsN_eq hk.c u,elsN_eq hk.c v];exact hs.keeps hk.k hk.c ha hv' hu hv s p q p' q'
theorem stepP_great(h:stepP x c t=(0,c'))(hu:freeT (dtx x false t.cds) (dtx x false t.anc)){s:Int}(hs1:s=1\/s=2\/s=3)(p q:Li):
  aA (bO (optN s) (aI x c' t.cds) p) (bO (optN s) (aI x c' t.anc) q)=if 0<t.lvl/\t.lvl<=s then(if t.bef=true then -1 else 1)else 0:=by
 obtain⟨hk,hs,ha⟩:=stepP_ok h;have hv':=stepP_valid h;have hkn:=hs.kn;unfold fI at hkn;have e:a_ c=c:=if_pos hk.c;rw[e]at hkn;rw[elsN_eq hv' t.cds,elsN_eq hv' t.anc];exact hs.great hk.k hk.c ha hv' hu hkn (elsN_eq hk.c t.anc) hs1 p q
end
end Tl
namespace Pa
open Go.RowKit Tl
def bt(s:ByteArray)(i:Nat):Nat:=if h:i<s.size then s[i].toNat else 0
theorem bt_lt{s:ByteArray}{i:Nat}(h:i<s.size):bt s i=s[i].toNat:=by unfold bt;rw[dif_pos h]
theorem bt_end{s:ByteArray}{i:Nat}(h:¬i<s.size):bt s i=0:=by unfold bt;rw[dif_neg h]
theorem bt_in{s:ByteArray}{i:Nat}(h:bt s i≠0):i<s.size:=Classical.byContradiction fun g=>h (bt_end g)
theorem bt_256(s:ByteArray)(i:Nat):bt s i<256:=by
 unfold bt;split
 ·exact UInt8.toNat_lt _
 decide
abbrev Rd(α:Type):=Except Nat (α×Nat)
def blkN(s:ByteArray):Nat->Nat->Nat
 |0,i=>i
 |n+1,i=>if bt s i=32\/bt s i=10 then blkN s n (i+1)else i
def skp(s:ByteArray)(i:Nat):Nat:=blkN s (s.size-i) i
theorem blk_step{s:ByteArray}{i:Nat}(h:bt s i=32\/bt s i=10):skp s i=skp s (i+1):=by
 have hi:i<s.size:=bt_in (by omega);unfold skp;rw[show s.size-i=(s.size-(i+1))+1 by omega];show(if _ then _ else _)=_
 rw[if_pos h]
theorem blk_stop{s:ByteArray}{i:Nat}(h:¬(bt s i=32\/bt s i=10)):skp s i=i:=by
 unfold skp;cases s.size-i with
 |zero=>rfl
 |succ n=>show(if _ then _ else _)=_;rw[if_neg h]
theorem blkN_le{s:ByteArray}:∀n i,i<=blkN s n i
 |0,i=>Nat.le_refl _
 |n+1,i=>by
  unfold blkN;split
  ·exact Nat.le_trans (Nat.le_succ i) (blkN_le n (i+1))
  exact Nat.le_refl _
theorem blkN_sz{s:ByteArray}:∀n i,i<=s.size->blkN s n i<=s.size
 |0,i,h=>h
 |n+1,i,h=>by
  unfold blkN;split
  ·next h1=>exact blkN_sz n (i+1) (bt_in (by omega))
  exact h
theorem blk_le(s:ByteArray)(i:Nat):i<=skp s i:=blkN_le _ _
theorem blk_sz{s:ByteArray}{i:Nat}(h:i<=s.size):skp s i<=s.size:=blkN_sz _ _ h
def wrd(s:ByteArray):List Nat->Nat->Rd Unit
 | [],i=>.ok ((),i)
 |c::r,i=>if bt s i=c then wrd s r (i+1)else .error i
def dg(b:Nat):Int:=if 48<=b/\b<=57 then(b:Int)-48 else if 65<=b/\b<=70 then(b:Int)-55 else -1
theorem dg_bd(b:Nat):-1<=dg b/\dg b<=15:=by unfold dg;split;omega;split<;>omega
theorem dg_in{s:ByteArray}{i:Nat}(h:¬dg (bt s i)<0):i<s.size:=bt_in (by intro e;rw[e]at h;exact h (by decide))
def four(s:ByteArray):Nat->Int->Nat->Rd Int
 |0,c,i=>.ok (c,i)
 |n+1,c,i=>if dg (bt s i)<0 then .error i else four s n (16*c+dg (bt s i)) (i+1)
def moreN(s:ByteArray):Nat->Int->Nat->Int×Nat
 |0,c,i=>(c,i)
 |n+1,c,i=>if 4096<=c/\0<=dg (bt s i)/\16*c+dg (bt s i)<=1114111 then moreN s n (16*c+dg (bt s i)) (i+1)else(c,i)
def more(s:ByteArray)(c:Int)(i:Nat):Int×Nat:=moreN s (s.size-i) c i
theorem more_step{s:ByteArray}{c:Int}{i:Nat}(h:4096<=c/\0<=dg (bt s i)/\16*c+dg (bt s i)<=1114111):more s c i=more s (16*c+dg (bt s i)) (i+1):=by
 have hi:i<s.size:=dg_in (by omega);unfold more;rw[show s.size-i=(s.size-(i+1))+1 by omega];show(if _ then _ else _)=_
 rw[if_pos h]
theorem more_stop{s:ByteArray}{c:Int}{i:Nat}(h:¬(4096<=c/\0<=dg (bt s i)/\16*c+dg (bt s i)<=1114111)):more s c i=(c,i):=by
 unfold more;cases s.size-i with
 |zero=>rfl
 |succ n=>show(if _ then _ else _)=_;rw[if_neg h]
def code(s:ByteArray)(i:Nat):Rd Int:=
 match four s 4 0 i with
 | .error e=>.error e
 | .ok (c,j)=>.ok (more s c j)
def litN(s:ByteArray):Nat->Li->Nat->Rd (Li)
 |0,a,i=>.ok (a,i)
 |n+1,a,i=>
  if bt s i=32 then
   match code s (i+1)with
   | .error e=>.error e
   | .ok (c,j)=>litN s n (a++[c]) j
  else .ok (a,i)
def lit(s:ByteArray)(i:Nat):Rd (Li):=
 match wrd s [40] i with
 | .error e=>.error e
 | .ok (_,i1)=>
  match code s i1 with
  | .error e=>.error e
  | .ok (c,i2)=>
   match litN s (s.size-i2) [c] i2 with
   | .error e=>.error e
   | .ok (l,i3)=>
    match wrd s [41] i3 with
    | .error e=>.error e
    | .ok (_,i4)=>.ok (l,skp s i4)
def sgnN(s:ByteArray):Nat->Int->Nat->Int×Nat
 |0,l,i=>(l,i)
 |n+1,l,i=>if bt s i=60 then sgnN s n (l+1) (i+1)else(l,i)
def sgn(s:ByteArray)(i:Nat):Rd Int:=
 if bt s i=61 then .ok (0,i+1)
 else
  match wrd s [60] i with
  | .error e=>.error e
  | .ok (_,j)=>.ok (sgnN s 2 1 j)
def stpN(s:ByteArray):Nat->Li->Bool->List Tlr->Nat->Rd (List Tlr)
 |0,_,_,l,i=>.ok (l,i)
 |n+1,a,b,l,i=>
  match sgn s i with
  | .error e=>.error e
  | .ok (k,j)=>
   match lit s (skp s j)with
   | .error e=>.error e
   | .ok (t,j2)=>if bt s j2=60\/bt s j2=61 then stpN s n t false (l++[⟨a,t,k,b⟩]) j2 else .ok (l++[⟨a,t,k,b⟩],j2)
def chn(s:ByteArray)(l:List Tlr)(i:Nat):Rd (List Tlr):=
 match wrd s [38] i with
 | .error e=>.error e
 | .ok (_,i1)=>
  match(if bt s (skp s i1)=91 then(match wrd s [91,98,101,102,111,114,101,93] (skp s i1)with | .error e=>.error e | .ok (_,j)=>.ok (true,skp s j))else .ok (false,skp s i1):Rd Bool)with
  | .error e=>.error e
  | .ok (b,i2)=>
   match lit s i2 with
   | .error e=>.error e
   | .ok (a,i3)=>stpN s (s.size+1-i3) a b l i3
def chsN(s:ByteArray):Nat->List Tlr->Nat->Rd (List Tlr)
 |0,l,i=>.ok (l,i)
 |n+1,l,i=>
  if i<s.size then
   match chn s l i with
   | .error e=>.error e
   | .ok (l',j)=>chsN s n l' j
  else .ok (l,i)
def parse(s:ByteArray):Rd (List Tlr):=chsN s (s.size-skp s 0) [] (skp s 0)
def parseF(s:ByteArray):List Tlr×Int×Int:=
 if 65536<s.size then([],2,0)
 else
  match parse s with
  | .error e=>([],3,e)
  | .ok (l,_)=>(l,0,0)
theorem wrd_ok{s:ByteArray}:∀{l:List Nat}{i j:Nat}{u:Unit},(∀c∈l,c≠0)->wrd s l i=.ok (u,j)->j=i+l.length/\(l≠[]->j<=s.size)
 | [],i,j,u,_,h=>by
  injection h with h;injection h with _ h;subst h;exact⟨rfl,fun g=>absurd rfl g⟩
 |c::r,i,j,u,hc,h=>by
  unfold wrd at h;split at h
  ·next h1=>
   have hi:i<s.size:=bt_in (by rw[h1];exact hc c (by simp));obtain⟨g1,g2⟩:=wrd_ok (fun x hx=>hc x (List.mem_cons_of_mem _ hx)) h;refine⟨by rw[g1,List.length_cons];omega,fun _=>?_⟩;cases r with
   |nil=>simp at g1;omega
   |cons d r=>exact g2 (by simp)
  cases h
theorem four_ok{s:ByteArray}:∀{n:Nat}{c d:Int}{i j:Nat},four s n c i=.ok (d,j)->j=i+n/\(0<n->j<=s.size)
 |0,c,d,i,j,h=>by
  injection h with h;injection h with _ h;subst h;exact⟨rfl,fun g=>absurd g (by omega)⟩
 |n+1,c,d,i,j,h=>by
  unfold four at h;split at h
  ·cases h
  next h1=>
  have hi:=dg_in h1;obtain⟨g1,g2⟩:=four_ok h;refine⟨by omega,fun _=>?_⟩;cases n with
  |zero=>omega
  |succ n=>exact g2 (by omega)
theorem moreN_ok{s:ByteArray}:∀{n:Nat}{c:Int}{i:Nat},i<=s.size->i<=(moreN s n c i).2/\(moreN s n c i).2<=s.size
 |0,c,i,h=>⟨Nat.le_refl _,h⟩
 |n+1,c,i,h=>by
  unfold moreN;split
  ·next h1=>
   obtain⟨g1,g2⟩:=moreN_ok (s:=s) (n:=n) (c:=16*c+dg (bt s i)) (i:=i+1) (dg_in (by omega));exact⟨by omega,g2⟩
  exact⟨Nat.le_refl _,h⟩
theorem code_ok{s:ByteArray}{c:Int}{i j:Nat}(h:code s i=.ok (c,j)):i+4<=j/\j<=s.size:=by
 unfold code at h;split at h
 ·cases h
 next c' k hf=>
 injection h with h;obtain⟨g1,g2⟩:=four_ok hf;have g3:=g2 (by omega);have g4:=moreN_ok (s:=s) (n:=s.size-k) (c:=c') g3;have e:(moreN s (s.size-k) c' k).2=j:=by
  have:more s c' k=(c,j):=h;unfold more at this;rw[this]
 omega
theorem litN_ok{s:ByteArray}:∀{n:Nat}{a l:Li}{i j:Nat},i<=s.size->litN s n a i=.ok (l,j)->i<=j/\j<=s.size
 |0,a,l,i,j,hi,h=>by
  injection h with h;injection h with _ h;omega
 |n+1,a,l,i,j,hi,h=>by
  unfold litN at h;split at h
  ·split at h
   ·cases h
   next hc=>
   have g1:=code_ok hc;have g2:=litN_ok g1.2 h;omega
  injection h with h;injection h with _ h;omega
theorem lit_ok{s:ByteArray}{l:Li}{i j:Nat}(h:lit s i=.ok (l,j)):i+6<=j/\j<=s.size:=by
 unfold lit at h;split at h
 ·cases h
 next h1=>
 split at h
 ·cases h
 next h2=>
 split at h
 ·cases h
 next h3=>
 split at h
 ·cases h
 next i4 h4=>
 injection h with h;injection h with _ h;have g1:=wrd_ok (by simp) h1;have g2:=code_ok h2;have g3:=litN_ok g2.2 h3;have g4:=wrd_ok (by simp) h4;have g5:=g4.2 (by simp);have g6:=blk_le s i4;have g7:=blk_sz g5;simp at g1 g4;omega
theorem sgnN_ok{s:ByteArray}:∀{n:Nat}{l:Int}{i:Nat},i<=s.size->i<=(sgnN s n l i).2/\(sgnN s n l i).2<=s.size
 |0,l,i,h=>⟨Nat.le_refl _,h⟩
 |n+1,l,i,h=>by
  unfold sgnN;split
  ·next h1=>
   obtain⟨g1,g2⟩:=sgnN_ok (s:=s) (n:=n) (l:=l+1) (i:=i+1) (bt_in (by omega));exact⟨by omega,g2⟩
  exact⟨Nat.le_refl _,h⟩
theorem sgn_ok{s:ByteArray}{k:Int}{i j:Nat}(h:sgn s i=.ok (k,j)):i+1<=j/\j<=s.size:=by
 unfold sgn at h;split at h
 ·next h1=>
  injection h with h;injection h with _ h;have:=bt_in (s:=s) (i:=i) (by omega);omega
 split at h
 ·cases h
 next u j1 h1=>
 injection h with h;have g1:=wrd_ok (by simp) h1;have g2:=g1.2 (by simp);have g3:=sgnN_ok (s:=s) (n:=2) (l:=1) g2;rw[h]at g3;simp at g1;dsimp only at g3;omega
theorem stpN_ok{s:ByteArray}:∀{n:Nat}{a:Li}{b:Bool}{l m:List Tlr}{i j:Nat},i<=s.size->stpN s n a b l i=.ok (m,j)->i<=j/\j<=s.size
 |0,a,b,l,m,i,j,hi,h=>by
  injection h with h;injection h with _ h;omega
 |n+1,a,b,l,m,i,j,hi,h=>by
  unfold stpN at h;split at h
  ·cases h
  next j1 h1=>
  split at h
  ·cases h
  next j2 h2=>
  have g1:=sgn_ok h1;have g2:=lit_ok h2;have g3:=blk_le s j1;split at h
  ·have g4:=stpN_ok g2.2 h
   omega
  injection h with h;injection h with _ h;omega
theorem chn_ok{s:ByteArray}{l m:List Tlr}{i j:Nat}(h:chn s l i=.ok (m,j)):i<j/\j<=s.size:=by
 unfold chn at h;split at h
 ·cases h
 next u i1 h1=>
 have g1:=wrd_ok (by simp) h1;have g2:=blk_le s i1;split at h
 ·cases h
 next b i2 h2=>
 have g3:skp s i1<=i2:=by
  split at h2
  ·split at h2
   ·cases h2
   next u j1 h3=>
   injection h2 with h2;injection h2 with _ h2;have g4:=wrd_ok (by simp) h3;have g5:=blk_le s j1;omega
  injection h2 with h2;injection h2 with _ h2;omega
 split at h
 ·cases h
 next h4=>
 have g6:=lit_ok h4;have g7:=stpN_ok g6.2 h;simp at g1;omega
end Pa
section
open Go.RowKit Tl Pa
def PsB(w:Wv)(P:Nat)(s:ByteArray)(i:Nat):Prop:=Box w P 102 [.string s,I J i]
structure aP(P:Nat)(s:ByteArray)(w:Wv)(j:Nat)(w':Wv):Prop where
 box:PsB w' P s j
 gr:w.grownBy w' (Z P)
section
variable {P i j k:Nat}{s:ByteArray}{w w' w'':Wv}
theorem PsB.here(h:PsB w P s i):aP P s w i w:=⟨h,aN _ _⟩
theorem aP.trans(h:aP P s w i w')(h2:aP P s w' j w''):aP P s w j w'':=⟨h2.box,aV h.gr h2.gr⟩
theorem aP.drew(h:aP P s w i w')(n:Nat):aP P s w i (w'.drewN n):=⟨h.box.below (eF w' n) h.box.lt,cA h.gr (eF w' n)⟩
theorem aP.go(h:aP P s w i w')(j:Nat):aP P s w j (w'.setCell ⟨P,1,N⟩ (I J j)):=⟨h.box.set 1 _,aV h.gr (bT w' ⟨P,1,N⟩ _)⟩
theorem aP.below(h:aP P s w i w')(hb:By w' w''):aP P s w i w'':=⟨h.box.below hb h.box.lt,cA h.gr hb⟩
theorem aP.c0(h:aP P s w i w'):w'.cell? ⟨P,0,N⟩=Z (.string s):=h.box.c 0 rfl
theorem aP.c1(h:aP P s w i w'):w'.cell? ⟨P,1,N⟩=Z (I J i):=h.box.c 1 rfl
theorem aP.f1(h:aP P s w i w'):w'.frozen? ⟨P,1,N⟩=false:=h.box.free 1
end
def Flt(e:Ending):Prop:=∃u pv,e=.panicked [{ v:=.iface u pv,recovered:=false }]
def RdR{α:Type}(P:Nat)(s:ByteArray)(V:α->Value->Wv->Prop)(r:Rd α)(w:Wv)(e:Ending)(w':Wv):Prop:=
 match r with
 | .ok (a,j)=>(∃v,e=.returned v/\V a v w')/\aP P s w j w'
 | .error j=>Flt e/\aP P s w j w'
theorem nL(P:Nat)(s:ByteArray)(i:Nat)(w:Wv)(hP:PsB w P s i)(hi:i<=s.size):
  Calls prog 113 #[.pointer (Z ⟨P,0,N⟩)] w fun e w'=>e=.returned (.int .u8 (bt s i))/\aP P s w i w':=by
 have HP:=G (hP.here);have c0:=hP.c 0 rfl;have c1:=hP.c 1 rfl;clear hP;by_cases h:i<s.size
 ·have hb:=G (bt_lt h)
  have he:((i:Int)==(s.size:Int))=false:=by simp;omega
  go_enter func113,ntmps113;go_wp2_with fail;go_quiet(fail);have HP2:=G (HP.out.drew nq);clear c0 c1 HP;generalize World.drewN w nq=w2 at *;have c0:=HP2.out.c0;have c1:=HP2.out.c1;go_wp2_with fail;go_quiet(fail);have HP3:=G (HP2.out.drew nq);go_wp2_with fail;go_ret;exact⟨by rw[hb.out];rfl,HP3.out⟩
 have hb:=G (bt_end h);obtain rfl:i=s.size:=by omega
 have he:((s.size:Int)==(s.size:Int))=true:=by simp
 go_enter func113,ntmps113;go_wp2_with fail;go_quiet(fail);have HP2:=G (HP.out.drew nq);go_wp2_with fail;go_ret;exact⟨by rw[hb.out];rfl,HP2.out⟩
theorem vO(P:Nat)(s:ByteArray)(i:Nat)(w:Wv)(hP:PsB w P s i):
  Calls prog 161 #[.pointer (Z ⟨P,0,N⟩)] w fun e w'=>Flt e/\w=w':=by
 have c1:=hP.c 1 rfl;unfold Flt;go_enter func161,ntmps161;go_wp2_with fail;exact⟨rfl,⟨_,_,rfl⟩,rfl⟩
def fY(P:Nat)(w:Wv):Nat:=match w.cell? ⟨P,1,N⟩with|some (.int _ i)=>i.toNat|_=>0
theorem aP.at{P j:Nat}{s:ByteArray}{w w':Wv}(h:aP P s w j w'):fY P w'=j:=by
 unfold fY;rw[h.c1];rfl
theorem vE(b:Nat)(hb:b<256)(w:Wv):
  Calls prog 189 #[.int .u8 b] w fun e w'=>e=.returned (I J (dg b))/\w=w':=by
 by_cases h1:48<=b
 ·by_cases h2:b<=57
  ·have hd:=U (dg b=(b:Int)-48) (if_pos ⟨h1,h2⟩)
   have d1:decide ((48:Int)<=(b:Int))=true:=by simp;omega
   have d2:decide ((b:Int)<=57)=true:=by simp;omega
   have b1:(48:Int)<=b:=by omega
   have b2:(b:Int)<=57:=by omega
   go_enter func189,ntmps189;go_wp2_with fail;go_ret;exact⟨by rw[hd.out];rfl,rfl⟩
  by_cases h3:65<=b
  ·by_cases h4:b<=70
   ·have hd:=U (dg b=(b:Int)-55) (by unfold dg;rw[if_neg (by omega),if_pos ⟨h3,h4⟩])
    have d1:decide ((48:Int)<=(b:Int))=true:=by simp;omega
    have d2:decide ((b:Int)<=57)=false:=by simp;omega
    have d3:decide ((65:Int)<=(b:Int))=true:=by simp;omega
    have d4:decide ((b:Int)<=70)=true:=by simp;omega
    have b1:(65:Int)<=b:=by omega
    have b2:(b:Int)<=70:=by omega
    go_enter func189,ntmps189;go_wp2_with fail;go_ret;exact⟨by rw[hd.out,show(b:Int)-55=(b:Int)-65+10 by omega];rfl,rfl⟩
   have hd:=U (dg b=-1) (by unfold dg;rw[if_neg (by omega),if_neg (by omega)]);have d1:decide ((48:Int)<=(b:Int))=true:=by simp;omega
   have d2:decide ((b:Int)<=57)=false:=by simp;omega
   have d3:decide ((65:Int)<=(b:Int))=true:=by simp;omega
   have d4:decide ((b:Int)<=70)=false:=by simp;omega
   go_enter func189,ntmps189;go_wp2_with fail;go_ret;exact⟨by rw[hd.out];rfl,rfl⟩
  have hd:=U (dg b=-1) (by unfold dg;rw[if_neg (by omega),if_neg (by omega)]);have d1:decide ((48:Int)<=(b:Int))=true:=by simp;omega
  have d2:decide ((b:Int)<=57)=false:=by simp;omega
  have d3:decide ((65:Int)<=(b:Int))=false:=by simp;omega
  go_enter func189,ntmps189;go_wp2_with fail;go_ret;exact⟨by rw[hd.out];rfl,rfl⟩
 have hd:=U (dg b=-1) (by unfold dg;rw[if_neg (by omega),if_neg (by omega)]);have d1:decide ((48:Int)<=(b:Int))=false:=by simp;omega
 have d3:decide ((65:Int)<=(b:Int))=false:=by simp;omega
 go_enter func189,ntmps189;go_wp2_with fail;go_ret;exact⟨by rw[hd.out];rfl,rfl⟩
theorem qN(P:Nat)(s:ByteArray)(i:Nat)(w:Wv)(hP:PsB w P s i)(hi:i<=s.size)(hs:s.size<=9223372036854775806):
  Calls prog 58 #[.pointer (Z ⟨P,0,N⟩)] w fun e w'=>e=.returned (.tuple #[])/\aP P s w (skp s i) w':=by
 have HP:=G (hP.here);have KN:=G (fun j(W:Wv)(h:aP P s w j W)(hj:j<=s.size)=>nL P s j W h.box hj);clear hP;go_enter func58,ntmps58;go_wp2_with fail;go_loopw [] (fun wr=>∃k:Nat,k<=s.size/\Hid (skp s k=skp s i)/\aP P s w k wr) (fun wr=>s.size-fY P wr)
 case atStart=>exact⟨i,hi,G rfl,HP.out⟩
 obtain⟨k,hk,hb,hp⟩:=hrel;have HR:=G hp;clear hp HP;have KN1:=G (KN.out k _ HR.out hk);by_cases h1:bt s k=32
 ·have d1:((bt s k:Int)==32)=true:=by simp;omega
  have hin:=bt_in (s:=s) (i:=k) (by omega);have hst:=G (blk_step (s:=s) (i:=k) (.inl h1));clear h1;generalize bt s k=b at *;go_wp2_with fail;with_reducible refine KN1.out.mono ?_
  rintro e W1 ⟨rfl,hp1⟩;have HR1:=G (HR.out.trans hp1);have c1:=HR1.out.c1;have f1:=HR1.out.f1;clear hp1 KN1 KN;go_wp2_with fail;go_roundw
  case rel=>exact⟨k+1,hin,G (hst.out.symm.trans hb.out),HR1.out.go (k+1)⟩
  have e1:=(HR1.out.go (k+1)).at;have e2:=HR.out.at;have e1':fY P (W1.setCell ⟨P,1,N⟩ (I J ((k:Int)+1)))=k+1:=e1;rw[e1',e2];omega
 have d1:((bt s k:Int)==32)=false:=by simp;omega
 by_cases h2:bt s k=10
 ·have d2:((bt s k:Int)==10)=true:=by simp;omega
  have hin:=bt_in (s:=s) (i:=k) (by omega);have hst:=G (blk_step (s:=s) (i:=k) (.inr h2));have KN2:=G (fun(W1:Wv) (hp1:aP P s w k W1)=>KN.out k W1 hp1 hk);clear h1 h2;generalize bt s k=b at *;go_wp2_with fail;with_reducible refine KN1.out.mono ?_
  rintro e W1 ⟨rfl,hp1⟩;have HR1:=G (HR.out.trans hp1);have KN3:=G (KN2.out W1 HR1.out);clear hp1 KN1 KN KN2;go_wp2_with fail;with_reducible refine KN3.out.mono ?_
  rintro e W2 ⟨rfl,hp2⟩;have HR2:=G (HR1.out.trans hp2);have c1:=HR2.out.c1;have f1:=HR2.out.f1;clear hp2 KN3;go_wp2_with fail;go_roundw
  case rel=>exact⟨k+1,hin,G (hst.out.symm.trans hb.out),HR2.out.go (k+1)⟩
  have e1:=(HR2.out.go (k+1)).at;have e2:=HR.out.at;have e1':fY P (W2.setCell ⟨P,1,N⟩ (I J ((k:Int)+1)))=k+1:=e1;rw[e1',e2];omega
 have d2:((bt s k:Int)==10)=false:=by simp;omega
 have hst:=G (blk_stop (s:=s) (i:=k) (by omega));have KN2:=G (fun(W1:Wv) (hp1:aP P s w k W1)=>KN.out k W1 hp1 hk);clear h1 h2;generalize bt s k=b at *;go_wp2_with fail;with_reducible refine KN1.out.mono ?_
 rintro e W1 ⟨rfl,hp1⟩;have HR1:=G (HR.out.trans hp1);have KN3:=G (KN2.out W1 HR1.out);clear hp1 KN1 KN KN2;go_wp2_with fail;with_reducible refine KN3.out.mono ?_
 rintro e W2 ⟨rfl,hp2⟩;have HR2:=G (HR1.out.trans hp2);have hfin:k=skp s i:=hst.out.symm.trans hb.out;clear hp2 KN3;go_wp2_with fail;go_end0;exact⟨rfl,by rw[<-hfin];exact HR2.out⟩
structure Wrd(t:ByteArray)(l:List Nat):Prop where
 sz:t.size=l.length
 at_:∀k,(h:k<t.size)->(h2:k<l.length)->t[k].toNat=l[k]
 nz:∀c∈l,c≠0
def noV(_:Unit)(v:Value)(_:Wv):Prop:=v=.tuple #[]
theorem mY(P:Nat)(s t:ByteArray)(l:List Nat)(i:Nat)(w:Wv)(hP:PsB w P s i)(hi:i<=s.size)(hs:s.size<=9223372036854775806)(ht:Wrd t l)(hl:l.length<=100):
  Calls prog 114 #[.pointer (Z ⟨P,0,N⟩),.string t] w (RdR P s noV (wrd s l i) w):=by
 have HP:=G (hP.here);have HT:=G ht;have hsz:=ht.sz;obtain⟨n,hn⟩:∃n,t.size=n:=⟨_,rfl⟩;have hnl:l.length=n:=by omega
 have HNL:=G hnl;have HN:=G hn;have hn100:n<=100:=by omega
 have KF:=G (fun j(W:Wv)(h:aP P s w j W)=>vO P s j W h.box);obtain⟨r,hr⟩:∃r,wrd s l i=r:=⟨_,rfl⟩;have HR0:=G hr;rw[hr];clear hP ht hsz hnl hn hr hl;go_enter func114,ntmps114;have hlen:(t.size:Int)=(n:Int):=by rw[HN.out]
 go_wp2_with fail;have HLEN:=G hlen;clear hlen;go_loopw [7] (fun u wr=>∃k:Nat,k<=n/\i+k<=s.size/\u=I J k/\Hid (wrd s (l.drop k) (i+k)=r)/\aP P s w (i+k) wr) (fun u _=>n-(intOf u).toNat)
 case atStart=>exact⟨0,Nat.zero_le _,hi,rfl,G (by rw[List.drop_zero];exact HR0.out),HP.out⟩
 obtain⟨k,hk,hik,rfl,hb,hp⟩:=hrel;have HR:=G hp;have c0:=hp.c0;have c1:=hp.c1;clear hp HP;by_cases hlt:k<n
 ·have hkl:k<l.length:=by rw[HNL.out];exact hlt
  have hkt:k<t.size:=by rw[HN.out];exact hlt
  have hte:=G (HT.out.at_ k hkt hkl);have hnz:=HT.out.nz _ (List.getElem_mem hkl);have hst:wrd s (l.drop k) (i+k)=if bt s (i+k)=l[k]then wrd s (l.drop (k+1)) (i+k+1)else .error (i+k):=by
   rw[List.drop_eq_getElem_cons hkl];rfl
  have HST:=G hst;clear hst;have HI:=U (∀p,i+k=p->i+(k+1)=p+1) (fun p e=>by omega);obtain⟨p,hpk⟩:∃p,i+k=p:=⟨_,rfl⟩;have HPK:=G (HI.out p hpk);rw[hpk]at hik hb HR c1 HST;clear hpk HI;by_cases hend:p<s.size
  ·have he:((p:Int)==(s.size:Int))=false:=by simp;omega
   have hbt:=G (bt_lt hend);by_cases heq:bt s p=l[k]
   ·have hst2:=U (wrd s (l.drop (k+1)) (p+1)=r) (by rw[<-hb.out,HST.out,if_pos heq])
    have hd:((s[p].toNat:Int)!=(t[k].toNat:Int))=false:=by rw[hte.out,<-heq,hbt.out];simp
    clear heq hnz;go_wp2_with fail;go_quiet(fail);have HR1:=G (HR.out.drew nq);clear c0 c1;generalize World.drewN wr nq=w2 at *;have c1:=HR1.out.c1;have f1:=HR1.out.f1;go_wp2_with fail;go_roundw
    case rel=>exact⟨k+1,by omega,by rw[HPK.out];omega,by go_num,by rw[HPK.out];exact hst2,by rw[HPK.out];exact HR1.out.go (p+1)⟩
    simp[intOf];omega
   have hst2:=U (r=.error p) (by rw[<-hb.out,HST.out,if_neg heq]);have hd:((s[p].toNat:Int)!=(t[k].toNat:Int))=true:=by rw[hte.out,<-hbt.out];simp;omega
   clear heq hnz;go_wp2_with fail;go_quiet(fail);have HR1:=G (HR.out.drew nq);clear c0 c1;generalize World.drewN wr nq=w2 at *;go_wp2_with fail;with_reducible refine(KF.out p w2 HR1.out).mono ?_
   rintro e W1 ⟨⟨u,pv,rfl⟩,rfl⟩;go_wp2_with fail;rw[hst2.out];exact⟨rfl,⟨_,_,rfl⟩,HR1.out⟩
  obtain rfl:p=s.size:=by omega
  have he:((s.size:Int)==(s.size:Int))=true:=by simp
  have hst2:=U (r=.error s.size) (by rw[<-hb.out,HST.out,if_neg (by rw[bt_end (by omega)];exact fun q=>hnz q.symm)]);clear hnz hend;go_wp2_with fail;go_quiet(fail);have HR1:=G (HR.out.drew nq);clear c0 c1;generalize World.drewN wr nq=w2 at *;go_wp2_with fail;with_reducible refine(KF.out s.size w2 HR1.out).mono ?_
  rintro e W1 ⟨⟨u,pv,rfl⟩,rfl⟩;go_wp2_with fail;rw[hst2.out];exact⟨rfl,⟨_,_,rfl⟩,HR1.out⟩
 obtain rfl:k=n:=by omega
 have hfin:=hb.out;rw[List.drop_of_length_le (by rw[HNL.out];exact Nat.le_refl _)]at hfin;have hfin':=U (r=.ok ((),i+k)) hfin.symm;clear hb hfin HR0;go_wp2_with fail;go_end0;rw[hfin'.out];exact⟨⟨_,rfl,rfl⟩,HR.out⟩
end
end Go.Proofs.YtkhmjidaeliccaaGreatDoor
