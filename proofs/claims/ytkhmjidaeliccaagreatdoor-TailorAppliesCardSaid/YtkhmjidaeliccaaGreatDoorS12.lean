import Derived.Test.YtkhmjidaeliccaaGreatDoorS11
import Derived.Laws.CopyOwn
set_option maxRecDepth 100000
set_option maxHeartbeats 51200000
namespace Go.Proofs.YtkhmjidaeliccaaGreatDoor
open Option renaming none->N,some->Z
open Value renaming int->I,slice->H
open IntKind renaming i64->J
open Go.Proofs.Tryz
namespace Srt
def Stp{α:Type}(key:α->Int):List α->List (Nat×Nat)->List α->Prop
 |d,[],d'=>d'=d
 |d,r::rs,d'=>∃d1,Done key d d1 r.1 r.2/\Stp key d1 rs d'
theorem Stp.snoc{α:Type}{key:α->Int}{d d1 d2:List α}{rs:List (Nat×Nat)}{r:Nat×Nat}(h:Stp key d rs d1)(hd:Done key d1 d2 r.1 r.2):Stp key d (rs++[r]) d2:=by
 induction rs generalizing d with
 |nil=>cases h;exact⟨d2,hd,rfl⟩
 |cons a rs ih=>obtain⟨x,b,c⟩:=h;exact⟨x,b,ih c⟩
theorem Stp.len{α:Type}{key:α->Int}{d d1:List α}{rs:List (Nat×Nat)}(h:Stp key d rs d1):d1.length=d.length:=by
 induction rs generalizing d with
 |nil=>cases h;rfl
 |cons a rs ih=>obtain⟨x,b,c⟩:=h;exact(ih c).trans b.1.1
theorem Done.lift{α:Type}{key:α->Int}{p s s' q:List α}(h:Done key s s' 0 s.length):Done key (p++s++q) (p++s'++q) p.length (p.length+s.length):=by
 obtain⟨⟨hl,hs⟩,ht,ho⟩:=h;refine⟨⟨by simp[hl],λt ht=>?_⟩,St.append (St.append (St.refl _) ht) (St.refl _),λi j h1 h2 h3=>?_⟩
 ·simp only[List.getElem?_append,List.length_append,hl]
  by_cases c1:t<p.length
  ·rw[if_pos O,if_pos c1,if_pos O,if_pos c1]
  rw[if_neg O,if_neg O]
 have e:∀t,p.length<=t->t<p.length+s.length->kf key (p++s'++q) t=kf key s' (t-p.length):=by
  intro t a b;unfold kf;rw[List.append_assoc,List.getElem?_append_right a,List.getElem?_append_left O]
 rw[e i h1 O,e j O h3];exact ho _ _ O O O
end Srt
namespace Can
section
variable (cl:Int->Int)
def F(k:Int)(l:Li):Li:=l.filter λx=>cl x==k||cl x==0
def Inv(a b:Li):Prop:=∀k,F cl k a=F cl k b
def Ok:Li->Prop
 | []=>True
 | [_]=>True
 |x::y::r=>(cl y≠0->cl x<=cl y)/\Ok (y::r)
def insF(c:Int):Li->Li
 | []=>[c]
 |y::r=>if cl y≠0/\cl y<cl c then y::insF c r else c::y::r
def srt:Li->Li
 | []=>[]
 |c::r=>insF cl c (srt r)
def Z(l:Li):List (Option Int):=l.map λx=>if cl x=0 then some x else N
end
section
variable {cl:Int->Int}
theorem F_append(k:Int)(a b:Li):F cl k (a++b)=F cl k a++F cl k b:=by simp[F]
theorem F_cons(k x:Int)(l:Li):F cl k (x::l)=if cl x=k\/cl x=0 then x::F cl k l else F cl k l:=by
 by_cases h:cl x=k\/cl x=0
 ·rw[if_pos h];exact List.filter_cons_of_pos (by simpa using h)
 rw[if_neg h];exact List.filter_cons_of_neg (by simpa using h)
theorem Inv.refl(a:Li):Inv cl a a:=λ_=>rfl
theorem Inv.symm{a b:Li}(h:Inv cl a b):Inv cl b a:=λk=>(h k).symm
theorem Inv.trans{a b c:Li}(h:Inv cl a b)(g:Inv cl b c):Inv cl a c:=λk=>(h k).trans (g k)
theorem Inv.append{a b c d:Li}(h:Inv cl a b)(g:Inv cl c d):Inv cl (a++c) (b++d):=λk=>by rw[F_append,F_append,h k,g k]
theorem Inv.cons(x:Int){a b:Li}(h:Inv cl a b):Inv cl (x::a) (x::b):=λk=>by rw[F_cons,F_cons,h k]
theorem Inv.swap{x y:Int}(l:Li)(hx:cl x≠0)(hy:cl y≠0)(hne:cl x≠cl y):Inv cl (x::y::l) (y::x::l):=λk=>by
 simp only[F_cons];by_cases h1:cl x=k
 ·rw[if_pos (c:=cl x=k\/cl x=0) (.inl h1),if_pos (c:=cl x=k\/cl x=0) (.inl h1),if_neg O,if_neg O]
 rw[if_neg (c:=cl x=k\/cl x=0) O,if_neg (c:=cl x=k\/cl x=0) O]
theorem Ok.tail{x:Int}{l:Li}(h:Ok cl (x::l)):Ok cl l:=by
 cases l with
 |nil=>trivial
 |cons y r=>exact h.2
theorem Ok.first{k:Int}{l:Li}{x:Int}{r:Li}(h:Ok cl l)(hk:cl x≠0)(e:F cl k l=x::r)(y:Int)(t:Li)(hl:l=y::t):cl y<=cl x:=by
 induction l generalizing y t with
 |nil=>cases hl
 |cons z l ih=>
  obtain⟨rfl,rfl⟩:z=y/\l=t:=by simpa using hl
  rw[F_cons]at e;split at e
  ·injection e with e1 _;rw[e1];exact Int.le_refl _
  cases l with
  |nil=>simp[F]at e
  |cons u v=>
   have a:=ih h.tail e u v rfl;by_cases hu:cl u=0
   ·rw[F_cons,if_pos (.inr hu)]at e
    injection e with e1 _;rw[e1]at hu;exact absurd hu hk
   have:=h.1 hu;omega
theorem canon_unique:∀{a b:Li},Inv cl a b->Ok cl a->Ok cl b->a=b
 | [],[],_,_,_=>rfl
 | [],y::b,h,_,_=>by have:=h (cl y);rw[F_cons,if_pos (.inl rfl)]at this;cases this
 |x::a,[],h,_,_=>by have:=h (cl x);rw[F_cons,if_pos (.inl rfl)]at this;cases this
 |x::a,y::b,h,ha,hb=>by
  have d:x=y:=by
   by_cases hx:cl x=0
   ·have e:=h (cl y)
    rw[F_cons,if_pos (.inr hx),F_cons,if_pos (.inl rfl)]at e;injection e
   by_cases hy:cl y=0
   ·have e:=h (cl x)
    rw[F_cons,if_pos (.inl rfl),F_cons,if_pos (.inr hy)]at e;injection e
   have c:=h (cl x);rw[F_cons,if_pos (.inl rfl)]at c;have i:=hb.first hx c.symm y b rfl
   have f:=h (cl y);rw[F_cons (l:=b),if_pos (.inl rfl)]at f;have j:=ha.first hy f x a rfl
   have g:cl x=cl y:=O;rw[F_cons,if_pos (.inl g.symm)]at c;injection c
  subst d
  have:=canon_unique (a:=a) (b:=b) (λk=>by
   have e:=h k
   rw[F_cons,F_cons]at e
   split at e
   ·injection e
   ·exact e) ha.tail hb.tail
  rw[this]
theorem insF_inv(hcl:∀x,0<=cl x)(c:Int)(l:Li):Inv cl (c::l) (insF cl c l):=by
 induction l with
 |nil=>exact Inv.refl _
 |cons y r ih=>
  unfold insF;split
  ·rename_i h
   exact(Inv.swap r (by have:=hcl y;omega) h.1 O).trans (ih.cons y)
  exact Inv.refl _
theorem insF_head(c:Int)(l:Li):∃y r,insF cl c l=y::r/\(y=c\/∃t,l=y::t):=by
 cases l with
 |nil=>exact⟨c,[],rfl,.inl rfl⟩
 |cons y r=>
  unfold insF;split
  ·exact⟨y,_,rfl,.inr ⟨r,rfl⟩⟩
  exact⟨c,_,rfl,.inl rfl⟩
theorem insF_ok(c:Int)(l:Li)(h:Ok cl l):Ok cl (insF cl c l):=by
 induction l with
 |nil=>trivial
 |cons y r ih=>
  unfold insF;split
  ·rename_i hc
   obtain⟨z,t,hz,a⟩:=insF_head (cl:=cl) c r;have:=ih h.tail;rw[hz]at this|-;refine⟨λhne=>?_,this⟩;rcases a with rfl|⟨b,rfl⟩
   ·omega
   exact h.1 hne
  rename_i hc;exact⟨λhne=>by by_cases g:cl y<cl c;exact absurd ⟨hne,g⟩ hc;omega,h⟩
theorem insF_perm(c:Int)(l:Li):(insF cl c l).Perm (c::l):=by
 induction l with
 |nil=>exact .refl _
 |cons y r ih=>
  unfold insF;split
  ·exact(ih.cons y).trans (.swap c y r)
  exact .refl _
theorem srt_inv(hcl:∀x,0<=cl x)(l:Li):Inv cl l (srt cl l):=by
 induction l with
 |nil=>exact Inv.refl _
 |cons c r ih=>exact(ih.cons c).trans (insF_inv hcl c _)
theorem srt_ok(l:Li):Ok cl (srt cl l):=by
 induction l with
 |nil=>trivial
 |cons c r ih=>exact insF_ok c _ ih
theorem srt_perm(l:Li):(srt cl l).Perm l:=by
 induction l with
 |nil=>exact .refl _
 |cons c r ih=>exact(insF_perm c _).trans (ih.cons c)
theorem srt_len(l:Li):(srt cl l).length=l.length:=(srt_perm l).length_eq
theorem srt_eq(hcl:∀x,0<=cl x){l d:Li}(h:Inv cl l d)(ho:Ok cl d):d=srt cl l:=canon_unique (h.symm.trans (srt_inv hcl l)) ho (srt_ok l)
theorem srt_of_inv(hcl:∀x,0<=cl x){a b:Li}(h:Inv cl a b):srt cl a=srt cl b:=srt_eq hcl (h.symm.trans (srt_inv hcl a)) (srt_ok a)
theorem inv_of_srt(hcl:∀x,0<=cl x){a b:Li}(h:srt cl a=srt cl b):Inv cl a b:=(srt_inv hcl a).trans (by rw[h];exact(srt_inv hcl b).symm)
theorem Ok.append{a b:Li}(ha:Ok cl a)(hb:Ok cl b)(h:∀y t,b=y::t->cl y=0):Ok cl (a++b):=by
 induction a with
 |nil=>exact hb
 |cons x a ih=>
  cases a with
  |nil=>
   cases b with
   |nil=>trivial
   |cons y t=>exact⟨λhne=>absurd (h y t rfl) hne,hb⟩
  |cons x' a'=>exact⟨ha.1,ih ha.2⟩
theorem exchange(hcl:∀x,0<=cl x)(p q:Li)(x y:Int):srt cl (p++x::y::q)=srt cl (p++y::x::q) ↔ (cl x≠0/\cl y≠0/\cl x≠cl y)\/x=y:=by
 constructor
 ·intro h
  by_cases hxy:x=y
  ·exact .inr hxy
  refine .inl ?_;have hi:=inv_of_srt hcl h;have a:∀k,(cl x=k\/cl x=0)->(cl y=k\/cl y=0)->False:=by
   intro k b c;have e:=hi k;rw[F_append,F_append,F_cons,F_cons,F_cons,F_cons]at e;simp only[if_pos b,if_pos c]at e;have d:=List.append_cancel_left e;simp only[List.cons.injEq]at d;exact hxy d.1
  exact⟨λh0=>a (cl y) (.inr h0) (.inl rfl),λh0=>a (cl x) (.inl rfl) (.inr h0),λh0=>a (cl x) (.inl rfl) (.inl h0.symm)⟩
 rintro(⟨b,c,f⟩|rfl)
 ·exact srt_of_inv hcl ((Inv.refl p).append (Inv.swap q b c f))
 rfl
end
section
open Srt
variable {cl:Int->Int}
theorem inv_of_st{s s':Li}(h:St cl s s')(hz:∀x∈s,cl x≠0):Inv cl s s':=by
 have b:s'.filter (λx=>cl x==0)=[]:=by
  rw[h 0];exact List.filter_eq_nil_iff.2 λx hx=>by simpa using hz x hx
 have a:∀x∈s',cl x≠0:=λx hx e=>by
  have:x∈s'.filter (λx=>cl x==0):=List.mem_filter.2 ⟨hx,by simpa using e⟩;rw[b]at this;cases this
 intro k
 have e:∀l:Li,(∀x∈l,cl x≠0)->F cl k l=l.filter (λx=>cl x==k):=λl hl=>by
  unfold F;refine List.filter_congr λx hx=>?_
  have:=hl x hx;simp[this]
 rw[e s hz,e s' a,h k]
theorem ok_of_sorted{s:Li}(h:SortedOn cl s 0 s.length):Ok cl s:=by
 induction s with
 |nil=>trivial
 |cons x s ih=>
  have ht:SortedOn cl s 0 s.length:=λi j _ h2 h3=>by
   have:=h (i+1) (j+1) O O (by simpa using h3);simpa[kf]using this
  cases s with
  |nil=>trivial
  |cons y r=>
   refine⟨λ_=>?_,ih ht⟩;have:=h 0 1 O O L;simpa[kf]using this
theorem done_cut{p o q d:Li}{s i:Nat}(hs:p.length=s)(hi:s+o.length=i)(h:Done cl (p++o++q) d s i):
  ∃o',d=p++o'++q/\o'.length=o.length/\St cl o o'/\SortedOn cl o' 0 o'.length:=by
 obtain⟨⟨hl,c⟩,j,g⟩:=h;refine⟨(d.drop s).take o.length,?_,?_,?_,?_⟩
 case _=>
  apply List.ext_getElem?;intro t;have f:((d.drop s).take o.length).length=o.length:=by simp at hl|-;omega
  by_cases c1:t<s
  ·rw[c t (.inl c1),List.append_assoc,List.append_assoc,List.getElem?_append_left O,List.getElem?_append_left O]
  by_cases c2:t<i
  ·rw[List.append_assoc,List.getElem?_append_right O,List.getElem?_append_left O,List.getElem?_take,if_pos O,List.getElem?_drop]
   congr 1;omega
  rw[c t (.inr O),List.append_assoc,List.append_assoc,List.getElem?_append_right O,List.getElem?_append_right O,List.getElem?_append_right O,List.getElem?_append_right O,f]
 case _=>simp at hl|-;omega
 all_goals
  have hd:d=p++(d.drop s).take o.length++q:=by
   apply List.ext_getElem?;intro t;have f:((d.drop s).take o.length).length=o.length:=by simp at hl|-;omega
   by_cases c1:t<s
   ·rw[c t (.inl c1),List.append_assoc,List.append_assoc,List.getElem?_append_left O,List.getElem?_append_left O]
   by_cases c2:t<i
   ·rw[List.append_assoc,List.getElem?_append_right O,List.getElem?_append_left O,List.getElem?_take,if_pos O,List.getElem?_drop]
    congr 1;omega
   rw[c t (.inr O),List.append_assoc,List.append_assoc,List.getElem?_append_right O,List.getElem?_append_right O,List.getElem?_append_right O,List.getElem?_append_right O,f]
  have f:((d.drop s).take o.length).length=o.length:=by simp at hl|-;omega
  generalize (d.drop s).take o.length=o' at *;subst hd
 ·intro k
  have:=j k;simp only[List.filter_append,List.append_assoc]at this;have:=List.append_cancel_left this;exact List.append_cancel_right this
 intro a b m n l;have e:∀t,t<o'.length->kf cl (p++o'++q) (s+t)=kf cl o' t:=by
  intro t ht;unfold kf;rw[List.append_assoc,List.getElem?_append_right O,List.getElem?_append_left O,show s+t-p.length=t by omega]
 rw[<-e a O,<-e b l];exact g _ _ O O O
theorem stp_canon(hcl:∀x,0<=cl x)(rest:Li):
  (∀(p d:Li),Stp cl (p++rest) (rns cl rest p.length N) d->∃d1,d=p++d1/\Inv cl rest d1/\Ok cl d1)/\
  (∀(p o d:Li),(∀x∈o,cl x≠0)->Stp cl (p++o++rest) (rns cl rest (p.length+o.length) (some p.length)) d->∃d1,d=p++d1/\Inv cl (o++rest) d1/\Ok cl d1):=by
 induction rest with
 |nil=>
  refine⟨λp d h=>?_,λp o d ho h=>?_⟩
  ·cases h;exact⟨[],rfl,Inv.refl _,trivial⟩
  obtain⟨d1,hd,rfl⟩:=h;obtain⟨f,rfl,a,b,g⟩:=done_cut rfl rfl hd;exact⟨f,L,by rw[List.append_nil];exact inv_of_st b ho,ok_of_sorted g⟩
 |cons c r ih=>
  refine⟨λp d h=>?_,λp o d ho h=>?_⟩
  ·unfold rns at h
   by_cases hc:cl c=0
   ·rw[if_pos hc]at h
    obtain⟨d1,rfl,a,b⟩:=ih.1 (p++[c]) d (by simpa using h);refine⟨c::d1,L,a.cons c,?_⟩;cases d1 with
    |nil=>trivial
    |cons y t=>exact⟨λ_=>by have:=hcl y;omega,‹_›⟩
   rw[if_neg hc]at h;obtain⟨d1,rfl,a,b⟩:=ih.2 p [c] d (by simpa using hc) (by simpa using h);exact⟨d1,rfl,by simpa using a,b⟩
  unfold rns at h;by_cases hc:cl c=0
  ·rw[if_pos hc]at h
   obtain⟨d1,hd,h⟩:=h;obtain⟨f,rfl,a,b,g⟩:=done_cut rfl rfl hd;obtain⟨i,rfl,j,k⟩:=ih.1 (p++f++[c]) d (by simpa[a,Nat.add_assoc]using h);refine⟨f++c::i,L,(inv_of_st b ho).append (j.cons c),(ok_of_sorted g).append ?_ (λy t e=>by injection e with e1 _;rw[<-e1];exact hc)⟩;cases i with
   |nil=>trivial
   |cons y t=>exact⟨λ_=>by have:=hcl y;omega,‹_›⟩
  rw[if_neg hc]at h;obtain⟨d1,rfl,a,b⟩:=ih.2 p (o++[c]) d (by simpa[or_imp,forall_and]using⟨ho,hc⟩) (by simpa[Nat.add_assoc]using h);exact⟨d1,rfl,by simpa using a,b⟩
theorem stp_srt(hcl:∀x,0<=cl x){text d:Li}(h:Stp cl text (rns cl text 0 N) d):d=srt cl text:=by
 obtain⟨c,rfl,a,b⟩:=(stp_canon hcl text).1 [] d h;exact srt_eq hcl a b
end
end Can
namespace Can
section
variable {cl:Int->Int}
theorem inv_back(c:Int)(q:Li)(hc:0<cl c)(h:∀y∈q,cl c<cl y):Inv cl (q++[c]) (c::q):=by
 induction q with
 |nil=>exact Inv.refl _
 |cons y r ih=>
  have hy:=h y (List.mem_cons_self ..);exact((ih λz hz=>h z (List.mem_cons_of_mem _ hz)).cons y).trans (Inv.swap r O O O)
theorem ok_ins(c:Int)(p q:Li)(h:Ok cl (p++q))(hq:∀y∈q,cl c<cl y)(hp:cl c=0\/∀x,p.getLast?=some x->cl x<=cl c):Ok cl (p++c::q):=by
 have base:∀q:Li,Ok cl q->(∀y∈q,cl c<cl y)->Ok cl (c::q):=by
  intro q a b;cases q with
  |nil=>trivial
  |cons y r=>exact⟨λ_=>by have:=b y (List.mem_cons_self ..);omega,a⟩
 induction p with
 |nil=>exact base q h hq
 |cons x p ih=>
  cases p with
  |nil=>
   refine⟨λhne=>?_,base q h.tail hq⟩;rcases hp with hp|hp
   ·exact absurd hp hne
   exact hp x rfl
  |cons x' p'=>exact⟨h.1,ih h.2 (by rcases hp with hp|hp;exact .inl hp;exact .inr λz hz=>hp z (by simpa[List.getLast?_cons_cons]using hz))⟩
theorem srt_snoc(hcl:∀x,0<=cl x){l p q:Li}{c:Int}(h:srt cl l=p++q)(hq:q=[]\/0<cl c)(hq2:∀y∈q,cl c<cl y)(hp:cl c=0\/∀x,p.getLast?=some x->cl x<=cl c):p++c::q=srt cl (l++[c]):=by
 refine srt_eq hcl ?_ (ok_ins c p q (by rw[<-h];exact srt_ok l) hq2 hp);have a:Inv cl (l++[c]) ((p++q)++[c]):=(show Inv cl l (p++q) by rw[<-h];exact srt_inv hcl l).append (Inv.refl [c]);refine a.trans ?_;rw[List.append_assoc];refine(Inv.refl p).append ?_;rcases hq with rfl|hq
 ·exact Inv.refl _
 exact inv_back c q hq hq2
end
end Can
section
end
namespace Cps
open Go.Proofs.YtkhmjidaeliccaaGreatDoor
structure CSt where
 pre:Li
 st:Option Int
 bt:Li
def CSt.o(s:CSt):Li:=s.pre++(s.st.toList++s.bt)
def s0:CSt:=⟨[],N,[]⟩
section
variable (cl:Int->Int)(pr:Int->Int->Option Int)
def free(s:CSt)(c:Int):Bool:=match s.bt.getLast? with|none=>true|some b=>decide (cl b<cl c)
def put(s:CSt)(c:Int):CSt:=if cl c=0 then⟨s.o,Z c,[]⟩else⟨s.pre,s.st,s.bt++[c]⟩
def join(s:CSt)(c:Int):Option Int:=match s.st with|some L=>if free cl s c=true then pr L c else N|none=>N
def step(s:CSt)(c:Int):CSt:=match join cl pr s c with|some p=>⟨s.pre,Z p,s.bt⟩|none=>put cl s c
def run(s:CSt)(t:Li):CSt:=t.foldl (step cl pr) s
def text(t:Li):Li:=(run cl pr s0 t).o
end
section
variable {cl:Int->Int}{pr:Int->Int->Option Int}
theorem put_out(s:CSt)(c:Int):(put cl s c).o=s.o++[c]:=by
 unfold put;split<;>simp[CSt.o]
theorem join_some{s:CSt}{c p:Int}(h:join cl pr s c=Z p):∃L,s.st=Z L/\free cl s c=true/\pr L c=Z p:=by
 unfold join at h;split at h
 ·next L hL=>
  split at h
  ·next hf=>exact⟨L,hL,hf,h⟩
  cases h
 cases h
theorem step_some{s:CSt}{c p:Int}(h:join cl pr s c=Z p):step cl pr s c=⟨s.pre,Z p,s.bt⟩:=by unfold step;rw[h]
theorem step_none{s:CSt}{c:Int}(h:join cl pr s c=N):step cl pr s c=put cl s c:=by unfold step;rw[h]
end
section
variable {cl:Int->Int}{pr:Int->Int->Option Int}{D:Int->Li}
theorem inv_move(c:Int)(q:Li)(hc:cl c≠0)(h:∀y∈q,cl y≠0/\cl y≠cl c):Can.Inv cl (c::q) (q++[c]):=by
 induction q with
 |nil=>exact Can.Inv.refl _
 |cons y r ih=>
  have hy:=h y L;exact(Can.Inv.swap r hc hy.1 (λe=>hy.2 e.symm)).trans ((ih (λz hz=>h z (by simp[hz]))).cons y)
structure Und(cl:Int->Int)(D:Int->Li)(u:Li)(s:CSt):Prop where
 inv:Can.Inv cl (s.o.flatMap D) u
 bts:∀b∈s.bt,D b=[b]/\cl b≠0
 pw:s.bt.Pairwise (λx y=>cl x<=cl y)
 top:∀b∈s.bt,∃x,u.getLast?=Z x/\cl b<=cl x
theorem flat_self{l:Li}(h:∀b∈l,D b=[b]):l.flatMap D=l:=by
 induction l with
 |nil=>rfl
 |cons b l ih=>rw[List.flatMap_cons,h b L,ih (λx hx=>h x (by simp[hx]))];rfl
theorem last_le{l:Li}(hp:l.Pairwise (λx y=>cl x<=cl y)){b:Int}(hb:l.getLast?=Z b):∀x∈l,cl x<=cl b:=by
 obtain⟨r,rfl⟩:∃r,l=r++[b]:=by
  cases hl:l with
  |nil=>rw[hl]at hb;cases hb
  |cons x y=>
   rw[hl]at hb;refine⟨(x::y).dropLast,?_⟩;have a:(x::y).getLast L=b:=by rw[List.getLast?_eq_some_getLast L]at hb;injection hb
   rw[<-a,List.dropLast_concat_getLast]
 intro x hx;rcases List.mem_append.1 hx with hx|hx
 ·exact(List.pairwise_append.1 hp).2.2 x hx b L
 simp at hx;subst hx;omega
theorem Und.step(hcl:∀x,0<=cl x)(hD:∀L c p,pr L c=Z p->D p=D L++D c){u:Li}{s:CSt}{c:Int}(h:Und cl D u s)(hc:D c=[c])(hok:cl c≠0->∀x,u.getLast?=Z x->cl x<=cl c):Und cl D (u++[c]) (step cl pr s c):=by
 have f:(u++[c]).getLast?=Z c:=oL_
 have i:cl c≠0->∀b∈s.bt,cl b<=cl c:=λh0 b hb=>by
  obtain⟨x,k,j⟩:=h.top b hb;have:=hok h0 x k;omega
 cases hj:join cl pr s c with
 |none=>
  rw[step_none hj];have hi:Can.Inv cl ((put cl s c).o.flatMap D) (u++[c]):=by
   rw[put_out,List.flatMap_append];have:[c].flatMap D=[c]:=by simp[hc]
   rw[this];exact h.inv.append (Can.Inv.refl _)
  by_cases h0:cl c=0
  ·have e:(put cl s c).bt=[]:=by unfold put;rw[if_pos h0]
   exact⟨hi,by rw[e];simp,by rw[e];simp,by rw[e];simp⟩
  have e:(put cl s c).bt=s.bt++[c]:=by unfold put;rw[if_neg h0]
  refine⟨hi,?_,?_,?_⟩<;>rw[e]
  ·intro b hb
   rcases List.mem_append.1 hb with hb|hb
   ·exact h.bts b hb
   simp at hb;subst hb;exact⟨hc,h0⟩
  ·rw[List.pairwise_append]
   exact⟨h.pw,oL_,λa ha b hb=>by simp at hb;subst hb;exact i h0 a ha⟩
  intro b hb;refine⟨c,f,?_⟩;rcases List.mem_append.1 hb with hb|hb
  ·exact i h0 b hb
  simp at hb;subst hb;omega
 |some p=>
  obtain⟨L,k,j,o⟩:=join_some hj;rw[step_some hj];have g:=hD L c p o;rw[hc]at g;have d:∀b∈s.bt,cl b<cl c:=by
   intro b hb;unfold free at j;cases hl:s.bt.getLast? with
   |none=>rw[List.getLast?_eq_none_iff]at hl;rw[hl]at hb;cases hb
   |some y=>
    rw[hl]at j;have q:cl y<cl c:=by simpa using j
    have:=last_le h.pw hl b hb;omega
  refine⟨?_,h.bts,h.pw,λb hb=>⟨c,f,by have:=d b hb;omega⟩⟩;have m:(CSt.o ⟨s.pre,Z p,s.bt⟩).flatMap D=s.pre.flatMap D++(D L++(c::s.bt)):=by
   simp[CSt.o,g,flat_self (λb hb=>(h.bts b hb).1)]
  have n:s.o.flatMap D++[c]=s.pre.flatMap D++(D L++(s.bt++[c])):=by
   simp[CSt.o,k,flat_self (λb hb=>(h.bts b hb).1)]
  rw[m];have l:Can.Inv cl (c::s.bt) (s.bt++[c]):=by
   by_cases hb:s.bt=[]
   ·rw[hb];exact Can.Inv.refl _
   obtain⟨y,hy⟩:=List.exists_mem_of_ne_nil _ hb;have r:=d y hy;have t:=hcl y;exact inv_move c _ O (λz hz=>⟨(h.bts z hz).2,by have:=d z hz;omega⟩)
  refine((Can.Inv.refl (cl:=cl) (s.pre.flatMap D)).append ((Can.Inv.refl (cl:=cl) (D L)).append l)).trans ?_;rw[<-n];exact h.inv.append (Can.Inv.refl _)
end
end Cps
section
open Go.RowKit
def usN(x:Nrm):Nrm:=if bW x=0 then x else⟨[],[],[]⟩
structure NOk(x:Nrm):Prop where
 st:StF x.dec
 hg:dG x.dec
 co:gG x.dec
 en:dN x.dec=true
 lo:fE x.dec=false
 kd:∀m∈x.dec,m.tag.size=0->m.toq.length=1\/m.toq.length=2
theorem oK(x:Nrm):NOk (usN x):=by
 unfold usN;split
 ·next h=>
  obtain⟨c,a,b⟩:=tT h;refine⟨nK c.t,oN c.d,zL c.m,a,b,λm hm ht=>?_⟩;have:=List.any_eq_false.1 c.k m hm;unfold cV at this;simp[ht]at this;omega
 exact⟨λi j hi=>by simp at hi,λi hi=>by simp at hi,λi hi=>by simp at hi,rfl,rfl,λm hm=>by simp at hm⟩
section
variable {x:Nrm}
end
end
section
open Go.RowKit Go.Maps Go.WideMaps
theorem qA{fn:Func}(hr:fn.results=#[.cell 2 28])(tmps:Array Value)(w:Wv){b:Nat}{v0 v1 v2:Value}(ha:tmps.getD 2 undef=.pointer (Z ⟨b,0,N⟩))
  (c0:w.cell? ⟨b,0,N⟩=Z v0) (c1:w.cell? ⟨b,1,N⟩=Z v1) (c2:w.cell? ⟨b,2,N⟩=Z v2) :
  (results fn tmps).run prog w=.ok (.agg #[v0,v1,v2]) w:=by
 unfold results;rw[hr];simp only[ha,List.mapM_toArray,List.mapM_cons,List.mapM_nil,asAddr];go_simp
theorem cB.empty(w:Wv):cB w N 0 N 0 N 0 ⟨[],[],[]⟩:=⟨Sl.nil _ _,Mps.nil _ _,Sl.nil _ _,rfl,rfl,rfl⟩
theorem FP{x:Nrm}(h:¬bW x=0):usN x=⟨[],[],[]⟩:=if_neg h
theorem FQ{x:Nrm}(h:bW x=0):usN x=x:=if_pos h
def usV(x:Nrm)(A0:Oa)(k0:Nat)(A1:Oa)(k1:Nat)(A2:Oa)(k2:Nat):Value:=if bW x=0 then .agg #[H A0 x.cls.length k0,H A1 x.dec.length k1,H A2 x.exc.length k2]else .agg #[H N 0 0,H N 0 0,H N 0 0]
theorem uX{x:Nrm}(A0:Oa)(k0:Nat)(A1:Oa)(k1:Nat)(A2:Oa)(k2:Nat)(h:¬bW x=0):usV x A0 k0 A1 k1 A2 k2=.agg #[H N 0 0,H N 0 0,H N 0 0]:=if_neg h
theorem uY{x:Nrm}(A0:Oa)(k0:Nat)(A1:Oa)(k1:Nat)(A2:Oa)(k2:Nat)(h:bW x=0):usV x A0 k0 A1 k1 A2 k2=.agg #[H A0 x.cls.length k0,H A1 x.dec.length k1,H A2 x.exc.length k2]:=if_pos h
theorem uW{w:Wv}{A0:Oa}{n0:Nat}{A1:Oa}{n1:Nat}{A2:Oa}{n2:Nat}{x:Nrm}(h:cB w A0 n0 A1 n1 A2 n2 x)(k0 k1 k2:Nat):∃B0 c0 B1 c1 B2 c2,usV x A0 k0 A1 k1 A2 k2=.agg #[H B0 (usN x).cls.length c0,H B1 (usN x).dec.length c1,H B2 (usN x).exc.length c2]/\
  ∀W,By w W->cB W B0 (usN x).cls.length B1 (usN x).dec.length B2 (usN x).exc.length (usN x):=by
 by_cases hc:bW x=0
 ·rw[FQ hc,uY _ _ _ _ _ _ hc]
  exact⟨_,_,_,_,_,_,rfl,λW hb=>⟨h.s0.below hb,h.s1.below hb,h.s2.below hb,rfl,rfl,rfl⟩⟩
 rw[FP hc,uX _ _ _ _ _ _ hc];exact⟨N,0,N,0,N,0,rfl,λW _=>cB.empty W⟩
theorem cZ.us{x:Nrm}(h:cZ x):cZ (usN x):=by
 unfold usN;split
 ·exact h
 exact⟨L,⟨L,λi hi=>by simp at hi⟩,L⟩
theorem BR(A0:Oa)(n0 k0:Nat)(A1:Oa)(n1 k1:Nat)(A2:Oa)(n2 k2:Nat)(x:Nrm)(w:Wv)(hN:cB w A0 n0 A1 n1 A2 n2 x)(hz:cZ x):
  Calls prog 108 #[.agg #[H A0 n0 k0,H A1 n1 k1,H A2 n2 k2]] w (λe w'=>e=.returned (usV x A0 k0 A1 k1 A2 k2)/\By w w'):=by
 obtain⟨s,q,r,rfl,rfl,rfl⟩:=hN;have g:By w ((w.alloc (.cells #[H A0 x.cls.length k0,H A1 x.dec.length k1,H A2 x.exc.length k2] 28)).alloc (.cells #[H N 0 0,H N 0 0,H N 0 0] 28)):=(ba _ _).alloc L _
 have d:Box ((w.alloc (.cells #[H A0 x.cls.length k0,H A1 x.dec.length k1,H A2 x.exc.length k2] 28)).alloc (.cells #[H N 0 0,H N 0 0,H N 0 0] 28)) w.heap.size 28 [H A0 x.cls.length k0,H A1 x.dec.length k1,H A2 x.exc.length k2]:=
  (Box.new w _ [H A0 x.cls.length k0,H A1 x.dec.length k1,H A2 x.exc.length k2] rfl).below (B:=w.heap.size+1) ((Below.refl _ _).alloc L _) O
 have h:Box ((w.alloc (.cells #[H A0 x.cls.length k0,H A1 x.dec.length k1,H A2 x.exc.length k2] 28)).alloc (.cells #[H N 0 0,H N 0 0,H N 0 0] 28)) (w.heap.size+1) 28 [H N 0 0,H N 0 0,H N 0 0]:=Box.new _ _ _ L;have j:∃l,((w.alloc (.cells #[H A0 x.cls.length k0,H A1 x.dec.length k1,H A2 x.exc.length k2] 28)).alloc (.cells #[H N 0 0,H N 0 0,H N 0 0] 28))=l:=⟨_,rfl⟩;have hN:∀W,By w W->cB W A0 x.cls.length A1 x.dec.length A2 x.exc.length x:=λW hb=>⟨s.below hb,q.below hb,r.below hb,rfl,rfl,rfl⟩
 have v:=G (λW(hb:By w W)=>BM A0 x.cls.length k0 A1 x.dec.length k1 A2 x.exc.length k2 x W (hN W hb) hz);have z:=G (uX (x:=x) A0 k0 A1 k1 A2 k2);have A:=G (uY (x:=x) A0 k0 A1 k1 A2 k2);clear hN s q r hz;generalize hu:usV x A0 k0 A1 k1 A2 k2=y at *;generalize hc:bW x=c at *;clear hu hc;go_enter func108,ntmps108;go_wp2_with fail;obtain⟨l,f⟩:=j;rw[f]at g d h|-;clear f;have E:=d.lt;have F:=h.lt;obtain⟨n,o,p⟩:=d.k3;go_wp2_with fail;refine(v.o _ g).mono ?_
 rintro e C ⟨rfl,a⟩;have D:=d.below a E;have m:=h.below a F;have t:=tb g a;clear n o p d h g a;obtain⟨n,o,p⟩:=D.k3;obtain⟨K,M,P⟩:=m.k3;obtain⟨Q,R,S⟩:=m.f3;have k:=G (λ(u0 u1 u2:Value)=>show By w (((C.setCell ⟨w.heap.size+1,0,N⟩ u0).setCell ⟨w.heap.size+1,1,N⟩ u1).setCell ⟨w.heap.size+1,2,N⟩ u2)from((t.setCell L _).setCell L _).setCell L _);by_cases h0:c=0
 ·have i:=G (A.o h0)
  subst h0;go_wp2_with fail;(try simp only[Exit.inBlock,Exit.then]);refine bodyPost_ret (qA rfl _ _ (b:=w.heap.size+1) (v0:=H A0 x.cls.length k0) (v1:=H A1 x.dec.length k1) (v2:=H A2 x.exc.length k2) rfl oS_ oS_ oS_) rfl ?_;exact⟨by rw[i.o],k.o _ _ _⟩
 have i:=G (z.o h0);have T:(c !=0)=true:=by simpa using h0
 go_wp2_with fail;(try simp only[Exit.inBlock,Exit.then]);refine bodyPost_ret (qA rfl _ _ (b:=w.heap.size+1) (v0:=H N 0 0) (v1:=H N 0 0) (v2:=H N 0 0) rfl oS_ oS_ oS_) rfl ?_;exact⟨by rw[i.o],k.o _ _ _⟩
def fO(cs:List Spn):Int:=cs.foldl (λr s=>max r s.val) 0
theorem zAr{cs:List Spn}{i:Nat}(hi:i<cs.length):fO (cs.take (i+1))=max (fO (cs.take i)) cs[i].val:=by
 unfold fO;rw[List.take_succ_eq_append_getElem hi,List.foldl_append];rfl
theorem zAq:∀{cs:List Spn}{s:Spn},s∈cs->s.val<=fO cs:=by
 intro cs s h;have a:∀(l:List Spn)(r:Int),r<=l.foldl (λr s=>max r s.val) r/\∀s∈l,s.val<=l.foldl (λr s=>max r s.val) r:=by
  intro l;induction l with
  |nil=>intro r;exact⟨Int.le_refl _,λs h=>by cases h⟩
  |cons x l ih=>
   intro r;obtain⟨c,b⟩:=ih (max r x.val);refine⟨by simp only[List.foldl_cons];omega,λs hs=>?_⟩;simp only[List.foldl_cons];rcases List.mem_cons.1 hs with rfl|hs
   ·omega
   exact b s hs
 exact(a cs 0).2 s h
theorem LP(cs:List Spn)(c:Int):cls cs c<=fO cs:=by
 induction cs with
 |nil=>exact Int.le_refl _
 |cons s r ih=>
  unfold cls;split
  ·exact zAq L
  refine Int.le_trans ih ?_;unfold fO;simp only[List.foldl_cons];have d:∀(l:List Spn)(a b:Int),a<=b->l.foldl (λr s=>max r s.val) a<=l.foldl (λr s=>max r s.val) b:=by
   intro l;induction l with
   |nil=>intro a b h;exact h
   |cons x l ih=>intro a b h;exact ih _ _ (by show max a x.val<=max b x.val;omega)
  exact d r 0 _ O
theorem zAu(x:Nrm):us (usN x).cls=(usN x).cls:=by
 unfold usN;split
 ·next h=>exact oL (tT h).1.c
 rfl
theorem Box.nobool{w:Wv}{T:Nat}{t:TypeId}{cs:Lv}(h:Box w T t cs)(hn:∀v∈cs,∀b,v≠.bool b){o:Nat}{b:Bool}:w.cell? ⟨T,o,N⟩≠Z (.bool b):=by
 unfold Box at h;intro e;simp[World.cell?,h]at e;obtain⟨a,c⟩:=List.getElem?_eq_some_iff.1 e;exact hn _ (List.getElem_mem a) b c
theorem cM.off{w w':Wv}{T:Nat}{t:TypeId}{cs:Lv}{E:Oa}{es:List Elt}(h:cM w E es)(hX:Box w T t cs)(hn:∀v∈cs,∀b,v≠.bool b)(hg:w.grownBy w' (Z T)):cM w' E es:=by
 by_cases he:es=[]
 ·subst he;exact Sl.nil _ _
 have a:0<es.length:=List.length_pos_iff.2 he;obtain⟨b,o,rfl,hb,hc⟩:=h.at a
 have f:b≠T:=λe=>by
  subst e;exact hX.nobool hn (hc 0 a).2.2.2
 intro g;obtain⟨i,k,c,d⟩:=h g;injection c with c;injection c with i1 i2;subst i1;subst i2;refine⟨b,o,rfl,λj u hu=>?_⟩;exact(World.cell?_of_block (hg.block b hb (λe=>f (by injection e)))).trans (d j u hu)
theorem d_.put{w w':Wv}{T:Nat}{c:Col}{cl cl':Value}{top top':Int}(h:d_ w T c cl top)(hg:w.grownBy w' (Z T))(hcl:∀b,cl≠.bool b)(hX:∀cs,Box w T 167 cs->∀A n a B m b M,cs=lR A n a B m b c M (dE c.ents) cl top->Box w' T 167 (lR A n a B m b c M (dE c.ents) cl' top')):d_ w' T c cl' top':=by
 obtain⟨A,n,a,B,m,b,M,k,f,g,l,r⟩:=h.ex;have j:∀v∈lR A n a B m b c M (dE c.ents) cl top,∀b,v≠.bool b:=by
  intro v hv x;unfold lR at hv;simp only[List.mem_cons,List.not_mem_nil,or_false]at hv;rcases hv with rfl|rfl|rfl|rfl|rfl|rfl|rfl|rfl|rfl;all_goals first|exact hcl x|(intro e;cases e)
 refine⟨A,n,a,B,m,b,M,k,f,hX _ g _ _ _ _ _ _ _ rfl,l.kept hg (λe=>?_),λzs hz=>?_⟩
 ·injection e with e
  subst e;have o:=g.cell (i:=0) (v:=H A n a) rfl;rw[l.nocell]at o;cases o
 have:=r zs hz;cases hl:aF c.ents zs with
 |none=>rw[hl]at this;exact this
 |some e=>
  rw[hl]at this;obtain⟨E,d,p,q⟩:=this;exact⟨E,d,p,q.off g j hg⟩
def IE(T:Nat)(c:Col)(cs:List Spn)(w:Wv)(e:Ending)(w':Wv):Prop:=e=.returned (.pointer (Z ⟨T,0,N⟩))/\(∃A k,d_ w' T c (H A cs.length k) (fO cs)/\bG w' A cs)/\w.grownBy w' (Z T)
theorem Sl.grownT{W W':Wv}{U:Nat}{A:Oa}{cs:Lv}(h:Sl W A cs)(hg:W.grownBy W' (Z U))(hU:∀b o,A=Z ⟨b,o,N⟩->b<W.heap.size->b≠U):Sl W' A cs:=by
 intro c;obtain⟨b,o,f,hc⟩:=h c;refine⟨b,o,f,λj u hu=>?_⟩;have d:=hc j u hu;have a:=World.block_lt_of_cell? W _ d;exact(World.cell?_of_block (hg.block b a (λe=>hU b o f a (by injection e)))).trans d
theorem FX(A0:Oa)(n0 k0:Nat)(A1:Oa)(n1 k1:Nat)(A2:Oa)(n2 k2:Nat)(x:Nrm)(T:Nat)(c:Col)(w0 w:Wv)(hN:cB w0 A0 n0 A1 n1 A2 n2 x)(hz:cZ x)(hL:dX w0)(hw:Below w0.heap.size w0 w)(hT0:w0.heap.size<=T)
  (hT:d_ w T c (H N 0 0) 0) :
  Calls prog 65 #[.pointer (Z ⟨T,0,N⟩),.agg #[H A0 n0 k0,H A1 n1 k1,H A2 n2 k2]] w (IE T c (usN x).cls w):=by
 have DC:=G (λW(hb:Below w0.heap.size w0 W)=>sH A0 n0 k0 A1 n1 k1 A2 n2 k2 x W (hN.below hb) hz (hL.below hb));have F:=G hN.s0;have az:=hN.l0;have bl:=hz.us.z0;have US:=G (FQ (x:=x));have UB:=G (FP (x:=x));have HT:=G hT;have bk:=hT.cl.2;clear hN hz hL hT;subst az;have H0:By w (w.alloc (.cells #[H A0 x.cls.length k0,H A1 n1 k1,H A2 n2 k2] 28)):=ba _ _;have X0:Box (w.alloc (.cells #[H A0 x.cls.length k0,H A1 n1 k1,H A2 n2 k2] 28)) w.heap.size 28 [H A0 x.cls.length k0,H A1 n1 k1,H A2 n2 k2]:=Box.new w _ [H A0 x.cls.length k0,H A1 n1 k1,H A2 n2 k2] rfl;have aw:∃W0,(w.alloc (.cells #[H A0 x.cls.length k0,H A1 n1 k1,H A2 n2 k2] 28))=W0:=⟨_,rfl⟩;generalize bW x=er at *;generalize usN x=y at *;go_enter func65,ntmps65;go_wp2_with fail;obtain⟨W0,ag⟩:=aw;try rw[ag]at H0 X0|-
 clear ag;obtain⟨q0,q1,q2⟩:=X0.k3;have a0:=X0.lt;have aj:Below w0.heap.size w0 W0:=tb hw H0;go_wp2_with fail;refine(DC.o _ aj).mono ?_
 rintro e C ⟨rfl,L⟩;have H1:=tb H0 L;have p0:=(L.cell (p:=⟨w.heap.size,0,N⟩) a0).trans q0;have f:=G (HT.o.below H1);have ak:=tb aj L;have a6:=f.o.cl.2;clear DC HT q0 q1 q2 X0 L;by_cases he:er=0
 ·obtain rfl:=US.o he
  subst he;obtain⟨A3,n3,a3,B3,m3,b3,M3,a1,f3,l,R,t⟩:=f.o.ex;have f7:=l.free 7;have e7:=f.o.cl.1;clear l R t;have g:=U (d_ (C.setCell ⟨T,7,N⟩ (H A0 y.cls.length k0)) T c (H A0 y.cls.length k0) (fO (y.cls.take 0))) (f.o.put (bR _ _ _) (λ_=>by intro h;cases h) (λcs h A n a B m b M e=>by subst e;exact h.set 7 _));have P:bG C A0 y.cls:=F.o.below ak
  have j:=U (y.cls≠[]->∀b o,A0=Z ⟨b,o,N⟩->b≠T) (λhne b o D e=>by
   obtain⟨b',o',K,ay⟩:=F.o (by cases hy:y.cls with|nil=>exact absurd hy hne|cons s r=>simp[gQ])
   rw[D]at K
   injection K with K
   injection K with i1 i2
   subst i1;subst i2
   cases hy:y.cls with
   |nil=>exact hne hy
   |cons s r=>
    have:=World.block_lt_of_cell? w0 _ (ay 0 (I J s.lo) (by rw[hy];rfl))
    simp at this
    omega)
  have q:=U (bG (C.setCell ⟨T,7,N⟩ (H A0 y.cls.length k0)) A0 y.cls) (by
   by_cases hne:y.cls=[]
   ·rw[hne];exact Sl.nil _ _
   ·exact Sl.grownT P (bR _ _ _) (λb o D _=>j.o hne b o D))
  have E:=U (w.grownBy (C.setCell ⟨T,7,N⟩ (H A0 y.cls.length k0)) (Z T)) (bK (cT (aP w _) H1) (bR _ _ _));have af:T<(C.setCell ⟨T,7,N⟩ (H A0 y.cls.length k0)).heap.size:=g.o.cl.2;have t7:=g.o.cl.1;have ax:∃W2,(C.setCell ⟨T,7,N⟩ (H A0 y.cls.length k0))=W2:=⟨_,rfl⟩;clear f P F US UB;generalize y.cls=cs at *;go_wp2_with fail;obtain⟨W2,ah⟩:=ax;try rw[ah]at g q E af t7|-
  clear ah f7 e7;have X:=j;clear j;have j:=G (λ(b o:Nat) (D:A0=Z ⟨b,o,N⟩) (_:b<W2.heap.size) (hne:cs≠[])=>X.o hne b o D);go_wp2
  go_loopw [20] (λu wr=>∃i:Nat,i<=cs.length/\u=I J i/\d_ wr T c (H A0 cs.length k0) (fO (cs.take i))/\W2.grownBy wr (Z T))
   (λu _=>cs.length-(intOf u).toNat)
  case atStart=>exact⟨0,Nat.zero_le _,rfl,g.o,aP _ _⟩
  obtain⟨i,hi,rfl,hT,d⟩:=hrel;have k:=G hT;clear hT;obtain⟨t7,tl⟩:=k.o.cl;by_cases hlt:i<cs.length
  ·obtain⟨b,o,D,ai,z⟩:=q.o.at hlt
   obtain⟨ab,ad,ae⟩:=z i hlt;have V:b≠T:=j.o _ _ D ai (by rintro rfl;simp at hlt);have c1:=d.cell ab (by simpa using V);have c2:=d.cell ad (by simpa using V);have c3:=d.cell ae (by simpa using V);have a7:b<wr.heap.size:=Nat.lt_of_lt_of_le ai d.size;have LS:=G (zAr hlt);subst D;clear z ab ad ae;generalize cs[i].lo=lo at *;generalize cs[i].hi=hh at *;generalize cs[i].val=vv at *;obtain⟨A3,n3,a3,B3,m3,b3,M3,a1,f3,l,R,t⟩:=k.o.ex;have t8:wr.cell? ⟨T,8,N⟩=Z (I J (fO (cs.take i))):=l.c 8 rfl;have f8:=l.free 8;clear l R t;have Y:=G (λ(v:Int)=>show d_ (wr.setCell ⟨T,8,N⟩ (I J v)) T c (H (Z ⟨b,o,N⟩) cs.length k0) v from k.o.put (bR _ _ _) (λ_=>by intro h;cases h) (λcs h A n a B m b M e=>by subst e;exact h.set 8 _));generalize fO (cs.take i)=l0 at *;have a8:¬T=wr.heap.size:=O;have al:∀(W:Wv)(o:Obj),By W (W.alloc o).drew:=λW o=>(ba _ _).drew
   have ap:=G (λv=>show W2.grownBy ((wr.setCell ⟨T,8,N⟩ v).alloc (.cells #[I J lo,I J hh,I J vv] 182)).drew (Z T)from cT (bK d (bR _ _ _)) (al _ _));have Q:=G (λv=>(Y.o v).below (al _ (.cells #[I J lo,I J hh,I J vv] 182)));clear k Y d al;go_wp2_with fail;go_region
   all_goals
    go_wp2;go_roundw
    case rel=>
     refine⟨i+1,O,oN_,?_,ap.o _⟩;rw[LS.o];first|(have e:(if l0<vv then vv else l0)=max l0 vv:=by { split<;>omega };rw[<-e];exact Q.o _)|exact Q.o _|(rw[Int.max_comm];exact Q.o _)
    exact oI_
  obtain rfl:i=cs.length:=O;have S:=k.o;rw[List.take_length]at S;have aq:=G S;clear S k;go_wp2;go_ret;refine⟨rfl,⟨_,_,aq.o,?_⟩,bK E.o d⟩;by_cases hne:cs=[]
  ·rw[hne];exact Sl.nil _ _
  exact Sl.grownT q.o d (λb o D hb=>j.o _ _ D hb hne)
 have h1:(er==0)=false:=by simpa using he
 obtain rfl:=UB.o he;have g:=U (d_ C T c (H N ([]:List Spn).length 0) (fO (([]:List Spn).take 0))) f.o;have q:=U (bG C N []) (Sl.nil _ _);have E:=U (w.grownBy C (Z T)) (cT (aP w _) H1);have t7:=g.o.cl.1;clear f F US UB;go_wp2;go_loopw [20] (λu wr=>u=I J 0/\wr=C) (λu _=>0-(intOf u).toNat)
 case atStart=>exact⟨rfl,rfl⟩
 obtain⟨rfl,rfl⟩:=hrel;go_wp2;go_ret;exact⟨rfl,⟨_,_,g.o,q.o⟩,E.o⟩
end
section
open Go.RowKit
theorem YF{P:Program}(w:Wv)(dT sT ty elem:TypeId)(hu:P.underlying dT=Z (.slice elem))(hsz:(P.info? elem).map (·.size)=Z 1)
  (dp sp:Oa) (dLen dCap sLen sCap:Nat) (g off:Nat) (cur:Lv) (t:TypeId) (hg:Box w g t cur) (cs:Lv) (hn:cs.length=Nat.min sLen dLen)
  (hpos:0<cs.length->dp=Z ⟨g,off,N⟩/\∃ad,sp=Z ad/\∀j v,cs[j]?=Z v->w.cell? (ad.add j)=Z v) (hfit:off+cs.length<=cur.length) (h1:∀v∈cs,v.oneCell'=true) :
  ∃w',(Builtin.copy_ #[dT,sT] ty #[H dp dLen dCap,H sp sLen sCap]).run P w=.ok (goInt cs.length) w'/\Box w' g t (splice cur off cs)/\w.grownBy w' (Z g):=by
 by_cases h0:cs.length=0
 ·obtain rfl:cs=[]:=List.eq_nil_of_length_eq_zero h0
  exact⟨w,run_copy_none (P:=P) w dT sT ty elem dp sp dLen dCap sLen sCap hu hsz (by simpa using hn.symm),by simpa[splice]using hg,aP w _⟩
 obtain⟨rfl,ad,rfl,a⟩:=hpos O;refine⟨_,run_copy_row (P:=P) w dT sT ty elem g off dLen dCap ad sLen sCap cur.toArray t cs hu hsz hg hn a (by simpa using hfit) h1,?_,?_⟩
 ·simpa[splice,Box]using setRow_heap w g _ _ t _ hg
 exact⟨rfl,rfl,rfl,by simp[World.setRow],λk hk hne=>setRow_other w g k _ (λe=>hne (by rw[e]))⟩
theorem IV{P:Program}{ops:Array Oper}{Q:Exit->Act->Wv->Prop}{md:Region.Mode}{S:Wv->Prop}{i:Nat}{oi:Oper}{fuel:Nat}{listed:Array Bool}{a:Act}{w:Wv}(d:Option Tmp)(hi:ops[i]?=Z oi)(hd:oi.dst=d)
  (hr:Region.ready md ops listed=[i]) (hw:Region.wanted oi (yielded ops a.tmps)=true) (o s:Operand) (dT sT:TypeId)
  (ho:oi.op=.call { callee:=.builtin .copy,args:=#[o,s],argTypes:=#[dT,sT] }) (elem:TypeId) (hu:P.underlying dT=Z (.slice elem)) (hsz:(P.info? elem).map (·.size)=Z 1)
  (dp sp:Oa) (dLen dCap sLen sCap:Nat) (hdv:a.eval o=H dp dLen dCap) (hsv:a.eval s=H sp sLen sCap)
  (g off:Nat) (cur:Lv) (t:TypeId) (hg:Box w g t cur) (cs:Lv) (hn:cs.length=Nat.min sLen dLen)
  (hpos:0<cs.length->dp=Z ⟨g,off,N⟩/\∃ad,sp=Z ad/\∀j v,cs[j]?=Z v->w.cell? (ad.add j)=Z v)
  (hfit:off+cs.length<=cur.length) (h1:∀v∈cs,v.oneCell'=true)
  (h:∀w',Box w' g t (splice cur off cs)->w.grownBy w' (Z g)->S w'/\wpAnyH P md ops Q S fuel (listed.setIfInBounds i true) (a.put d (goInt cs.length)) w'):wpAnyH P md ops Q S (fuel+1) listed a w:=by
 subst hd;refine nO hi hr hw (λK hK=>?_);obtain⟨w',b,c,e⟩:=YF (P:=P) w dT sT oi.type elem hu hsz dp sp dLen dCap sLen sCap g off cur t hg cs hn hpos hfit h1;unfold Oper.wp;simp[execOp,ho,resolve,invoke,builtin,hdv,hsv,b,Result.andThen];have:=h w' c e;exact hK.out _ _ this.1 (λ_=>this.2)
theorem Row.box{w:Wv}{b off:Nat}{e:TypeId}{pre post:Lv}{d:Li}(h:Row w b off e pre post d):Box w b e (pre++d.map (Value.int .i64)++post):=h.2
theorem Row.of_box{w:Wv}{b off:Nat}{e:TypeId}{pre post:Lv}{d:Li}(hl:pre.length=off)(h:Box w b e (pre++d.map (Value.int .i64)++post)):Row w b off e pre post d:=⟨hl,h⟩
theorem Row.ints{w:Wv}{b off:Nat}{e:TypeId}{pre post:Lv}{d:Li}(h:Row w b off e pre post d):aA w (Z ⟨b,off,N⟩) d:=by
 intro _;refine⟨b,off,rfl,λj u hu=>?_⟩
 obtain⟨z,hz,rfl⟩:∃z,d[j]?=Z z/\u=I J z:=by
  rw[List.getElem?_map]at hu;cases hz:d[j]? with
  |none=>rw[hz]at hu;cases hu
  |some z=>rw[hz]at hu;injection hu with hu;exact⟨z,rfl,hu.symm⟩
 exact h.cell hz
theorem aA.take{w:Wv}{A:Oa}{t:Li}(h:aA w A t)(k:Nat):aA w A (t.take k):=by
 intro c;have a:t.map (Value.int .i64)≠[]:=by
  intro e;have:t=[]:=by simpa using e
  subst this;simp at c
 obtain⟨b,o,d,hc⟩:=h a;refine⟨b,o,d,λj u hu=>hc j u ?_⟩;rw[List.map_take,List.getElem?_take]at hu;split at hu
 ·exact hu
 cases hu
theorem Row.grown{w w':Wv}{b off:Nat}{e:TypeId}{pre post:Lv}{d:Li}{r:Option Nat}(h:Row w b off e pre post d)(hg:w.grownBy w' r)(hne:Z b≠r):Row w' b off e pre post d:=h.keep (hg.block b h.lt hne)
theorem SY{pre post:Lv}{part lft r:Li}{x:Int}{off:Nat}(hl:pre.length=off):
  (splice (pre++(part++lft++x::r).map (Value.int .i64)++post) (off+part.length+1) (lft.map (Value.int .i64))).set (off+part.length) (I J x)=pre++(part++[x]++lft++r).map (Value.int .i64)++post:=by
 subst hl;obtain⟨h,tl,b⟩:∃h tl,lft++[x]=h::tl:=by cases lft with|nil=>exact⟨x,[],rfl⟩|cons y l=>exact⟨y,l++[x],rfl⟩
 have a:tl.length=lft.length:=by have:=congrArg List.length b;simp at this;omega
 have c:pre++(part++lft++x::r).map (Value.int .i64)++post=(pre++part.map (Value.int .i64))++((I J h)::tl.map (Value.int .i64))++(r.map (Value.int .i64)++post):=by
  have:part++lft++x::r=part++(h::tl)++r:=by rw[<-b];simp
  rw[this];simp
 have g:(pre++part.map (Value.int .i64)).length=pre.length+part.length:=L;have f:pre++(part++[x]++lft++r).map (Value.int .i64)++post=(pre++part.map (Value.int .i64))++(I J x::(lft.map (Value.int .i64)++(r.map (Value.int .i64)++post))):=L;rw[c,f,<-g];generalize pre++part.map (Value.int .i64)=P at *;unfold splice;have d:(P++(Value.int .i64 h::tl.map (Value.int .i64))++(r.map (Value.int .i64)++post)).take (P.length+1)=P++[Value.int .i64 h]:=by
  rw[List.append_assoc,List.take_append,List.take_of_length_le O];congr 1;rw[show P.length+1-P.length=1 by omega];simp
 have e:(P++(Value.int .i64 h::tl.map (Value.int .i64))++(r.map (Value.int .i64)++post)).drop (P.length+1+(lft.map (Value.int .i64)).length)=r.map (Value.int .i64)++post:=by
  have:(P++(Value.int .i64 h::tl.map (Value.int .i64))).length=P.length+1+(lft.map (Value.int .i64)).length:=by simp[a];omega
  rw[<-this,List.drop_left]
 rw[d,e,List.append_assoc,List.set_append_right _ _ (Nat.le_refl _),Nat.sub_self];rfl
end
namespace Mtc
open Go.RowKit
section
variable {E:Type}{cl:Int->Int}{ent:Li->Option (List E)}{imp:Int->List E}
def sz(ent:Li->Option (List E))(t:Li):Nat->Nat
 |0=>0
 |k+1=>if(ent (t.take (k+1))).isSome=true then k+1 else sz ent t k
theorem sz_le(t:Li)(k:Nat):sz ent t k<=k:=by
 induction k with
 |zero=>exact Nat.le_refl _
 |succ k ih=>unfold sz;split<;>omega
theorem sz_some{t:Li}{k:Nat}(h:0<sz ent t k):(ent (t.take (sz ent t k))).isSome=true:=by
 induction k with
 |zero=>simp[sz]at h
 |succ k ih=>
  unfold sz at h|-;split
  ·next h1=>exact h1
  next h1=>rw[if_neg h1]at h;exact ih h
theorem sz_hit{t:Li}{k:Nat}(h:(ent (t.take (k+1))).isSome=true):sz ent t (k+1)=k+1:=by unfold sz;rw[if_pos h]
theorem sz_miss{t:Li}{k:Nat}(h:¬(ent (t.take (k+1))).isSome=true):sz ent t (k+1)=sz ent t k:=by
 conv=>lhs;unfold sz
 rw[if_neg h]
theorem sz_min{t:Li}{L:Nat}(hL:∀zs:Li,L<zs.length->ent zs=N):∀k,k<=t.length->sz ent t k=sz ent t (min L k)
 |0,_=>by rw[Nat.min_zero]
 |k+1,hk=>by
  by_cases h:k+1<=L
  ·rw[Nat.min_eq_right h]
  have hn:ent (t.take (k+1))=N:=hL _ (by rw[List.length_take];omega);rw[sz_miss (by rw[hn];simp),sz_min hL k O];congr 1;omega
def grow(cl:Int->Int)(ent:Li->Option (List E)):Li->Li->Int->Li->Li×Li
 |part,left,_,[]=>(part,left)
 |part,left,hi,x::r=>
  if cl x=0 then(part,left++x::r)
  else if(ent (part++[x])).isSome=true/\hi<cl x then grow cl ent (part++[x]) left hi r
  else grow cl ent part (left++[x]) (max hi (cl x)) r
theorem grow_len:∀(r part left:Li)(hi:Int),(grow cl ent part left hi r).1.length+(grow cl ent part left hi r).2.length=part.length+left.length+r.length
 | [],part,left,hi=>by simp[grow]
 |x::r,part,left,hi=>by
  unfold grow;split
  ·simp;omega
  split
  ·rw[grow_len r];simp;omega
  rw[grow_len r];simp;omega
theorem grow_part:∀(r part left:Li)(hi:Int),part.length<=(grow cl ent part left hi r).1.length
 | [],part,left,hi=>by simp[grow]
 |x::r,part,left,hi=>by
  unfold grow;split
  ·exact Nat.le_refl _
  split
  ·have:=grow_part r (part++[x]) left hi;simp at this;omega
  exact grow_part r part (left++[x]) _
theorem grow_top:∀(r part left:Li)(hi:Int),(∀x,cl x<=hi)->grow cl ent part left hi r=(part,left++r)
 | [],part,left,hi,_=>by simp[grow]
 |x::r,part,left,hi,h=>by
  unfold grow;split
  ·rfl
  rw[if_neg (by rintro⟨_,g⟩;have:=h x;omega),show max hi (cl x)=hi from by have:=h x;omega,grow_top r part _ hi h];simp
theorem grow_stop{part left r:Li}{hi x:Int}(h:cl x=0):grow cl ent part left hi (x::r)=(part,left++x::r):=by
 conv=>lhs;unfold grow
 rw[if_pos h]
theorem grow_take{part left r:Li}{hi x:Int}(h:¬cl x=0)(h1:(ent (part++[x])).isSome=true)(h2:hi<cl x):grow cl ent part left hi (x::r)=grow cl ent (part++[x]) left hi r:=by
 conv=>lhs;unfold grow
 rw[if_neg h,if_pos ⟨h1,h2⟩]
theorem grow_leave{part left r:Li}{hi x:Int}(h:¬cl x=0)(h1:¬(ent (part++[x])).isSome=true\/cl x<=hi):grow cl ent part left hi (x::r)=grow cl ent part (left++[x]) (max hi (cl x)) r:=by
 conv=>lhs;unfold grow
 rw[if_neg h,if_neg];rintro⟨a,b⟩;rcases h1 with h1|h1
 ·exact h1 a
 omega
theorem grow_ent:∀(r part left:Li)(hi:Int),(ent part).isSome=true->(ent (grow cl ent part left hi r).1).isSome=true
 | [],part,left,hi,h=>by simpa[grow]using h
 |x::r,part,left,hi,h=>by
  unfold grow;split
  ·exact h
  split
  ·next h1=>exact grow_ent r _ left hi h1.1
  exact grow_ent r part _ _ h
def matched(cl:Int->Int)(ent:Li->Option (List E))(t:Li):Li×Li×Bool:=
 if sz ent t t.length=0 then(t.take 1,t.drop 1,false)
 else((grow cl ent (t.take (sz ent t t.length)) [] 0 (t.drop (sz ent t t.length))).1,(grow cl ent (t.take (sz ent t t.length)) [] 0 (t.drop (sz ent t t.length))).2,true)
theorem matched_len{t:Li}(h:t≠[]):(matched cl ent t).2.1.length<t.length/\(matched cl ent t).1.length+(matched cl ent t).2.1.length=t.length:=by
 have hp:0<t.length:=List.length_pos_iff.2 h;unfold matched;split
 ·simp only[List.length_take,List.length_drop];omega
 next hn=>
 have a:=grow_len (cl:=cl) (ent:=ent) (t.drop (sz ent t t.length)) (t.take (sz ent t t.length)) [] 0;have b:=grow_part (cl:=cl) (ent:=ent) (t.drop (sz ent t t.length)) (t.take (sz ent t t.length)) [] 0;have c:=sz_le (ent:=ent) t t.length;simp only[List.length_take,List.length_drop,List.length_nil]at a b;dsimp only;omega
def ofPart(ent:Li->Option (List E))(imp:Int->List E)(p:Li)(known:Bool):List E:=if known=true then(ent p).getD []else imp (p.getD 0 0)
def elemsF(cl:Int->Int)(ent:Li->Option (List E))(imp:Int->List E):Nat->Li->List E
 |0,_=>[]
 |_+1,[]=>[]
 |f+1,x::t=>ofPart ent imp (matched cl ent (x::t)).1 (matched cl ent (x::t)).2.2++elemsF cl ent imp f (matched cl ent (x::t)).2.1
theorem elemsF_more:∀(f g:Nat)(t:Li),t.length<=f->t.length<=g->elemsF cl ent imp f t=elemsF cl ent imp g t
 |0,0,t,_,_=>rfl
 |0,g+1,t,h,_=>by
  obtain rfl:t=[]:=List.length_eq_zero_iff.1 O;rfl
 |f+1,0,t,_,h=>by
  obtain rfl:t=[]:=List.length_eq_zero_iff.1 O;rfl
 |f+1,g+1,[],_,_=>rfl
 |f+1,g+1,x::t,h1,h2=>by
  have h:=(matched_len (cl:=cl) (ent:=ent) (t:=x::t) L).1;unfold elemsF;rw[elemsF_more f g _ O O]
def elems(cl:Int->Int)(ent:Li->Option (List E))(imp:Int->List E)(t:Li):List E:=elemsF cl ent imp t.length t
theorem elems_nil:elems cl ent imp []=[]:=rfl
theorem elems_step{t:Li}(h:t≠[]):elems cl ent imp t=ofPart ent imp (matched cl ent t).1 (matched cl ent t).2.2++elems cl ent imp (matched cl ent t).2.1:=by
 cases t with
 |nil=>exact absurd rfl h
 |cons x t=>
  have hl:=(matched_len (cl:=cl) (ent:=ent) (t:=x::t) L).1;show ofPart ent imp (matched cl ent (x::t)).1 (matched cl ent (x::t)).2.2++elemsF cl ent imp t.length (matched cl ent (x::t)).2.1=_
  rw[elemsF_more (cl:=cl) (ent:=ent) (imp:=imp) t.length (matched cl ent (x::t)).2.1.length (matched cl ent (x::t)).2.1 (by simp at hl;omega) (Nat.le_refl _)];rfl
end
end Mtc
namespace Mtc
open Go.RowKit
section
variable {E:Type}{cl:Int->Int}{ent:Li->Option (List E)}
structure MG(cl:Int->Int)(ent:Li->Option (List E))(t:Li)(z:Nat)(d part lft:Li)(i:Nat)(hi:Int):Prop where
 eq:d=part++lft++t.drop i
 at_:part.length+lft.length=i
 le:i<=t.length
 pos:0<part.length
 inv:grow cl ent part lft hi (t.drop i)=grow cl ent (t.take z) [] 0 (t.drop z)
 is:(ent part).isSome=true
variable {t d part lft:Li}{z i:Nat}{hi:Int}
theorem MG.start(h1:0<z)(h2:z<=t.length)(h3:(ent (t.take z)).isSome=true):MG cl ent t z t (t.take z) [] z 0:=
 ⟨by rw[List.append_nil,List.take_append_drop],oU_,h2,by rw[List.length_take];omega,rfl,h3⟩
theorem MG.len(h:MG cl ent t z d part lft i hi):d.length=t.length:=by
 have:=h.at_;have:=h.le;rw[h.eq,List.length_append,List.length_append,List.length_drop];omega
theorem MG.get(h:MG cl ent t z d part lft i hi)(hi2:i<t.length)(hd:i<d.length):d[i]=t[i]:=by
 have e:d[i]?=t[i]?:=by
  rw[h.eq,List.getElem?_append_right (by rw[List.length_append];have:=h.at_;omega),List.length_append,h.at_,Nat.sub_self,List.getElem?_drop,Nat.add_zero]
 rw[List.getElem?_eq_getElem hi2,List.getElem?_eq_getElem hd]at e;injection e
theorem MG.drop(_:MG cl ent t z d part lft i hi)(hi2:i<t.length):t.drop i=t[i]::t.drop (i+1):=List.drop_eq_getElem_cons hi2
theorem MG.leave(h:MG cl ent t z d part lft i hi)(hi2:i<t.length)(h0:¬cl t[i]=0)(h1:¬(ent (part++[t[i]])).isSome=true\/cl t[i]<=hi){hi':Int}(hh:hi'=max hi (cl t[i])):MG cl ent t z d part (lft++[t[i]]) (i+1) hi':=by
 subst hh;refine⟨?_,by have:=h.at_;simp;omega,hi2,h.pos,?_,h.is⟩
 ·rw[h.eq,h.drop hi2];simp
 have:=h.inv;rw[h.drop hi2,grow_leave h0 h1]at this;exact this
theorem MG.take(h:MG cl ent t z d part lft i hi)(hi2:i<t.length)(h0:¬cl t[i]=0)(h1:(ent (part++[t[i]])).isSome=true)(h2:hi<cl t[i]):MG cl ent t z (part++[t[i]]++lft++t.drop (i+1)) (part++[t[i]]) lft (i+1) hi:=by
 refine⟨rfl,by have:=h.at_;simp;omega,hi2,L,?_,h1⟩;have:=h.inv;rw[h.drop hi2,grow_take h0 h1 h2]at this;exact this
theorem MG.stop(h:MG cl ent t z d part lft i hi)(hi2:i<t.length)(h0:cl t[i]=0):grow cl ent (t.take z) [] 0 (t.drop z)=(part,lft++t.drop i):=by
 rw[<-h.inv,h.drop hi2,grow_stop h0]
theorem MG.fin(h:MG cl ent t z d part lft i hi)(h1:i=t.length\/∀x,cl x<=hi):grow cl ent (t.take z) [] 0 (t.drop z)=(part,lft++t.drop i):=by
 rw[<-h.inv];rcases h1 with h1|h1
 ·subst h1
  rw[List.drop_length,List.append_nil];rfl
 exact grow_top _ _ _ _ h1
end
end Mtc
section
open Go.RowKit Go.Maps Go.WideMaps
def aZ(c:Col)(x:Int):List Elt:=if 0<=x/\x<=1114111 then [⟨c.base+x/32768,c.second,c.third,false⟩,⟨32768+x%32768,0,0,false⟩]else []
def vG(l:List Elt)(w:Wv)(e:Ending)(w':Wv):Prop:=∃E d,e=.returned (H E l.length d)/\cM w' E l/\By w w'
theorem d_.cells{w:Wv}{T:Nat}{c:Col}{cl:Value}{top:Int}(h:d_ w T c cl top):w.cell? ⟨T,2,N⟩=Z (I J c.base)/\w.cell? ⟨T,3,N⟩=Z (I J c.second)/\w.cell? ⟨T,4,N⟩=Z (I J c.third)/\w.cell? ⟨T,6,N⟩=Z (I J (dE c.ents))/\w.cell? ⟨T,8,N⟩=Z (I J top):=by
 obtain⟨A,n,a,B,m,b,M,k,f,d,_⟩:=h.ex;exact⟨d.c 2 rfl,d.c 3 rfl,d.c 4 rfl,d.c 6 rfl,d.c 8 rfl⟩
theorem PN(T:Nat)(c:Col)(cl:Value)(top:Int)(x:Int)(w:Wv)(hT:d_ w T c cl top)(hb:1<=c.base/\c.base<=65502):
  Calls prog 126 #[.pointer (Z ⟨T,0,N⟩),I J x] w (vG (aZ c x) w):=by
 obtain⟨f,g,h,_,_⟩:=hT.cells;have V:=G (λW=>jS x W);clear hT;by_cases hx:0<=x/\x<=1114111
 ·have hv:inR 0 1114111 x=true:=f_ hx.1 hx.2
  have a:=U (aZ c x=[⟨c.base+x/32768,c.second,c.third,false⟩,⟨32768+x%32768,0,0,false⟩]) (if_pos hx);generalize aZ c x=l at *;obtain rfl:=a.o;rw[hv]at V;clear hv a;generalize c.base=b at *;generalize c.second=s at *;generalize c.third=t at *;go_enter func126,ntmps126;go_wp2_with fail;refine(V.o _).mono ?_
  rintro e d ⟨rfl,rfl⟩;go_wp2_with fail;go_region
  all_goals
   go_wp2;go_ret;exact⟨_,_,rfl,bI _ _ _ rfl,((Below.refl _ _).drew).alloc (Nat.le_refl _) _⟩
 have hv:inR 0 1114111 x=false:=by rw[lJ];omega
 have a:=U (aZ c x=[]) (if_neg hx);generalize aZ c x=l at *;obtain rfl:=a.o;rw[hv]at V;clear hv a;go_enter func126,ntmps126;go_wp2_with fail;refine(V.o _).mono ?_
 rintro e d ⟨rfl,rfl⟩;go_wp2;go_ret;exact⟨N,0,rfl,Sl.nil _ _,Below.refl _ _⟩
def qZ(mt:Li×Li×Bool)(ent:Li->Option (List Elt))(imp:Int->List Elt)(b off:Nat)(pre post:Lv)(w:Wv)(e:Ending)(w':Wv):Prop:=
 ∃E m,e=.returned (.tuple #[I J (mt.1.length),H E (Mtc.ofPart ent imp mt.1 mt.2.2).length m,.bool mt.2.2])/\cM w' E (Mtc.ofPart ent imp mt.1 mt.2.2)/\Row w' b off 3 pre post (mt.1++mt.2.1)/\w.grownBy w' (Z b)
def oQ(cl:Int->Int)(ent:Li->Option (List Elt))(imp:Int->List Elt)(b off:Nat)(pre post:Lv)(t:Li)(w:Wv)(e:Ending)(w':Wv):Prop:=qZ (Mtc.matched cl ent t) ent imp b off pre post w e w'
theorem zO{E:Type}{cl:Int->Int}{ent:Li->Option (List E)}{t:Li}(h:Mtc.sz ent t t.length=0):Mtc.matched cl ent t=(t.take 1,t.drop 1,false):=if_pos h
theorem zP{E:Type}{cl:Int->Int}{ent:Li->Option (List E)}{t:Li}{z:Nat}(h:Mtc.sz ent t t.length=z)(hz:0<z):Mtc.matched cl ent t=((Mtc.grow cl ent (t.take z) [] 0 (t.drop z)).1,(Mtc.grow cl ent (t.take z) [] 0 (t.drop z)).2,true):=by
 unfold Mtc.matched;rw[if_neg O,h]
theorem PQ:(prog.info? 3).map (·.size)=Z 1:=oK_
structure qR(T:Nat)(c:Col)(cs:List Spn)(A0:Oa)(k0:Nat)(b:Nat)(w0:Wv):Prop where
 tab:d_ w0 T c (H A0 cs.length k0) (fO cs)
 sp:bG w0 A0 cs
 hb:w0.heap.size<=b
 asc:Asc cs
 csz:cs.length<=1099511627776
 ent:∀x∈c.ents,1<=x.codes.length/\x.codes.length<=8
 base:1<=c.base/\c.base<=65502
end
section
open Go.RowKit
def cD(A:Oa)(a lo:Nat):Oa:=if a=lo then A else A.map (λx=>x.add lo)
theorem aA.sub{w:Wv}{A:Oa}{t:Li}(h:aA w A t){a lo hi:Nat}(h1:lo<=hi)(h2:hi<=t.length)(h3:t.length<=a):aA w (cD A a lo) ((t.take hi).drop lo):=by
 unfold cD;by_cases e:a=lo
 ·rw[if_pos e]
  have:(t.take hi).drop lo=[]:=List.drop_of_length_le oU_;rw[this];exact Sl.nil _ _
 rw[if_neg e];by_cases hl:lo<hi
 ·obtain⟨b,o,rfl,hc⟩:=h.at (k:=lo) O
  intro _;refine⟨b,o+lo,?_,λj u hu=>?_⟩
  ·simp only[Option.map_some,Addr.add]
   split
   ·next h0=>subst h0;rfl
   rfl
  have hj:j<hi-lo:=by
   have:=(List.getElem?_eq_some_iff.1 hu).1;simp at this;omega
  have c:u=I J (t[lo+j]' O):=by
   rw[List.getElem?_map,List.getElem?_drop,List.getElem?_take,if_pos O,List.getElem?_eq_getElem O]at hu;simpa using hu.symm
  rw[c,Nat.add_assoc];exact hc (lo+j) O
 have:(t.take hi).drop lo=[]:=List.drop_of_length_le oU_;rw[this];exact Sl.nil _ _
theorem DH(A:Oa)(n a lo hi:Nat)(h1:lo<=hi)(h2:hi<=a)(W:Wv):(Instr.sliceAt 33 (H A n a) (Z (I J lo)) (Z (I J hi)) N).run prog W=.ok (H (cD A a lo) (hi-lo) (a-lo)) W:=by
 have hu:=underlying33;have he:prog.elem 33=3:=oK_;obtain⟨i,b,_,hs,_⟩:=info_parts cU;rw[run_sliceAt_slice (h:=by rw[he];exact hu),run_slice_lh (ht:=by rw[he];exact hu) (h0:=O) (h1:=O) (h2:=O)];simp[sizeOf,typeInfo,he,b,hs,sliced,cD]
theorem uN(A:Oa)(n a hi:Nat)(h2:hi<=a)(W:Wv):(Instr.sliceAt 33 (H A n a) N (Z (I J hi)) N).run prog W=.ok (H (cD A a 0) (hi-0) (a-0)) W:=by
 have hu:=underlying33;have he:prog.elem 33=3:=oK_;obtain⟨i,b,_,hs,_⟩:=info_parts cU;rw[run_sliceAt_slice (h:=by rw[he];exact hu),run_slice_h (ht:=by rw[he];exact hu) (h0:=O) (h2:=O)];simp[sizeOf,typeInfo,he,b,hs,sliced,cD]
theorem oG(A:Oa)(n a lo:Nat)(h1:lo<=n)(W:Wv):(Instr.sliceAt 33 (H A n a) (Z (I J lo)) N N).run prog W=.ok (H (cD A a lo) (n-lo) (a-lo)) W:=by
 have hu:=underlying33;have he:prog.elem 33=3:=oK_;obtain⟨i,b,_,hs,_⟩:=info_parts cU;rw[run_sliceAt_slice (h:=by rw[he];exact hu),run_slice_l (ht:=by rw[he];exact hu) (h0:=O) (h1:=O)];simp[sizeOf,typeInfo,he,b,hs,sliced,cD]
end
end Go.Proofs.YtkhmjidaeliccaaGreatDoor
