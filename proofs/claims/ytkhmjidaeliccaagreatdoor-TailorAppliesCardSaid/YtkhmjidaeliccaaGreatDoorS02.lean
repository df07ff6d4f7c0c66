import Derived.Test.YtkhmjidaeliccaaGreatDoorS01
import Derived.Deep.RegionHeld3
set_option maxRecDepth 100000
set_option maxHeartbeats 51200000
namespace Go.Proofs.YtkhmjidaeliccaaGreatDoor
open Option renaming none->N,some->Z
open Value renaming int->I,slice->H
open IntKind renaming i64->J
open Go.Proofs.Tryz
section
section
variable (on:Int->Option (Li))(cap:Int)
def dK(vs:Li):Int:=vs.foldl (λs v=>min (s+v) cap) 0
theorem J_(vs:Li)(v:Int):dK cap (vs++[v])=min (dK cap vs+v) cap:=by simp[dK,List.foldl_append]
inductive Sz:Int->Int->Prop
 |leaf {c:Int}:on c=N\/on c=Z []->Sz c 1
 |node {c:Int} {toq vs:Li}:on c=Z toq->toq≠[]->vs.length=toq.length->(∀i,(hi:i<toq.length)->(hv:i<vs.length)->Sz toq[i] vs[i])->Sz c (dK cap vs)
def kG(c d:Int):Prop:=∃toq,on c=Z toq/\d∈toq
inductive cK:Int->Int->Prop
 |one {c d:Int}:kG on c d->cK c d
 |more {c d e:Int}:cK c d->kG on d e->cK c e
end
section
variable {on:Int->Option (Li)}{cap:Int}
theorem cK.front{c d e:Int}(h:kG on c d)(p:cK on d e):cK on c e:=by
 induction p with
 |one h2=>exact .more (.one h) h2
 |more _ h2 ih=>exact .more ih h2
theorem cK.head{c e:Int}(p:cK on c e):kG on c e\/∃d,kG on c d/\cK on d e:=by
 induction p with
 |one h=>exact .inl h
 |more p h ih=>
  rcases ih with a|⟨x,a,b⟩
  ·exact .inr ⟨_,a,.one h⟩
  exact .inr ⟨x,a,.more b h⟩
theorem Sz.func{c v:Int}(h:Sz on cap c v):∀{v'},Sz on cap c v'->v=v':=by
 induction h with
 |leaf h=>
  intro v' a;cases a with
  |leaf _=>rfl
  |node h1 h2 _ _=>
   rcases h with h|h
   ·rw[h]at h1;cases h1
   rw[h]at h1;injection h1 with h1;exact absurd h1.symm h2
 |node h1 h2 h3 _ ih=>
  intro v' a;cases a with
  |leaf h=>
   rcases h with h|h
   ·rw[h]at h1;cases h1
   rw[h]at h1;injection h1 with h1;exact absurd h1.symm h2
  | @node _ toq vs' g1 g2 g3 g4=>
   rw[h1]at g1;injection g1 with g1;subst g1;congr 1;refine List.ext_getElem O λi hi hi'=>?_
   exact ih i O hi (g4 i O hi')
theorem Sz.succ{c d v:Int}(h:Sz on cap c v)(e:kG on c d):∃u,Sz on cap d u:=by
 obtain⟨f,a,b⟩:=e;cases h with
 |leaf h=>
  rcases h with h|h
  ·rw[h]at a;cases a
  rw[h]at a;injection a with a;subst a;cases b
 | @node _ to' vs g1 g2 g3 g4=>
  rw[a]at g1;injection g1 with g1;subst g1;obtain⟨i,hi,rfl⟩:=List.getElem_of_mem b;exact⟨_,g4 i hi O⟩
theorem Sz.noway{c v:Int}(h:Sz on cap c v):¬cK on c c:=by
 have k:∀{c v:Int},Sz on cap c v->∀d,cK on c d->¬cK on d c:=by
  intro c v h;induction h with
  |leaf h=>
   intro d p _;rcases p.head with⟨g,b,j⟩|⟨x,⟨g,b,j⟩,_⟩
   all_goals
    rcases h with h|h
    ·rw[h]at b;cases b
    rw[h]at b;injection b with b;subst b;cases j
  | @node c g vs b j h3 _ ih=>
   intro d p q
   have a:∀x,kG on c x->∀y,cK on x y->¬cK on y x:=λx⟨to',g1,g2⟩ y=>by
    rw[b]at g1;injection g1 with g1;subst g1;obtain⟨i,hi,rfl⟩:=List.getElem_of_mem g2;exact ih i hi O y
   rcases p.head with e|⟨x,e,l⟩
   ·rcases q.head with f|⟨y,f,m⟩
    ·exact a d e c (.one f) (.one e)
    exact a d e c q (.one e)
   have n:cK on d x:=by
    rcases q.head with f|⟨y,f,m⟩
    ·exact .front f (.one e)
    exact .more q e
   exact a x e d l n
 exact λp=>k h c p p
theorem rU{vs:Li}(hc:1<=cap)(h:∀v∈vs,1<=v)(hne:vs≠[]):1<=dK cap vs/\dK cap vs<=cap:=by
 have:∀(l:Li)(s:Int),(∀v∈l,1<=v)->0<=s->s<=cap->(l≠[]\/1<=s)->1<=l.foldl (λs v=>min (s+v) cap) s/\l.foldl (λs v=>min (s+v) cap) s<=cap:=by
  intro l;induction l with
  |nil=>intro s _ c b a;rcases a with a|a;exact absurd rfl a;exact⟨a,b⟩
  |cons x l ih=>
   intro s hl c b _;have hx:=hl x L;exact ih _ (λv hv=>hl v (by simp[hv])) oD_ oD_ (.inr oD_)
 exact this vs 0 h O O (.inl hne)
theorem Sz.bd{c v:Int}(hc:1<=cap)(h:Sz on cap c v):1<=v/\v<=cap:=by
 induction h with
 |leaf _=>exact⟨O,hc⟩
 |node h1 h2 h3 _ ih=>
  refine rU hc (λv hv=>?_) (by rintro rfl;simp at h3;exact h2 (List.eq_nil_of_length_eq_zero h3.symm));obtain⟨i,hi,rfl⟩:=List.getElem_of_mem hv;exact(ih i O hi).1
end
section
variable (n:Nat)(frm:Nat->Int)(toq:Nat->Li)(fnd:Int->Option Nat)(dl:Int->Int)(cap:Int)
def jB(T:List Bool)(i:Nat):Bool:=(toq i).all (λe=>match fnd e with|none=>true|some m=>T.getD m false)
def aR(T:List Bool)(i:Nat):List Bool:=T.set i (jB toq fnd T i)
def jE(L:Li)(e:Int):Int:=match fnd e with|none=>dl e|some m=>L.getD m 0
def lN(L:Li)(i:Nat):Int:=min (max ((toq i).map (jE fnd dl L)).sum 1) cap
def dW(skip:Nat->Bool)(L:Li)(i:Nat):Li:=L.set i (if skip i=true then 1 else lN toq fnd dl cap L i)
end
section
variable {n:Nat}{frm:Nat->Int}{toq:Nat->Li}{fnd fnd':Int->Option Nat}{dl:Int->Int}{cap:Int}{on on':Int->Option (Li)}{skip:Nat->Bool}
theorem rT{vs:Li}(h:∀v∈vs,0<=v)(hc:0<=cap):dK cap vs=min vs.sum cap:=by
 have:∀(l:Li)(s:Int),(∀v∈l,0<=v)->0<=s->s<=cap->l.foldl (λs v=>min (s+v) cap) s=min (s+l.sum) cap:=by
  intro l;induction l with
  |nil=>intro s _ _ h;simp;omega
  |cons x l ih=>
   intro s hl b c;have hx:=hl x L;have hp:0<=l.sum:=by
    clear ih;have a:∀v∈l,0<=v:=λv hv=>hl v (by simp[hv])
    clear hl;induction l with
    |nil=>simp
    |cons y l ih=>rw[List.sum_cons];have:=a y L;have:=ih (λv hv=>a v (by simp[hv]));omega
   rw[List.foldl_cons,ih _ (λv hv=>hl v (by simp[hv])) O O,List.sum_cons];omega
 have:=this vs 0 h O hc;simpa[dK]using this
theorem EM{l:Li}(h:∀v∈l,0<=v):0<=l.sum:=by
 induction l with
 |nil=>simp
 |cons y l ih=>rw[List.sum_cons];have:=h y L;have:=ih (λv hv=>h v (by simp[hv]));omega
theorem Z_{l:Li}(h:∀v∈l,1<=v)(hne:l≠[]):1<=l.sum:=by
 cases l with
 |nil=>exact absurd rfl hne
 |cons y l=>rw[List.sum_cons];have:=h y L;have:=EM (l:=l) (λv hv=>by have:=h v (by simp[hv]);omega);omega
structure vD(n:Nat)(frm:Nat->Int)(toq:Nat->Li)(fnd:Int->Option Nat)(dl:Int->Int)(cap:Int)(on:Int->Option (Li))(skip:Nat->Bool):Prop where
 cap1:1<=cap
 at_:∀i,i<n->skip i=false->on (frm i)=Z (toq i)
 sk:∀i,i<n->skip i=true->on (frm i)=N
 fd:∀e m,fnd e=Z m->m<n/\frm m=e
 no:∀e,fnd e=N->Sz on cap e (dl e)
theorem YC(M:vD n frm toq fnd dl cap on skip)(hsub:∀e m,fnd e=Z m->fnd' e=Z m)(s:List Nat)(hs:∀i∈s,i<n):
  ∀i,i<n->(s.foldl (aR toq fnd') (List.replicate n false)).getD i false=true->∃v,Sz on cap (frm i) v/\(s.foldl (dW toq fnd dl cap skip) (List.replicate n 0)).getD i 0=v:=by
 have d:∀s:List Nat,(s.foldl (aR toq fnd') (List.replicate n false)).length=n:=by
  intro s;have:∀(s:List Nat)(T:List Bool),T.length=n->(s.foldl (aR toq fnd') T).length=n:=by
   intro s;induction s with
   |nil=>intro T h;exact h
   |cons x s ih=>intro T h;exact ih _ (by simp[aR,h])
  exact this s _ oL_
 have f:∀s:List Nat,(s.foldl (dW toq fnd dl cap skip) (List.replicate n 0)).length=n:=by
  intro s;have:∀(s:List Nat)(T:Li),T.length=n->(s.foldl (dW toq fnd dl cap skip) T).length=n:=by
   intro s;induction s with
   |nil=>intro T h;exact h
   |cons x s ih=>intro T h;exact ih _ (by simp[dW,h])
  exact this s _ oL_
 have r:∀k(s:List Nat),s.length=k->(∀i∈s,i<n)->∀i,i<n->(s.foldl (aR toq fnd') (List.replicate n false)).getD i false=true->∃v,Sz on cap (frm i) v/\(s.foldl (dW toq fnd dl cap skip) (List.replicate n 0)).getD i 0=v:=by
  intro k;induction k with
  |zero=>
   intro s hk _ i hi h;have:s=[]:=List.eq_nil_of_length_eq_zero hk;subst this;simp[List.getD,hi]at h
  |succ k ih=>
   intro s hk hs i hi h;obtain⟨b,x,rfl⟩:∃b x,s=b++[x]:=⟨s.dropLast,s.getLast (by rintro rfl;simp at hk),(List.dropLast_concat_getLast _).symm⟩;have q:∀i∈b,i<n:=λj hj=>hs j (by simp[hj])
   have hx:x<n:=hs x oL_;have t:=ih b (by simpa using hk) q;rw[List.foldl_append]at h|-;simp only[List.foldl_cons,List.foldl_nil]at h|-;have y:=d b;have z:=f b;generalize b.foldl (aR toq fnd') (List.replicate n false)=T at *;generalize b.foldl (dW toq fnd dl cap skip) (List.replicate n 0)=L at *;by_cases e:x=i
   ·subst e
    have o:jB toq fnd' T x=true:=by
     simpa[aR,List.getD,y,hi]using h
    have w:(dW toq fnd dl cap skip L x).getD x 0=if skip x=true then 1 else lN toq fnd dl cap L x:=by
     simp[dW,List.getD,z,hi]
    rw[w];cases hsk:skip x with
    |true=>exact⟨1,.leaf (.inl (M.sk x hi hsk)),oL_⟩
    |false=>
     simp only[Bool.false_eq_true,if_false]
     have g:∀e∈toq x,Sz on cap e (jE fnd dl L e):=λe he=>by
      unfold jE;cases hf:fnd e with
      |none=>exact M.no e hf
      |some m=>
       obtain⟨hm,p⟩:=M.fd e m hf;have:=List.all_eq_true.1 o e he;rw[hsub e m hf]at this;obtain⟨v,c,l⟩:=t m hm this;rw[p]at c;rw[<-l]at c;exact c
     by_cases hto:toq x=[]
     ·refine⟨1,.leaf (.inr (by rw[M.at_ x hi hsk,hto])),?_⟩
      unfold lN;rw[hto];have:=M.cap1;simp;omega
     refine⟨dK cap ((toq x).map (jE fnd dl L)),.node (M.at_ x hi hsk) hto oL_ (λj hj hv=>?_),?_⟩
     ·simp only[List.getElem_map]
      exact g _ (List.getElem_mem hj)
     have a:∀v∈(toq x).map (jE fnd dl L),1<=v:=λv hv=>by
      obtain⟨e,he,rfl⟩:=List.mem_map.1 hv;exact((g e he).bd M.cap1).1
     have c:=Z_ a (by simpa using hto);rw[rT (λv hv=>by have:=a v hv;omega) (by have:=M.cap1;omega)];unfold lN;rw[Int.max_eq_left c]
   have o:T.getD i false=true:=by
    simpa[aR,List.getD,List.getElem?_set,e]using h
   obtain⟨v,c,l⟩:=t i hi o;refine⟨v,c,?_⟩;rw[<-l];simp[dW,List.getD,e]
 exact r s.length s rfl hs
end
section
variable {n:Nat}{toq:Nat->Li}{fnd:Int->Option Nat}
def mM(toq:Nat->Li)(fnd:Int->Option Nat)(T:List Bool):Prop:=∀i,T.getD i false=true->jB toq fnd T i=true
def LeB(T T':List Bool):Prop:=T.length=T'.length/\∀i,T.getD i false=true->T'.getD i false=true
theorem LeB.refl(T:List Bool):LeB T T:=⟨rfl,λ_ h=>h⟩
theorem LeB.trans{a b c:List Bool}(h:LeB a b)(k:LeB b c):LeB a c:=⟨h.1.trans k.1,λi hi=>k.2 i (h.2 i hi)⟩
theorem LeB.antisymm{a b:List Bool}(h:LeB a b)(k:LeB b a):a=b:=by
 refine List.ext_getElem h.1 λi h1 h2=>?_
 have c:a.getD i false=a[i]:=by simp[List.getD,List.getElem?_eq_getElem h1]
 have d:b.getD i false=b[i]:=by simp[List.getD,List.getElem?_eq_getElem h2]
 have p:=h.2 i;have q:=k.2 i;rw[c,d]at p q;cases ha:a[i]<;>cases hb:b[i]<;>simp_all
theorem NJ{T T':List Bool}(h:LeB T T')(i:Nat)(hi:jB toq fnd T i=true):jB toq fnd T' i=true:=by
 unfold jB at *;rw[List.all_eq_true]at *;intro e he;have:=hi e he;cases hf:fnd e with
 |none=>rfl
 |some m=>rw[hf]at this;exact h.2 m this
theorem sQ{T:List Bool}{i j:Nat}{x:Bool}(hi:i<T.length):(T.set i x).getD j false=if i=j then x else T.getD j false:=by
 by_cases e:i=j
 ·subst e;simp[List.getD,hi]
 simp[List.getD,e]
theorem xM{T:List Bool}(hc:mM toq fnd T){i:Nat}(hi:i<T.length):LeB T (aR toq fnd T i)/\mM toq fnd (aR toq fnd T i):=by
 have a:LeB T (aR toq fnd T i):=by
  refine⟨by simp[aR],λj hj=>?_⟩;unfold aR;rw[sQ hi];split
  ·next e=>subst e;exact hc i hj
  exact hj
 refine⟨a,λj hj=>NJ a j ?_⟩;unfold aR at hj;rw[sQ hi]at hj;split at hj
 ·next e=>subst e;exact hj
 exact hc j hj
theorem nV{s:List Nat}:∀{T:List Bool},mM toq fnd T->(∀i∈s,i<T.length)->LeB T (s.foldl (aR toq fnd) T)/\mM toq fnd (s.foldl (aR toq fnd) T):=by
 induction s with
 |nil=>intro T hc _;exact⟨LeB.refl _,hc⟩
 |cons x s ih=>
  intro T hc hs;obtain⟨a,b⟩:=xM hc (hs x L);obtain⟨c,d⟩:=ih b (λi hi=>by rw[<-a.1];exact hs i (by simp[hi]));exact⟨a.trans c,d⟩
theorem OB{T:List Bool}(hc:mM toq fnd T)(hl:T.length=n)(he:(List.range n).foldl (aR toq fnd) T=T){i:Nat}(hi:i<n):T.getD i false=jB toq fnd T i:=by
 have f:List.range n=List.range i++i::(List.range n).drop (i+1):=by
  have o:(List.range n).take i=List.range i:=by rw[List.take_range];congr 1;omega
  have p:(List.range n).drop i=i::(List.range n).drop (i+1):=by
   rw[List.drop_eq_getElem_cons (by simpa using hi)];simp
  rw[<-o,<-p,List.take_append_drop]
 have e:∀j∈List.range n,j<T.length:=λj hj=>by rw[hl];exact List.mem_range.1 hj
 rw[f,List.foldl_append,List.foldl_cons]at he;obtain⟨d,g⟩:=nV (s:=List.range i) hc (λj hj=>by rw[hl];have:=List.mem_range.1 hj;omega);have a:i<((List.range i).foldl (aR toq fnd) T).length:=by rw[<-d.1,hl];exact hi
 obtain⟨b,h⟩:=xM g a;obtain⟨c,q⟩:=nV (s:=(List.range n).drop (i+1)) h (λj hj=>by rw[<-b.1,<-d.1];exact e j (List.mem_of_mem_drop hj));rw[he]at c;have k:(List.range i).foldl (aR toq fnd) T=T:=LeB.antisymm (b.trans c) d;rw[k]at b c a;have m:aR toq fnd T i=T:=LeB.antisymm c b;have:=congrArg (λl:List Bool=>l.getD i false) m;unfold aR at this;rw[sQ a,if_pos rfl]at this;exact this.symm
theorem xC{T T':List Bool}(h:LeB T T')(hne:¬T=T'):T.count true<T'.count true:=by
 induction T generalizing T' with
 |nil=>
  have:=h.1;cases T' with
  |nil=>exact absurd rfl hne
  |cons _ _=>simp at this
 |cons x T ih=>
  cases T' with
  |nil=>have:=h.1;simp at this
  |cons y T'=>
   have hl:LeB T T':=⟨by have:=h.1;simpa using this,λi hi=>by have:=h.2 (i+1);simpa[List.getD]using this (by simpa[List.getD]using hi)⟩;have b:=h.2 0;simp only[List.getD,List.getElem?_cons_zero,Option.getD_some]at b;have c:T.count true<=T'.count true:=by
    by_cases e:T=T'
    ·rw[e];exact Nat.le_refl _
    exact Nat.le_of_lt (ih hl e)
   rw[List.count_cons,List.count_cons];cases x with
   |true=>
    rw[b rfl];have a:¬T=T':=λe=>hne (by rw[e,b rfl])
    have:=ih hl a;simp;omega
   |false=>
    cases y with
    |true=>simp;omega
    |false=>
     have a:¬T=T':=λe=>hne (by rw[e])
     have:=ih hl a;simp;omega
def bY(n:Nat)(toq:Nat->Li)(fnd:Int->Option Nat):Nat->List Bool
 |0=>List.replicate n false
 |r+1=>(List.range n).foldl (aR toq fnd) (bY n toq fnd r)
theorem lQ(n:Nat)(toq:Nat->Li)(fnd:Int->Option Nat)(r:Nat):(bY n toq fnd r).length=n/\mM toq fnd (bY n toq fnd r):=by
 induction r with
 | zero=>exact⟨by simp[bY],λi hi=>by
   by_cases h:i<n
   ·simp[bY,List.getD,h]at hi
   ·simp[bY,List.getD,h]at hi⟩
 |succ r ih=>
  obtain⟨a,b⟩:=nV (s:=List.range n) ih.2 (λj hj=>by rw[ih.1];exact List.mem_range.1 hj);exact⟨a.1.symm.trans ih.1,b⟩
theorem XQ(n:Nat)(toq:Nat->Li)(fnd:Int->Option Nat):(List.range n).foldl (aR toq fnd) (bY n toq fnd n)=bY n toq fnd n:=by
 have f:∀r,(List.range n).foldl (aR toq fnd) (bY n toq fnd r)=bY n toq fnd r\/r<=(bY n toq fnd r).count true:=by
  intro r;induction r with
  |zero=>exact .inr (Nat.zero_le _)
  |succ r ih=>
   rcases ih with ih|ih
   ·left
    show(List.range n).foldl (aR toq fnd) ((List.range n).foldl (aR toq fnd) (bY n toq fnd r))=(List.range n).foldl (aR toq fnd) (bY n toq fnd r)
    rw[ih,ih]
   obtain⟨c,d⟩:=lQ n toq fnd r;obtain⟨b,_⟩:=nV (s:=List.range n) d (λj hj=>by rw[c];exact List.mem_range.1 hj);by_cases e:bY n toq fnd r=(List.range n).foldl (aR toq fnd) (bY n toq fnd r)
   ·left
    show(List.range n).foldl (aR toq fnd) ((List.range n).foldl (aR toq fnd) (bY n toq fnd r))=(List.range n).foldl (aR toq fnd) (bY n toq fnd r)
    rw[<-e,<-e]
   right;have:=xC b e;show r+1<=((List.range n).foldl (aR toq fnd) (bY n toq fnd r)).count true
   omega
 rcases f n with h|h
 ·exact h
 obtain⟨c,d⟩:=lQ n toq fnd n;obtain⟨b,_⟩:=nV (s:=List.range n) d (λj hj=>by rw[c];exact List.mem_range.1 hj);by_cases e:bY n toq fnd n=(List.range n).foldl (aR toq fnd) (bY n toq fnd n)
 ·exact e.symm
 have i:=xC b e;have g:=List.count_le_length (a:=true) (l:=(List.range n).foldl (aR toq fnd) (bY n toq fnd n));rw[<-b.1,c]at g;omega
theorem XO{frm:Nat->Int}{on:Int->Option (Li)}{cap:Int}(hat:∀i,i<n->on (frm i)=Z (toq i))(hfd:∀e m,fnd e=Z m->m<n/\frm m=e)(hall:∀i,i<n->∃v,Sz on cap (frm i) v):
  ∀i,i<n->(bY n toq fnd n).getD i false=true:=by
 obtain⟨g,f⟩:=lQ n toq fnd n;have a:=λi(hi:i<n)=>OB f g (XQ n toq fnd) hi
 have d:∀{c v:Int},Sz on cap c v->∀i,i<n->frm i=c->(bY n toq fnd n).getD i false=true:=by
  intro c v h;induction h with
  |leaf h=>
   intro i hi hc;subst hc;rw[a i hi];rcases h with h|h
   ·rw[hat i hi]at h;cases h
   rw[hat i hi]at h;injection h with h;unfold jB;rw[h];rfl
  | @node c to' vs h1 h2 h3 h4 ih=>
   intro i hi hc;subst hc;rw[hat i hi]at h1;injection h1 with h1;rw[a i hi];unfold jB;rw[List.all_eq_true];intro e he;cases hf:fnd e with
   |none=>rfl
   |some m=>
    obtain⟨hm,b⟩:=hfd e m hf;rw[h1]at he;obtain⟨j,hj,rfl⟩:=List.getElem_of_mem he;exact ih j hj O m hm b
 intro i hi;obtain⟨v,h⟩:=hall i hi;exact d h i hi rfl
end
section
structure fP(on:Int->Option (Li))(cap mx:Int)(mk:Int->Option Int)(cyc lng:Bool):Prop where
 bd:∀c k,mk c=Z k->-1<=k/\k<=cap
 fin:cyc=false->∀c k,mk c=Z k->k≠-1->Sz on cap c k
 cy:cyc=true->∃x,cK on x x
 lg1:lng=true->∃c k,mk c=Z k/\mx<k
 lg2:∀c k,mk c=Z k->mx<k->lng=true
 nd:∀c k,mk c=Z k->∃toq,on c=Z toq/\toq≠[]
structure eV(mk mk':Int->Option Int):Prop where
 old:∀c k,mk c=Z k->mk' c=Z k
 new:∀c,mk c=N->mk' c≠Z (-1)
variable {on:Int->Option (Li)}{cap mx:Int}{mk mk' mk'':Int->Option Int}{cyc lng cyc':Bool}
theorem eV.refl(mk:Int->Option Int):eV mk mk:=⟨λ_ _ h=>h,λc h e=>by rw[h]at e;cases e⟩
theorem eV.trans(h:eV mk mk')(k:eV mk' mk''):eV mk mk'':=by
 refine⟨λc v e=>k.old c v (h.old c v e),λc e e'=>?_⟩;cases hm:mk' c with
 |none=>exact k.new c hm e'
 |some v=>
  have:=k.old c v hm;rw[e']at this;injection this with this;subst this;exact h.new c e hm
def dR(mk:Int->Option Int)(c k:Int):Int->Option Int:=λx=>if x=c then Z k else mk x
theorem iX(mk:Int->Option Int)(c k:Int):dR mk c k c=Z k:=by simp[dR]
theorem eS(mk:Int->Option Int){c x:Int}(k:Int)(h:¬x=c):dR mk c k x=mk x:=by simp[dR,h]
theorem fP.begin(h:fP on cap mx mk cyc lng){c:Int}{toq:Li}(hc:on c=Z toq)(ht:toq≠[])(hn:mk c=N)(hcap:1<=cap)(hmx:0<=mx):fP on cap mx (dR mk c (-1)) cyc lng:=by
 refine⟨λx k hx=>?_,λhf x k hx hk=>?_,h.cy,λhl=>?_,λx k hx hk=>?_,λx k hx=>?_⟩
 ·by_cases e:x=c
  ·subst e;rw[iX]at hx;injection hx with hx;omega
  rw[eS mk _ e]at hx;exact h.bd x k hx
 ·by_cases e:x=c
  ·subst e;rw[iX]at hx;injection hx with hx;exact absurd hx.symm hk
  rw[eS mk _ e]at hx;exact h.fin hf x k hx hk
 ·obtain⟨x,k,a,b⟩:=h.lg1 hl
  refine⟨x,k,?_,b⟩;rw[eS mk _ (λe=>by rw[e,hn]at a;cases a)];exact a
 ·by_cases e:x=c
  ·subst e;rw[iX]at hx;injection hx with hx;omega
  rw[eS mk _ e]at hx;exact h.lg2 x k hx hk
 by_cases e:x=c
 ·subst e;exact⟨toq,hc,ht⟩
 rw[eS mk _ e]at hx;exact h.nd x k hx
theorem fP.finish(h:fP on cap mx mk cyc lng){c s:Int}{toq:Li}(hc:on c=Z toq)(ht:toq≠[])(hm:mk c=Z (-1))(hs:1<=s/\s<=cap)(hz:cyc=false->Sz on cap c s)(hmx:0<=mx):
  fP on cap mx (dR mk c s) cyc (lng||decide (mx<s)):=by
 refine⟨λx k hx=>?_,λhf x k hx hk=>?_,h.cy,λhl=>?_,λx k hx hk=>?_,λx k hx=>?_⟩
 ·by_cases e:x=c
  ·subst e;rw[iX]at hx;injection hx with hx;omega
  rw[eS mk _ e]at hx;exact h.bd x k hx
 ·by_cases e:x=c
  ·subst e;rw[iX]at hx;injection hx with hx;subst hx;exact hz hf
  rw[eS mk _ e]at hx;exact h.fin hf x k hx hk
 ·rw[Bool.or_eq_true,decide_eq_true_eq]at hl
  rcases hl with hl|hl
  ·obtain⟨x,k,a,b⟩:=h.lg1 hl
   refine⟨x,k,?_,b⟩;rw[eS mk _ (λe=>by rw[e,hm]at a;injection a with a;omega)];exact a
  exact⟨c,s,iX mk c s,hl⟩
 ·rw[Bool.or_eq_true,decide_eq_true_eq]
  by_cases e:x=c
  ·subst e;rw[iX]at hx;injection hx with hx;right;omega
  rw[eS mk _ e]at hx;exact .inl (h.lg2 x k hx hk)
 by_cases e:x=c
 ·subst e;exact⟨toq,hc,ht⟩
 rw[eS mk _ e]at hx;exact h.nd x k hx
theorem fP.meet(h:fP on cap mx mk cyc lng){c k:Int}(hm:mk c=Z k)(hp:mk c=Z (-1)->cK on c c):fP on cap mx mk (cyc||(k==-1)) lng:=by
 refine⟨h.bd,λhf=>h.fin (by simp at hf;exact hf.1),λhc=>?_,h.lg1,h.lg2,h.nd⟩;rw[Bool.or_eq_true]at hc;rcases hc with hc|hc
 ·exact h.cy hc
 simp at hc;subst hc;exact⟨c,hp hm⟩
def unmarked(fs:Li)(mk:Int->Option Int):Nat:=(fs.filter (λf=>(mk f).isNone)).length
theorem qH{fs:Li}(h:∀c,mk' c=N->mk c=N):unmarked fs mk'<=unmarked fs mk:=by
 unfold unmarked;induction fs with
 |nil=>simp
 |cons f fs ih=>
  rw[List.filter_cons,List.filter_cons];by_cases h1:mk' f=N
  ·rw[if_pos (by simp[h1]),if_pos (by simp[h f h1])];simpa using ih
  rw[if_neg (by simpa using h1)];split
  ·simp;omega
  exact ih
theorem eV.unmarked(h:eV mk mk')(fs:Li):Go.Proofs.YtkhmjidaeliccaaGreatDoor.unmarked fs mk'<=Go.Proofs.YtkhmjidaeliccaaGreatDoor.unmarked fs mk:=qH λc e=>by
 cases hm:mk c with
 |none=>rfl
 |some v=>rw[h.old c v hm]at e;cases e
theorem FK{fs:Li}{c k:Int}(hf:c∈fs)(hn:mk c=N):unmarked fs (dR mk c k)<unmarked fs mk:=by
 have b:∀l:Li,unmarked l (dR mk c k)<=unmarked l mk:=λl=>qH λx e=>by
  by_cases e':x=c
  ·subst e';exact hn
  rw[eS mk _ e']at e;exact e
 induction fs with
 |nil=>cases hf
 |cons f fs ih=>
  have d:=b fs;unfold unmarked at *;rw[List.filter_cons,List.filter_cons];by_cases e:f=c
  ·subst e
   rw[if_neg (by simp[iX]),if_pos (by simp[hn])];simp;omega
  have a:c∈fs:=by
   rcases List.mem_cons.1 hf with h|h
   ·exact absurd h.symm e
   exact h
  have:=ih a;by_cases hm:mk f=N
  ·rw[if_pos (by simp[eS mk _ e,hm]),if_pos (by simp[hm])];simpa using this
  rw[if_neg (by simpa[eS mk _ e]using hm),if_neg (by simpa using hm)];exact this
end
end
section
open Go.RowKit
section
variable {P:Program}{f:FuncId}{args:Array Value}{w:Wv}{a n:Nat}{v:Value}
theorem VQ(h:Calls P f args (w.drewN (a+n)) λe w'=>e=.returned v/\w.drewN (a+n)=w'):Calls P f args (w.drewN (a+n)) λe w''=>e=.returned v/\∃m,w''=w.drewN (a+m):=
 h.mono λ_ _⟨he,hm⟩=>⟨he,n,hm.symm⟩
theorem oF(h:Calls P f args (w.drewN n) λe w'=>e=.returned v/\Qt (w.drewN n) w'):Calls P f args (w.drewN n) λe w''=>e=.returned v/\∃m,w''=w.drewN m:=
 h.mono λ_ _⟨he,q,hm⟩=>⟨he,n+q,by rw[hm,World.drewN_drewN]⟩
end
def dM(x y:Int):Int:=if x<y then -1 else if y<x then 1 else 0
theorem tH(x:Int)(w:Wv):Calls prog 168 #[I J x] w λe w'=>e=.returned (.bool false)/\w=w':=by
 have h:(x !=x)=false:=L;go_enter func168,ntmps168;go_wp2;go_ret;exact⟨rfl,rfl⟩
theorem mA(x y:Int)(w:Wv):Calls prog 124 #[I J x,I J y] w λe w'=>e=.returned (I J (dM x y))/\w=w':=by
 unfold dM;by_cases h1:x<y
 ·rw[if_pos h1]
  go_enter func124,ntmps124;go_wp2_with(go_at_call 168;refine(tH _ _).mono ?_;rintro e w' ⟨rfl,rfl⟩);go_ret;exact⟨rfl,rfl⟩
 rw[if_neg h1];by_cases h2:y<x
 ·rw[if_pos h2]
  go_enter func124,ntmps124;go_wp2_with(go_at_call 168;refine(tH _ _).mono ?_;rintro e w' ⟨rfl,rfl⟩);go_ret;exact⟨rfl,rfl⟩
 rw[if_neg h2];go_enter func124,ntmps124;go_wp2_with(go_at_call 168;refine(tH _ _).mono ?_;rintro e w' ⟨rfl,rfl⟩);go_ret;exact⟨rfl,rfl⟩
theorem LR(xs ys:Li)(k:Nat)(h:k=xs.length\/k=ys.length)(h1:k<=xs.length)(h2:k<=ys.length):aE (xs.drop k) (ys.drop k)=dM (xs.length:Int) (ys.length:Int):=by
 rw[sD xs ys k h h1 h2];unfold dM;simp only[Int.ofNat_lt]
theorem LT(xs ys:Li)(k:Nat)(h1:k<xs.length)(h2:k<ys.length)(h:xs[k]≠ys[k]):aE (xs.drop k) (ys.drop k)=dM xs[k] ys[k]:=by
 rw[r_ xs ys k h1 h2];unfold dM;split
 ·rfl
 split
 ·rfl
 omega
theorem xD(A B:Oa)(n m c d:Nat)(xs ys:Li)(w:Wv)(hA:aA w A xs)(hB:aA w B ys)(hn:xs.length=n)(hm:ys.length=m)
  (hn':n<=9223372036854775807) (hm':m<=9223372036854775807) :
  Calls prog 70 #[H A n c,H B m d] w λe w'=>e=.returned (I J (aE xs ys))/\Qt w w':=by
 subst hn hm;go_enter func70,ntmps70;go_wp2_with fail
 all_goals
  go_loopw [5,11] (λ_ i wr=>∃k:Nat,k<=xs.length/\k<=ys.length/\i=I J k/\Qt w wr/\aE xs ys=aE (xs.drop k) (ys.drop k)) (λ_ i _=>xs.length-(intOf i).toNat)
  case atStart=>exact⟨0,Nat.zero_le _,Nat.zero_le _,rfl,Qt.refl _,rfl⟩
  obtain⟨k,p,r,rfl,⟨q,rfl⟩,f⟩:=hrel;have l:=G f;clear f;by_cases hlt:k<xs.length/\k<ys.length
  ·obtain⟨h,j⟩:=hlt
   obtain⟨b,o,rfl,hc⟩:=hA.at h;obtain⟨C,D,rfl,g⟩:=hB.at j;have hx:=hc k h;have hy:=g k j;have z:=G (r_ xs ys k h j);have v:=G (LT xs ys k h j);clear hc g;generalize xs[k]=x at *;generalize ys[k]=y at *;by_cases hxy:x=y
   ·have s:(x !=y)=false:=by simpa using hxy
    have a:=G hxy;clear hxy;go_wp2;go_quiet(fail);go_wp2;go_roundw
    case rel=>exact⟨k+1,O,O,oN_,by repeat(first|exact Qt.refl _|refine Qt.drewN ?_ _),by rw[l.o,z.o,if_neg (by have:=a.o;omega),if_neg (by have:=a.o;omega)]⟩
    exact oI_
   have s:(x !=y)=true:=by simpa using hxy
   have a:=G hxy;clear hxy;go_wp2;go_quiet(fail);go_wp2;go_quiet((go_at_call 124;exact VQ (mA _ _ _)));go_wp2;go_ret;exact⟨aH (by rw[l.o,v.o a.o]),by repeat(first|exact Qt.refl _|refine Qt.drewN ?_ _)⟩
  have t:=G (LR xs ys k O p r);go_wp2_with fail;refine(mA _ _ _).mono ?_;rintro e w' ⟨rfl,rfl⟩;go_wp2;go_ret;exact⟨aH (by rw[l.o,t.o]),by repeat(first|exact Qt.refl _|refine Qt.drewN ?_ _)⟩
end
section
section
variable {P:Program}{ops:Array Oper}{Q:Exit->Act->Wv->Prop}{md:Region.Mode}{S:Wv->Prop}
theorem fJ{i:Nat}{oi:Oper}{v:Value}{fuel:Nat}{listed:Array Bool}{a:Act}{w:Wv}(d:Option Tmp)(hi:ops[i]?=Z oi)(hd:oi.dst=d)
  (hs:Region.noSelect ops=true) (hf:Region.free md ops listed i=true) (hr:(Region.ready md ops listed).contains i=true)
  (hQ:∀c a w,Q (.panic c) (a.put d v) w->Q (.panic c) a w) (hw:Region.wanted oi (yielded ops a.tmps)=true) (hS:S w) (hv:∀w,S w->(execOp a.eval oi).run P w=.ok (.value v) w)
  (h:wpAnyH P md ops Q S fuel (listed.setIfInBounds i true) (a.put d v) w):wpAnyH P md ops Q S (fuel+1) listed a w:=by
 subst hd;exact wpAnyH_take hi hs hf hr hQ (Or.inl ⟨hw,hv⟩) hS h
theorem IZ{i:Nat}{oi:Oper}{fuel:Nat}{listed:Array Bool}{a:Act}{w:Wv}(d:Option Tmp)(hi:ops[i]?=Z oi)(hd:oi.dst=d)
  (hs:Region.noSelect ops=true) (hf:Region.free md ops listed i=true) (hr:(Region.ready md ops listed).contains i=true)
  (hQ:∀c a w,Q (.panic c) (a.put d undef) w->Q (.panic c) a w) (hw:Region.wanted oi (yielded ops a.tmps)=false) (hS:S w)
  (h:wpAnyH P md ops Q S fuel (listed.setIfInBounds i true) (a.put d undef) w):wpAnyH P md ops Q S (fuel+1) listed a w:=by
 subst hd;exact wpAnyH_take hi hs hf hr hQ (Or.inr ⟨hw,rfl⟩) hS h
theorem vP{i:Nat}{oi:Oper}{fuel:Nat}{listed:Array Bool}{a:Act}{w:Wv}(d:Option Tmp){f:FuncId}{args:Array Value}{v:Value}(hi:ops[i]?=Z oi)(hd:oi.dst=d)
  (hr:Region.ready md ops listed=[i]) (hw:Region.wanted oi (yielded ops a.tmps)=true) (he:(execOp a.eval oi).run P w=.ok (.enter f args) w)
  (hc:Calls P f args w (λe w'=>e=.returned v/\S w'))
  (h:∀w',S w'->wpAnyH P md ops Q S fuel (listed.setIfInBounds i true) (a.put d v) w'):wpAnyH P md ops Q S (fuel+1) listed a w:=by
 subst hd;refine wpAnyH_ready hr L (AllReadyH.cons hi (λK hK=>?_) AllReadyH.nil);rw[if_pos hw];unfold Oper.wp;rw[he];simp only[Oper.upon];refine hc.mono ?_;rintro e w' ⟨rfl,b⟩;exact hK.out _ _ b (λhh=>h w' hh)
theorem ED{o:Oper}{a:Act}{w:Wv}{K:Act->Wv->Prop}{G:Act->Wv->Prop}{E:Prop}{R:Value->Wv->Prop}(d:Option Tmp){f:FuncId}{args:Array Value}(hd:o.dst=d)
  (hK:Shut (∀a w,S w->(S w->G a w)->K a w)) (hw:Region.wanted o (yielded ops a.tmps)=true) (he:(execOp a.eval o).run P w=.ok (.enter f args) w)
  (hc:Calls P f args w (λe w'=>∃v,e=.returned v/\S w'/\R v w'))
  (h:∀v w',S w'->R v w'->G (a.put d v) w'):if Region.wanted o (yielded ops a.tmps)=true then Oper.wp P o a w K Q else E:=by
 subst hd;rw[if_pos hw];unfold Oper.wp;rw[he];simp only[Oper.upon];refine hc.mono ?_;rintro e w' ⟨v,rfl,b,c⟩;exact hK.out _ _ b (λhh=>h v w' hh c)
theorem EE{o:Oper}{a:Act}{w w':Wv}{K:Act->Wv->Prop}{G:Act->Wv->Prop}{E:Prop}(d:Option Tmp){v:Value}(hd:o.dst=d)
  (hK:Shut (∀a w,S w->(S w->G a w)->K a w)) (hw:Region.wanted o (yielded ops a.tmps)=true) (he:(execOp a.eval o).run P w=.ok (.value v) w') (hS:S w')
  (h:S w'->G (a.put d v) w'):if Region.wanted o (yielded ops a.tmps)=true then Oper.wp P o a w K Q else E:=by
 subst hd;rw[if_pos hw];unfold Oper.wp;rw[he];simp only[Oper.upon];exact hK.out _ _ hS h
end
section
variable {P:Program}{ops:Array Oper}{Q:Exit->Act->Wv->Prop}{md:Region.Mode}{S:Wv->Prop}
theorem tK{v:Value}(i k:Nat){oi:Oper}{fuel:Nat}{listed l':Array Bool}{a a':Act}{w:Wv}
  (h:wpAnyH P md ops Q S fuel l' a' w) (hi:ops[i]?=Z oi:=by rfl) (hd:oi.dst=Z k:=by rfl)
  (hs:Region.noSelect ops=true:=by kernel_rfl) (hf:Region.free md ops listed i=true:=by kernel_rfl) (hr:(Region.ready md ops listed).contains i=true:=by kernel_rfl)
  (hQ:∀c a w,Q (.panic c) (a.put (Z k) v) w->Q (.panic c) a w:=by exact λ_ _ _ h=>h) (hw:Region.wanted oi (yielded ops a.tmps)=true:=by rfl) (hS:S w:=by assumption)
  (hv:∀w,S w->(execOp a.eval oi).run P w=.ok (.value v) w:=by intro w hSw;(try dsimp only at hSw);go_split_ands;go_simp;try(with_reducible rfl))
  (hl:listed.setIfInBounds i true=l':=by(try simp only[sA,sB,sC]);first|done|rfl)
  (ha:a.put (Z k) v=a':=by(try simp only[Act.put,sA,sB,sC]);first|done|rfl):wpAnyH P md ops Q S (fuel+1) listed a w:=by
 subst hl;subst ha;exact fJ (Z k) hi hd hs hf hr hQ hw hS hv h
theorem sK(i k:Nat){oi:Oper}{fuel:Nat}{listed l':Array Bool}{a a':Act}{w:Wv}
  (h:wpAnyH P md ops Q S fuel l' a' w) (hi:ops[i]?=Z oi:=by rfl) (hd:oi.dst=Z k:=by rfl)
  (hs:Region.noSelect ops=true:=by kernel_rfl) (hf:Region.free md ops listed i=true:=by kernel_rfl) (hr:(Region.ready md ops listed).contains i=true:=by kernel_rfl)
  (hQ:∀c a w,Q (.panic c) (a.put (Z k) undef) w->Q (.panic c) a w:=by exact λ_ _ _ h=>h) (hw:Region.wanted oi (yielded ops a.tmps)=false:=by rfl) (hS:S w:=by assumption)
  (hl:listed.setIfInBounds i true=l':=by(try simp only[sA,sB,sC]);first|done|rfl)
  (ha:a.put (Z k) undef=a':=by(try simp only[Act.put,sA,sB,sC]);first|done|rfl):wpAnyH P md ops Q S (fuel+1) listed a w:=by
 subst hl;subst ha;exact IZ (Z k) hi hd hs hf hr hQ hw hS h
theorem tV(i k:Nat)(v:Value){oi:Oper}{fuel:Nat}{listed:Array Bool}{a:Act}{w:Wv}
  (hv:∀w,S w->(execOp a.eval oi).run P w=.ok (.value v) w) (h:wpAnyH P md ops Q S fuel (listed.setIfInBounds i true) (a.put (Z k) v) w) (hi:ops[i]?=Z oi:=by rfl) (hd:oi.dst=Z k:=by rfl)
  (hs:Region.noSelect ops=true:=by kernel_rfl) (hf:Region.free md ops listed i=true:=by kernel_rfl) (hr:(Region.ready md ops listed).contains i=true:=by kernel_rfl)
  (hQ:∀c a w,Q (.panic c) (a.put (Z k) v) w->Q (.panic c) a w:=by exact λ_ _ _ h=>h) (hw:Region.wanted oi (yielded ops a.tmps)=true:=by rfl) (hS:S w:=by assumption):wpAnyH P md ops Q S (fuel+1) listed a w:=
 fJ (Z k) hi hd hs hf hr hQ hw hS hv h
end
end
section
open Go.RowKit Go.Maps Go.WideMaps
def mR(v:Value):Option (DataW Value×List MemPlace):=Z (.held v,[])
def aV{κ:Type}(P:Program)(k:TypeId)(kl:κ->Lit)(ok:κ->Prop)(w:Wv)(b n:Nat)(f:κ->Option Value):Prop:=
 ∃D:DataW Value,w.ownsMap P k mR b n D/\∀x,ok x->Maps.has D (kl x)=(f x).isSome/\∀z,D.atKey (kl x) (.held z)=.held ((f x).getD z)
section
variable {κ:Type}{P:Program}{k:TypeId}{kl:κ->Lit}{ok:κ->Prop}{w w':Wv}{b n:Nat}{f:κ->Option Value}
theorem aV.made(P:Program)(k:TypeId)(kl:κ->Lit)(ok:κ->Prop)(w:Wv):aV P k kl ok (w.alloc (.map #[] 0)) w.heap.size 0 (λ_=>N):=
 ⟨.map [],World.ownsMap_made w P k mR,λ_ _=>⟨rfl,λ_=>rfl⟩⟩
theorem aV.lt(h:aV P k kl ok w b n f):b<w.heap.size:=h.elim λ_ h=>h.1.lt
theorem aV.kept{row:Option Nat}(h:aV P k kl ok w b n f)(hg:w.grownBy w' row)(hne:Z b≠row):aV P k kl ok w' b n f:=by
 obtain⟨D,a,c⟩:=h;exact⟨D,a.kept hg hne,c⟩
theorem aV.below(h:aV P k kl ok w b n f)(hb:By w w'):aV P k kl ok w' b n f:=
 h.kept (row:=N) ⟨hb.os,hb.tape,hb.output,hb.size,λk hk _=>hb.block k hk⟩ L
theorem aV.alloc(h:aV P k kl ok w b n f)(o:Obj):aV P k kl ok (w.alloc o) b n f:=h.below (ba _ _)
theorem aV.mono(h:aV P k kl ok w b n f){m:Nat}(hm:n<=m):aV P k kl ok w b m f:=by
 obtain⟨D,a,c⟩:=h;exact⟨D,a.mono hm,c⟩
theorem aV.ext(h:aV P k kl ok w b n f){g:κ->Option Value}(hg:∀x,ok x->g x=f x):aV P k kl ok w b n g:=by
 obtain⟨D,a,c⟩:=h;exact⟨D,a,λx hx=>by rw[hg x hx];exact c x hx⟩
theorem aV.look{t e:TypeId}(h:aV P k kl ok w b n f)(K:Keyed P k)(ht:P.underlying t=Z (.map k e)){z:Value}(hz:(zeroValue e).run P w=.ok z w){key:Value}{x:κ}(hx:ok x)(hkey:keyOf P k key=Z (kl x)):
  (Instr.lookup t (.map (Z b)) key false).run P w=.ok ((f x).getD z) w:=by
 obtain⟨D,c,d⟩:=h;obtain⟨v,ps,a,hv⟩:=c.lookup K ht hz (zd:=.held z) (zp:=[]) rfl hkey;rw[(d x hx).2]at hv;simp only[mR,Option.some.injEq,Prod.mk.injEq,DataW.held.injEq]at hv;rw[a,hv.1]
theorem aV.lookOk{t e:TypeId}(h:aV P k kl ok w b n f)(K:Keyed P k)(ht:P.underlying t=Z (.map k e)){z:Value}(hz:(zeroValue e).run P w=.ok z w){key:Value}{x:κ}(hx:ok x)(hkey:keyOf P k key=Z (kl x)):
  (Instr.lookup t (.map (Z b)) key true).run P w=.ok (.tuple #[(f x).getD z,.bool (f x).isSome]) w:=by
 obtain⟨D,d,c⟩:=h;obtain⟨v,ps,a,hv⟩:=d.look_ok K ht hz (zd:=.held z) (zp:=[]) rfl hkey;rw[(c x hx).2]at hv;simp only[mR,Option.some.injEq,Prod.mk.injEq,DataW.held.injEq]at hv;rw[a,hv.1,(c x hx).1]
theorem aV.put[DecidableEq κ]{t e:TypeId}(h:aV P k kl ok w b n f)(K:Keyed P k)(ht:P.underlying t=Z (.map k e))(hn:n<maxLen){key v:Value}{x:κ}(hx:ok x)(hkey:keyOf P k key=Z (kl x))
  (hinj:∀y,ok y->kl y=kl x->y=x) :
  ∃w',(Instr.mapUpdate t (.map (Z b)) key v).run P w=.ok () w'/\aV P k kl ok w' b (n+1) (λy=>if y=x then Z v else f y)/\w.grownBy w' (Z b):=by
 obtain⟨D,g,i⟩:=h;obtain⟨w',c,j,l⟩:=g.update K ht hn hkey (val:=v) (d:=.held v) (ps:=[]) rfl;refine⟨w',c,⟨_,j,λy hy=>?_⟩,l⟩;dsimp only;by_cases e:y=x
 ·subst e
  rw[if_pos rfl];exact⟨by rw[has_put_same g.isMap (K.key hkey)];rfl,λz=>atKey_put_same g.isMap (K.key hkey) _ _⟩
 rw[if_neg e];have a:kl y≠kl x:=λe'=>e (hinj y hy e')
 rw[has_put_other a];exact⟨(i y hy).1,λz=>(atKey_put_other a _ _).trans ((i y hy).2 z)⟩
end
section
variable {κ:Type}{P:Program}{w:Wv}{ops:Array Oper}{rest:List Oper}{o:Oper}{a:Act}{Q:Exit->Act->Wv->Prop}
variable {k:TypeId}{kl:κ->Lit}{ok:κ->Prop}{b n:Nat}{f:κ->Option Value}
theorem qL(hg:o.guard=N)(m y:Operand)(t:TypeId)(hop:o.op=Op.lookup t m y false){e:TypeId}(h:aV P k kl ok w b n f)(K:Keyed P k)(ht:P.underlying t=Z (.map k e)){z:Value}(hz:(zeroValue e).run P w=.ok z w)
  (hm:a.eval m=.map (Z b)) {key:Value} {x:κ} (hy:a.eval y=key) (hx:ok x) (hkey:keyOf P k key=Z (kl x))
  (hK:wpList P ops Q rest (a.put o.dst ((f x).getD z)) w):wpList P ops Q (o::rest) a w:=by
 refine wpList_plain hg λK' hK'=>?_
 unfold Oper.wp;simp[execOp,hop,hm,hy,h.look K ht hz hx hkey,Result.andThen];exact hK' _ _ hK
theorem mL(hg:o.guard=N)(m y:Operand)(t:TypeId)(hop:o.op=Op.lookup t m y true){e:TypeId}(h:aV P k kl ok w b n f)(K:Keyed P k)(ht:P.underlying t=Z (.map k e)){z:Value}(hz:(zeroValue e).run P w=.ok z w)
  (hm:a.eval m=.map (Z b)) {key:Value} {x:κ} (hy:a.eval y=key) (hx:ok x) (hkey:keyOf P k key=Z (kl x))
  (hK:wpList P ops Q rest (a.put o.dst (.tuple #[(f x).getD z,.bool (f x).isSome])) w):wpList P ops Q (o::rest) a w:=by
 refine wpList_plain hg λK' hK'=>?_
 unfold Oper.wp;simp[execOp,hop,hm,hy,h.lookOk K ht hz hx hkey,Result.andThen];exact hK' _ _ hK
theorem oM[DecidableEq κ](hg:o.guard=N)(m y v:Operand)(t:TypeId)(hop:o.op=Op.mapUpdate t m y v){e:TypeId}(h:aV P k kl ok w b n f)(K:Keyed P k)(ht:P.underlying t=Z (.map k e))(hn:n<maxLen)
  (hm:a.eval m=.map (Z b)) {key val:Value} {x:κ} (hy:a.eval y=key) (hv:a.eval v=val) (hx:ok x) (hkey:keyOf P k key=Z (kl x)) (hinj:∀y,ok y->kl y=kl x->y=x)
  (hK:∀w',aV P k kl ok w' b (n+1) (λy=>if y=x then Z val else f y)->w.grownBy w' (Z b)->wpList P ops Q rest (a.put o.dst undef) w'):wpList P ops Q (o::rest) a w:=by
 refine wpList_plain hg λK' hK'=>?_
 obtain⟨w',c,d,g⟩:=h.put K ht hn (v:=val) hx hkey hinj;unfold Oper.wp;simp[execOp,hop,hm,hy,hv,c,Result.andThen];exact hK' _ _ (hK w' d g)
end
theorem qJ{z:Int}(h1:-9223372036854775808<=z)(h2:z<=9223372036854775807):(Lit.int .i64 z).wf=true:=by
 simp only[Lit.wf,Bool.and_eq_true,decide_eq_true_eq];exact⟨h1,h2⟩
theorem lA{B:Nat}{a w w':Wv}{g:Nat}(h:Below B a w)(hg:w.grownBy w' (Z g))(hb:B<=g)(hs:B<=w.heap.size):Below B a w':=
 h.grown hg hs λk e=>by injection e with e;omega
def oH(s:ByteArray):Lit:=.string s.data.toList
def sok(s:ByteArray):Prop:=s.size<=maxLen
theorem YX{s t:ByteArray}(h:oH s=oH t):s=t:=by
 injection h with h;cases s;cases t
 simp only[ByteArray.mk.injEq];exact Array.toList_inj.1 h
abbrev GN(P:Program)(k:TypeId)(w:Wv)(b n:Nat)(f:ByteArray->Option Value):Prop:=aV P k oH sok w b n f
def Box(w:Wv)(b:Nat)(t:TypeId)(cs:Lv):Prop:=w.heap[b]?=Z (.cells cs.toArray t (0,0))
section
variable {w w':Wv}{b:Nat}{t:TypeId}{cs:Lv}
theorem Box.lt(h:Box w b t cs):b<w.heap.size:=by
 rcases Nat.lt_or_ge b w.heap.size with g|g
 ·exact g
 unfold Box at h;rw[Array.getElem?_eq_none g]at h;cases h
theorem Box.cell(h:Box w b t cs){i:Nat}{v:Value}(hv:cs[i]?=Z v):w.cell? ⟨b,i,N⟩=Z v:=by
 unfold Box at h;simp[World.cell?,h,hv]
theorem Box.free(h:Box w b t cs)(i:Nat):w.frozen? ⟨b,i,N⟩=false:=by
 unfold Box at h;simp[World.frozen?,h]
theorem Box.new(w:Wv)(t:TypeId)(cs:Lv){b:Nat}(hb:b=w.heap.size):Box (w.alloc (.cells cs.toArray t)) b t cs:=by
 subst hb;show(w.heap.push _)[w.heap.size]?=_
 simp
theorem Box.below{B:Nat}(h:Box w b t cs)(hb:Below B w w')(hg:b<B):Box w' b t cs:=(hb.block b hg).trans h
theorem Box.grown{row:Option Nat}(h:Box w b t cs)(hg:w.grownBy w' row)(hne:Z b≠row):Box w' b t cs:=(hg.block b h.lt hne).trans h
theorem Box.set(h:Box w b t cs)(i:Nat)(u:Value):Box (w.setCell ⟨b,i,N⟩ u) b t (cs.set i u):=by
 unfold Box at h|-;simp[World.setCell,Array.getElem?_modify,h]
end
theorem bR(w:Wv)(p:Addr)(u:Value):w.grownBy (w.setCell p u) (Z p.block):=
 ⟨rfl,rfl,rfl,by simp[World.setCell],λk _ hne=>Below.heap_setCell w p u k (λe=>hne (by rw[e]))⟩
def jN(U:Nat)(w w':Wv):Prop:=w.heap.size<=w'.heap.size/\∀b,b<w.heap.size->b≠U->w'.heap[b]?=w.heap[b]?
section
variable {U:Nat}{a b c:Wv}
theorem jN.refl(U:Nat)(a:Wv):jN U a a:=⟨Nat.le_refl _,λ_ _ _=>rfl⟩
theorem jN.below(h:jN U a b)(hb:By b c):jN U a c:=⟨Nat.le_trans h.1 hb.size,λq hq hn=>(hb.block q (Nat.lt_of_lt_of_le hq h.1)).trans (h.2 q hq hn)⟩
theorem jN.grown(h:jN U a b)(hg:b.grownBy c (Z U)):jN U a c:=⟨Nat.le_trans h.1 hg.size,λq hq hn=>(hg.block q (Nat.lt_of_lt_of_le hq h.1) (λe=>hn (by injection e))).trans (h.2 q hq hn)⟩
theorem jN.sl{A:Oa}{cs:Lv}(h:jN U a b)(hU:∀o,a.cell? ⟨U,o,N⟩=N)(hs:Sl a A cs):Sl b A cs:=λhne=>by
 obtain⟨q,o,rfl,hc⟩:=hs hne;refine⟨q,o,rfl,λj u hu=>?_⟩;have c:=hc j u hu;have hq:q≠U:=λe=>by rw[e,hU]at c;cases c
 exact(World.cell?_of_block (h.2 q (World.block_lt_of_cell? a _ c) hq)).trans c
end
theorem aV.nocell{κ:Type}{P:Program}{k:TypeId}{kl:κ->Lit}{ok:κ->Prop}{w:Wv}{b n:Nat}{f:κ->Option Value}(h:aV P k kl ok w b n f)(o:Nat):w.cell? ⟨b,o,N⟩=N:=by
 obtain⟨D,⟨es,a,c,_⟩,_⟩:=h;simp[World.cell?,c]
section
variable {P:Program}{ops:Array Oper}{Q:Exit->Act->Wv->Prop}{md:Region.Mode}{S:Wv->Prop}
theorem lZ{R:Wv->Prop}{i:Nat}{oi:Oper}{fuel:Nat}{listed:Array Bool}{a:Act}{w:Wv}(d:Option Tmp){f:FuncId}{args:Array Value}{v:Value}(hi:ops[i]?=Z oi)(hd:oi.dst=d)
  (hr:Region.ready md ops listed=[i]) (hw:Region.wanted oi (yielded ops a.tmps)=true) (he:(execOp a.eval oi).run P w=.ok (.enter f args) w)
  (hc:Calls P f args w (λe w'=>e=.returned v/\S w'/\R w'))
  (h:∀w',S w'->R w'->wpAnyH P md ops Q S fuel (listed.setIfInBounds i true) (a.put d v) w'):wpAnyH P md ops Q S (fuel+1) listed a w:=by
 subst hd;refine wpAnyH_ready hr L (AllReadyH.cons hi (λK hK=>?_) AllReadyH.nil);rw[if_pos hw];unfold Oper.wp;rw[he];simp only[Oper.upon];refine hc.mono ?_;rintro e w' ⟨rfl,c,b⟩;exact hK.out _ _ c (λhh=>h w' hh b)
theorem nO{i:Nat}{oi:Oper}{fuel:Nat}{listed:Array Bool}{a:Act}{w:Wv}(hi:ops[i]?=Z oi)
  (hr:Region.ready md ops listed=[i]) (hw:Region.wanted oi (yielded ops a.tmps)=true)
  (h:∀K:Act->Wv->Prop,Shut (∀a w,S w->(S w->wpAnyH P md ops Q S fuel (listed.setIfInBounds i true) a w)->K a w)->Oper.wp P oi a w K Q):wpAnyH P md ops Q S (fuel+1) listed a w:=by
 refine wpAnyH_ready hr L (AllReadyH.cons hi (λK hK=>?_) AllReadyH.nil);rw[if_pos hw];exact h K hK
theorem fK{i:Nat}{oi:Oper}{fuel:Nat}{listed:Array Bool}{a:Act}{w w':Wv}{v:Value}(d:Option Tmp)(hi:ops[i]?=Z oi)(hd:oi.dst=d)
  (hr:Region.ready md ops listed=[i]) (hw:Region.wanted oi (yielded ops a.tmps)=true) (he:(execOp a.eval oi).run P w=.ok (.value v) w') (hS:S w')
  (h:wpAnyH P md ops Q S fuel (listed.setIfInBounds i true) (a.put d v) w'):wpAnyH P md ops Q S (fuel+1) listed a w:=by
 subst hd;refine nO hi hr hw (λK hK=>?_);unfold Oper.wp;rw[he];simp only[Oper.upon];exact hK.out _ _ hS (λ_=>h)
theorem IX{κ:Type}[DecidableEq κ]{k:TypeId}{kl:κ->Lit}{ok:κ->Prop}{b n:Nat}{f:κ->Option Value}{i:Nat}{oi:Oper}{fuel:Nat}{listed:Array Bool}{a:Act}{w:Wv}(d:Option Tmp)(hi:ops[i]?=Z oi)(hd:oi.dst=d)
  (hr:Region.ready md ops listed=[i]) (hw:Region.wanted oi (yielded ops a.tmps)=true) (m y v:Operand) (t:TypeId) (hop:oi.op=Op.mapUpdate t m y v) {e:TypeId} (h:aV P k kl ok w b n f) (K:Keyed P k) (ht:P.underlying t=Z (.map k e)) (hn:n<maxLen)
  (hm:a.eval m=.map (Z b)) {key val:Value} {x:κ} (hy:a.eval y=key) (hv:a.eval v=val) (hx:ok x) (hkey:keyOf P k key=Z (kl x)) (hinj:∀y,ok y->kl y=kl x->y=x)
  (hS:∀w',w.grownBy w' (Z b)->S w')
  (hK:∀w',aV P k kl ok w' b (n+1) (λy=>if y=x then Z val else f y)->w.grownBy w' (Z b)->wpAnyH P md ops Q S fuel (listed.setIfInBounds i true) (a.put d undef) w'):wpAnyH P md ops Q S (fuel+1) listed a w:=by
 subst hd;refine nO hi hr hw (λK' hK'=>?_);obtain⟨w',c,j,g⟩:=h.put K ht hn (v:=val) hx hkey hinj;unfold Oper.wp;simp[execOp,hop,hm,hy,hv,c,Result.andThen];exact hK'.out _ _ (hS w' g) (λ_=>hK w' j g)
theorem IW{κ:Type}{k:TypeId}{kl:κ->Lit}{ok:κ->Prop}{b n:Nat}{f:κ->Option Value}{i:Nat}{oi:Oper}{v:Value}{fuel:Nat}{listed:Array Bool}{a:Act}{w:Wv}(d:Option Tmp)(hi:ops[i]?=Z oi)(hd:oi.dst=d)
  (hs:Region.noSelect ops=true) (hf:Region.free md ops listed i=true) (hr:(Region.ready md ops listed).contains i=true)
  (hQ:∀c a w,Q (.panic c) (a.put d v) w->Q (.panic c) a w) (hw:Region.wanted oi (yielded ops a.tmps)=true) (hS:S w)
  (m y:Operand) (t:TypeId) (hop:oi.op=Op.lookup t m y true) {e:TypeId} (h:∀w,S w->aV P k kl ok w b n f) (K:Keyed P k) (ht:P.underlying t=Z (.map k e)) {z:Value} (hz:∀w,(zeroValue e).run P w=.ok z w)
  (hm:a.eval m=.map (Z b)) {key:Value} {x:κ} (hy:a.eval y=key) (hx:ok x) (hkey:keyOf P k key=Z (kl x)) (hv:.tuple #[(f x).getD z,.bool (f x).isSome]=v)
  (hK:wpAnyH P md ops Q S fuel (listed.setIfInBounds i true) (a.put d v) w):wpAnyH P md ops Q S (fuel+1) listed a w:=by
 subst hv;refine fJ d hi hd hs hf hr hQ hw hS (λw' hS'=>?_) hK;simp[execOp,hop,hm,hy,(h w' hS').lookOk K ht (hz w') hx hkey,Result.andThen]
theorem iN{R:Value->Wv->Prop}{i:Nat}{oi:Oper}{fuel:Nat}{listed:Array Bool}{a:Act}{w:Wv}(d:Option Tmp){f:FuncId}{args:Array Value}(hi:ops[i]?=Z oi)(hd:oi.dst=d)
  (hr:Region.ready md ops listed=[i]) (hw:Region.wanted oi (yielded ops a.tmps)=true) (he:(execOp a.eval oi).run P w=.ok (.enter f args) w)
  (hc:Calls P f args w (λe w'=>∃v,e=.returned v/\S w'/\R v w'))
  (h:∀v w',S w'->R v w'->wpAnyH P md ops Q S fuel (listed.setIfInBounds i true) (a.put d v) w'):wpAnyH P md ops Q S (fuel+1) listed a w:=by
 subst hd;refine wpAnyH_ready hr L (AllReadyH.cons hi (λK hK=>?_) AllReadyH.nil);rw[if_pos hw];unfold Oper.wp;rw[he];simp only[Oper.upon];refine hc.mono ?_;rintro e w' ⟨v,rfl,c,b⟩;exact hK.out _ _ c (λhh=>h v w' hh b)
end
theorem Box.c{w:Wv}{b:Nat}{t:TypeId}{cs:Lv}(h:Box w b t cs)(i:Nat){v:Value}(hv:cs[i]?=Z v):w.cell? ⟨b,i,N⟩=Z v:=h.cell hv
section
variable {P:Program}{ops:Array Oper}{Q:Exit->Act->Wv->Prop}{md:Region.Mode}{S:Wv->Prop}
theorem qE{R:Value->Wv->Prop}(i k:Nat){oi:Oper}{fuel:Nat}{listed l':Array Bool}{a:Act}{a':Value->Act}{w:Wv}{f:FuncId}{args:Array Value}
  (hc:Calls P f args w (λe w'=>∃v,e=.returned v/\S w'/\R v w')) (h:∀v w',S w'->R v w'->wpAnyH P md ops Q S fuel l' (a' v) w') (hi:ops[i]?=Z oi:=by rfl) (hd:oi.dst=Z k:=by rfl)
  (hr:Region.ready md ops listed=[i]:=by kernel_rfl) (hw:Region.wanted oi (yielded ops a.tmps)=true:=by rfl) (he:(execOp a.eval oi).run P w=.ok (.enter f args) w:=by go_simp)
  (hl:listed.setIfInBounds i true=l':=by(try simp only[sA,sB,sC]);first|done|rfl)
  (ha:∀v,a.put (Z k) v=a' v:=by intro v;(try simp only[Act.put,sA,sB,sC]);first|done|rfl):wpAnyH P md ops Q S (fuel+1) listed a w:=by
 subst hl;refine iN (Z k) hi hd hr hw he hc (λv w' h1 h2=>?_);rw[ha];exact h v w' h1 h2
theorem qK{v:Value}(i k:Nat){oi:Oper}{fuel:Nat}{listed l':Array Bool}{a a':Act}{w:Wv}{f:FuncId}{args:Array Value}
  (hc:Calls P f args w (λe w'=>e=.returned v/\S w')) (h:∀w',S w'->wpAnyH P md ops Q S fuel l' a' w') (hi:ops[i]?=Z oi:=by rfl) (hd:oi.dst=Z k:=by rfl)
  (hr:Region.ready md ops listed=[i]:=by kernel_rfl) (hw:Region.wanted oi (yielded ops a.tmps)=true:=by rfl) (he:(execOp a.eval oi).run P w=.ok (.enter f args) w:=by go_simp)
  (hl:listed.setIfInBounds i true=l':=by(try simp only[sA,sB,sC]);first|done|rfl)
  (ha:a.put (Z k) v=a':=by(try simp only[Act.put,sA,sB,sC]);first|done|rfl):wpAnyH P md ops Q S (fuel+1) listed a w:=by
 subst hl;subst ha;exact vP (Z k) hi hd hr hw he hc h
end
theorem al1(w:Wv)(T:TypeId)(cs:Lv):∃W0,w.alloc (.cells cs.toArray T)=W0/\By w W0/\Box W0 w.heap.size T cs:=
 ⟨_,rfl,ba _ _,Box.new w T cs rfl⟩
theorem al2(w:Wv)(T:TypeId)(cs:Lv)(T1:TypeId)(cs1:Lv):∃W0,(w.alloc (.cells cs.toArray T)).alloc (.cells cs1.toArray T1)=W0/\By w W0/\Box W0 w.heap.size T cs/\Box W0 (w.heap.size+1) T1 cs1:=
 ⟨_,rfl,(ba _ _).alloc (by simp) _,(Box.new w T cs rfl).below (B:=w.heap.size+1) ((Below.refl _ _).alloc (by simp) _) (by omega),Box.new _ _ _ (by simp)⟩
theorem al3(w:Wv)(T:TypeId)(cs:Lv)(T1:TypeId)(cs1:Lv)(T2:TypeId)(cs2:Lv):∃W0,((w.alloc (.cells cs.toArray T)).alloc (.cells cs1.toArray T1)).alloc (.cells cs2.toArray T2)=W0/\By w W0/\Box W0 w.heap.size T cs/\Box W0 (w.heap.size+1) T1 cs1/\Box W0 (w.heap.size+1+1) T2 cs2:=
 ⟨_,rfl,((ba _ _).alloc (by simp) _).alloc (by simp<;>omega) _,
  ((Box.new w T cs rfl).below (B:=w.heap.size+1) ((Below.refl _ _).alloc (by simp) _) (by omega)).below (B:=w.heap.size+1+1) ((Below.refl _ _).alloc (by simp) _) (by omega),
  (Box.new _ T1 cs1 (by simp)).below (B:=w.heap.size+1+1) ((Below.refl _ _).alloc (by simp) _) (by omega),Box.new _ _ _ (by simp)⟩
theorem Box.k2{w:Wv}{b:Nat}{t:TypeId}{v0 v1:Value}{l:Lv}(h:Box w b t (v0::v1::l)):w.cell? ⟨b,0,N⟩=Z v0/\w.cell? ⟨b,1,N⟩=Z v1:=⟨h.cell rfl,h.cell rfl⟩
theorem Box.k3{w:Wv}{b:Nat}{t:TypeId}{v0 v1 v2:Value}{l:Lv}(h:Box w b t (v0::v1::v2::l)):w.cell? ⟨b,0,N⟩=Z v0/\w.cell? ⟨b,1,N⟩=Z v1/\w.cell? ⟨b,2,N⟩=Z v2:=⟨h.cell rfl,h.cell rfl,h.cell rfl⟩
theorem Box.k4{w:Wv}{b:Nat}{t:TypeId}{v0 v1 v2 v3:Value}{l:Lv}(h:Box w b t (v0::v1::v2::v3::l)):w.cell? ⟨b,0,N⟩=Z v0/\w.cell? ⟨b,1,N⟩=Z v1/\w.cell? ⟨b,2,N⟩=Z v2/\w.cell? ⟨b,3,N⟩=Z v3:=⟨h.cell rfl,h.cell rfl,h.cell rfl,h.cell rfl⟩
theorem Box.k5{w:Wv}{b:Nat}{t:TypeId}{v0 v1 v2 v3 v4:Value}{l:Lv}(h:Box w b t (v0::v1::v2::v3::v4::l)):w.cell? ⟨b,0,N⟩=Z v0/\w.cell? ⟨b,1,N⟩=Z v1/\w.cell? ⟨b,2,N⟩=Z v2/\w.cell? ⟨b,3,N⟩=Z v3/\w.cell? ⟨b,4,N⟩=Z v4:=⟨h.cell rfl,h.cell rfl,h.cell rfl,h.cell rfl,h.cell rfl⟩
theorem Box.k6{w:Wv}{b:Nat}{t:TypeId}{v0 v1 v2 v3 v4 v5:Value}{l:Lv}(h:Box w b t (v0::v1::v2::v3::v4::v5::l)):w.cell? ⟨b,0,N⟩=Z v0/\w.cell? ⟨b,1,N⟩=Z v1/\w.cell? ⟨b,2,N⟩=Z v2/\w.cell? ⟨b,3,N⟩=Z v3/\w.cell? ⟨b,4,N⟩=Z v4/\w.cell? ⟨b,5,N⟩=Z v5:=⟨h.cell rfl,h.cell rfl,h.cell rfl,h.cell rfl,h.cell rfl,h.cell rfl⟩
theorem Box.k7{w:Wv}{b:Nat}{t:TypeId}{v0 v1 v2 v3 v4 v5 v6:Value}{l:Lv}(h:Box w b t (v0::v1::v2::v3::v4::v5::v6::l)):w.cell? ⟨b,0,N⟩=Z v0/\w.cell? ⟨b,1,N⟩=Z v1/\w.cell? ⟨b,2,N⟩=Z v2/\w.cell? ⟨b,3,N⟩=Z v3/\w.cell? ⟨b,4,N⟩=Z v4/\w.cell? ⟨b,5,N⟩=Z v5/\w.cell? ⟨b,6,N⟩=Z v6:=⟨h.cell rfl,h.cell rfl,h.cell rfl,h.cell rfl,h.cell rfl,h.cell rfl,h.cell rfl⟩
theorem Box.k8{w:Wv}{b:Nat}{t:TypeId}{v0 v1 v2 v3 v4 v5 v6 v7:Value}{l:Lv}(h:Box w b t (v0::v1::v2::v3::v4::v5::v6::v7::l)):w.cell? ⟨b,0,N⟩=Z v0/\w.cell? ⟨b,1,N⟩=Z v1/\w.cell? ⟨b,2,N⟩=Z v2/\w.cell? ⟨b,3,N⟩=Z v3/\w.cell? ⟨b,4,N⟩=Z v4/\w.cell? ⟨b,5,N⟩=Z v5/\w.cell? ⟨b,6,N⟩=Z v6/\w.cell? ⟨b,7,N⟩=Z v7:=⟨h.cell rfl,h.cell rfl,h.cell rfl,h.cell rfl,h.cell rfl,h.cell rfl,h.cell rfl,h.cell rfl⟩
theorem Box.k9{w:Wv}{b:Nat}{t:TypeId}{v0 v1 v2 v3 v4 v5 v6 v7 v8:Value}{l:Lv}(h:Box w b t (v0::v1::v2::v3::v4::v5::v6::v7::v8::l)):w.cell? ⟨b,0,N⟩=Z v0/\w.cell? ⟨b,1,N⟩=Z v1/\w.cell? ⟨b,2,N⟩=Z v2/\w.cell? ⟨b,3,N⟩=Z v3/\w.cell? ⟨b,4,N⟩=Z v4/\w.cell? ⟨b,5,N⟩=Z v5/\w.cell? ⟨b,6,N⟩=Z v6/\w.cell? ⟨b,7,N⟩=Z v7/\w.cell? ⟨b,8,N⟩=Z v8:=⟨h.cell rfl,h.cell rfl,h.cell rfl,h.cell rfl,h.cell rfl,h.cell rfl,h.cell rfl,h.cell rfl,h.cell rfl⟩
theorem Box.k10{w:Wv}{b:Nat}{t:TypeId}{v0 v1 v2 v3 v4 v5 v6 v7 v8 v9:Value}{l:Lv}(h:Box w b t (v0::v1::v2::v3::v4::v5::v6::v7::v8::v9::l)):w.cell? ⟨b,0,N⟩=Z v0/\w.cell? ⟨b,1,N⟩=Z v1/\w.cell? ⟨b,2,N⟩=Z v2/\w.cell? ⟨b,3,N⟩=Z v3/\w.cell? ⟨b,4,N⟩=Z v4/\w.cell? ⟨b,5,N⟩=Z v5/\w.cell? ⟨b,6,N⟩=Z v6/\w.cell? ⟨b,7,N⟩=Z v7/\w.cell? ⟨b,8,N⟩=Z v8/\w.cell? ⟨b,9,N⟩=Z v9:=⟨h.cell rfl,h.cell rfl,h.cell rfl,h.cell rfl,h.cell rfl,h.cell rfl,h.cell rfl,h.cell rfl,h.cell rfl,h.cell rfl⟩
theorem Box.k11{w:Wv}{b:Nat}{t:TypeId}{v0 v1 v2 v3 v4 v5 v6 v7 v8 v9 v10:Value}{l:Lv}(h:Box w b t (v0::v1::v2::v3::v4::v5::v6::v7::v8::v9::v10::l)):w.cell? ⟨b,0,N⟩=Z v0/\w.cell? ⟨b,1,N⟩=Z v1/\w.cell? ⟨b,2,N⟩=Z v2/\w.cell? ⟨b,3,N⟩=Z v3/\w.cell? ⟨b,4,N⟩=Z v4/\w.cell? ⟨b,5,N⟩=Z v5/\w.cell? ⟨b,6,N⟩=Z v6/\w.cell? ⟨b,7,N⟩=Z v7/\w.cell? ⟨b,8,N⟩=Z v8/\w.cell? ⟨b,9,N⟩=Z v9/\w.cell? ⟨b,10,N⟩=Z v10:=⟨h.cell rfl,h.cell rfl,h.cell rfl,h.cell rfl,h.cell rfl,h.cell rfl,h.cell rfl,h.cell rfl,h.cell rfl,h.cell rfl,h.cell rfl⟩
theorem Box.k12{w:Wv}{b:Nat}{t:TypeId}{v0 v1 v2 v3 v4 v5 v6 v7 v8 v9 v10 v11:Value}{l:Lv}(h:Box w b t (v0::v1::v2::v3::v4::v5::v6::v7::v8::v9::v10::v11::l)):w.cell? ⟨b,0,N⟩=Z v0/\w.cell? ⟨b,1,N⟩=Z v1/\w.cell? ⟨b,2,N⟩=Z v2/\w.cell? ⟨b,3,N⟩=Z v3/\w.cell? ⟨b,4,N⟩=Z v4/\w.cell? ⟨b,5,N⟩=Z v5/\w.cell? ⟨b,6,N⟩=Z v6/\w.cell? ⟨b,7,N⟩=Z v7/\w.cell? ⟨b,8,N⟩=Z v8/\w.cell? ⟨b,9,N⟩=Z v9/\w.cell? ⟨b,10,N⟩=Z v10/\w.cell? ⟨b,11,N⟩=Z v11:=⟨h.cell rfl,h.cell rfl,h.cell rfl,h.cell rfl,h.cell rfl,h.cell rfl,h.cell rfl,h.cell rfl,h.cell rfl,h.cell rfl,h.cell rfl,h.cell rfl⟩
theorem Box.f2{w:Wv}{b:Nat}{t:TypeId}{l:Lv}(h:Box w b t l):w.frozen? ⟨b,0,N⟩=false/\w.frozen? ⟨b,1,N⟩=false:=⟨h.free 0,h.free 1⟩
theorem Box.f3{w:Wv}{b:Nat}{t:TypeId}{l:Lv}(h:Box w b t l):w.frozen? ⟨b,0,N⟩=false/\w.frozen? ⟨b,1,N⟩=false/\w.frozen? ⟨b,2,N⟩=false:=⟨h.free 0,h.free 1,h.free 2⟩
theorem Box.f4{w:Wv}{b:Nat}{t:TypeId}{l:Lv}(h:Box w b t l):w.frozen? ⟨b,0,N⟩=false/\w.frozen? ⟨b,1,N⟩=false/\w.frozen? ⟨b,2,N⟩=false/\w.frozen? ⟨b,3,N⟩=false:=⟨h.free 0,h.free 1,h.free 2,h.free 3⟩
theorem Box.f5{w:Wv}{b:Nat}{t:TypeId}{l:Lv}(h:Box w b t l):w.frozen? ⟨b,0,N⟩=false/\w.frozen? ⟨b,1,N⟩=false/\w.frozen? ⟨b,2,N⟩=false/\w.frozen? ⟨b,3,N⟩=false/\w.frozen? ⟨b,4,N⟩=false:=⟨h.free 0,h.free 1,h.free 2,h.free 3,h.free 4⟩
theorem bb{w w':Wv}{b:Nat}{t:TypeId}{l:Lv}(h:Box w b t l)(g:By w w'):Box w' b t l:=h.below g h.lt
end
end Go.Proofs.YtkhmjidaeliccaaGreatDoor
