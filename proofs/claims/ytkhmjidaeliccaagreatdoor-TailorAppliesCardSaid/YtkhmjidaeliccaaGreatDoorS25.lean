import Derived.Test.YtkhmjidaeliccaaGreatDoorS23
import Derived.Test.YtkhmjidaeliccaaGreatDoorS24
set_option maxRecDepth 100000
set_option maxHeartbeats 51200000
namespace Go.Proofs.YtkhmjidaeliccaaGreatDoor
open Option renaming none->N,some->Z
open Value renaming int->I,slice->H
open IntKind renaming i64->J
open Go.Proofs.Tryz
namespace Pa
open Go.RowKit Tl
section
variable {s:ByteArray}
theorem four_bd:∀{n:Nat}{c d:Int}{i j:Nat}(B:Int),0<=c->c<=B->four s n c i=.ok (d,j)->0<=d/\d<=16^n*B+(16^n-1)
 |0,c,d,i,j,B,h0,hB,h=>by
  injection h with h;injection h with h _;subst h;simp;exact⟨h0,hB⟩
 |n+1,c,d,i,j,B,h0,hB,h=>by
  unfold four at h;split at h
  ·cases h
  next h1=>
  have hd:=dg_bd (bt s i);have g:=four_bd (16*B+15) O O h;refine⟨g.1,?_⟩;have e:(16:Int)^(n+1)=16^n*16:=Int.pow_succ 16 n;rw[e];have a:(16:Int)^n*(16*B+15)+(16^n-1)=16^n*16*B+(16^n*16-1):=by
   rw[Int.mul_add,Int.mul_assoc];omega
  omega
theorem moreN_bd:∀{n:Nat}{c:Int}{i:Nat},0<=c->c<=1114111->0<=(moreN s n c i).1/\(moreN s n c i).1<=1114111
 |0,c,i,h0,h1=>⟨h0,h1⟩
 |n+1,c,i,h0,h1=>by
  unfold moreN;split
  ·next g=>exact moreN_bd O g.2.2
  exact⟨h0,h1⟩
theorem code_bd{i j:Nat}{c:Int}(h:code s i=.ok (c,j)):0<=c/\c<=1114111:=by
 unfold code at h;split at h
 ·cases h
 next c' k hf=>
 injection h with h;have g:=four_bd 0 (Int.le_refl _) (Int.le_refl _) hf;have b:c'<=65535:=g.2;have a:=moreN_bd (s:=s) (n:=s.size-k) (i:=k) g.1 O;unfold more at h;rw[h]at a;exact a
theorem litN_bd:∀{n:Nat}{a l:Li}{i j:Nat},(∀c∈a,0<=c/\c<=1114111)->i<=s.size->litN s n a i=.ok (l,j)->(∀c∈l,0<=c/\c<=1114111)/\a.length<=l.length/\l.length+i<=a.length+j
 |0,a,l,i,j,ha,_,h=>by
  injection h with h;injection h with h h';subst h;subst h';exact⟨ha,Nat.le_refl _,Nat.le_refl _⟩
 |n+1,a,l,i,j,ha,hi,h=>by
  unfold litN at h;split at h
  ·split at h
   ·cases h
   next c k hc=>
   have d:=code_ok hc;have e:=code_bd hc
   have b:=litN_bd (by
    intro x hx
    rcases List.mem_append.1 hx with hx|hx
    ·exact ha x hx
    ·rw[List.mem_singleton.1 hx];exact e) d.2 h
   refine⟨b.1,?_,?_⟩
   ·have:=b.2.1;simp at this;omega
   have:=b.2.2;simp at this;omega
  injection h with h;injection h with h h';subst h;subst h';exact⟨ha,Nat.le_refl _,Nat.le_refl _⟩
theorem lit_bd{l:Li}{i j:Nat}(h:lit s i=.ok (l,j)):rngT l=true/\l.length+2+i<=j:=by
 unfold lit at h;split at h
 ·cases h
 next h1=>
 split at h
 ·cases h
 next c i2 h2=>
 split at h
 ·cases h
 next h3=>
 split at h
 ·cases h
 next i4 h4=>
 injection h with h;injection h with ha hb;subst ha;have d:=(wrd_ok L h1).1;have e:=code_ok h2;have b:=code_bd h2;have a:=litN_bd (by intro x hx;rw[List.mem_singleton.1 hx];exact b) e.2 h3;have f:=(wrd_ok L h4).1;have g:=blk_le s i4;simp at d f a;refine⟨?_,O⟩;unfold rngT;simp only[Bool.and_eq_true,Bool.not_eq_true',List.all_eq_true,decide_eq_true_eq];refine⟨?_,a.1⟩;cases hl:(List.isEmpty _)with
 |false=>rfl
 |true=>rw[List.isEmpty_iff]at hl;rw[hl]at a;simp at a
end
end Pa
section
open Go.RowKit Tl Pa
theorem mY:(prog.info? 35).map (λi=>(i.zero,i.size,i.bytes))=Z (Z (.agg #[H N 0 0,H N 0 0,I J 0,.bool false]),4,64):=oK_
def Apt(B:Nat)(r:Option Nat)(A:Oa)(l:Li):Prop:=l≠[]->∀a,A=Z a->B<=a.block/\r≠Z a.block
theorem Sl.kept{w w':Wv}{A:Oa}{cs:Lv}{r:Option Nat}(h:Sl w A cs)(hg:w.grownBy w' r)(hne:cs≠[]->∀a,A=Z a->r≠Z a.block):Sl w' A cs:=λhc=>by
 obtain⟨b,o,rfl,c⟩:=h hc;refine⟨b,o,rfl,λj u hu=>?_⟩;have d:=c j u hu;exact(World.cell?_of_block (hg.block b (World.block_lt_of_cell? w _ d) (λe=>hne hc ⟨b,o,N⟩ rfl e.symm))).trans d
structure gC(w:Wv)(P:Nat)(r:Option Nat)(v:Oa×Nat×Oa×Nat)(t:Tlr):Prop where
 a:aA w v.1 t.anc
 pa:Apt P r v.1 t.anc
 b:aA w v.2.2.1 t.cds
 pb:Apt P r v.2.2.1 t.cds
def cQ(v:Oa×Nat×Oa×Nat)(t:Tlr):Lv:=[H v.1 t.anc.length v.2.1,H v.2.2.1 t.cds.length v.2.2.2,I J t.lvl,.bool t.bef]
def fF:List (Oa×Nat×Oa×Nat)->List Tlr->Lv
 |v::vs,t::l=>cQ v t++fF vs l
 |_,_=>[]
theorem FG(v:Oa×Nat×Oa×Nat)(t:Tlr):∀(vs:List (Oa×Nat×Oa×Nat))(l:List Tlr),vs.length=l.length->fF (vs++[v]) (l++[t])=fF vs l++cQ v t
 | [],[],_=>by simp[fF]
 |a::vs,b::l,h=>by
  show cQ a b++fF (vs++[v]) (l++[t])=(cQ a b++fF vs l)++cQ v t
  rw[FG v t vs l (by simpa using h),List.append_assoc]
 | [],_::_,h=>by simp at h
 |_::_,[],h=>by simp at h
structure dH(w:Wv)(P base:Nat)(K:Oa)(c:Nat)(l:List Tlr):Prop where
 ex:∃vs:List (Oa×Nat×Oa×Nat),vs.length=l.length/\w.ownsRow base 35 4 (H K l.length c) l.length (fF vs l)/\∀i,(hi:i<l.length)->(hv:i<vs.length)->gC w base (Value.ownBlock (H K l.length c)) vs[i] l[i]
section
variable {w w':Wv}{P base c c':Nat}{K K':Oa}{l:List Tlr}{r:Option Nat}
theorem gC.kept{v:Oa×Nat×Oa×Nat}{t:Tlr}(h:gC w P r v t){q:Option Nat}(hg:w.grownBy w' q)(hq:(∃p,q=Z p/\p<P)\/q=r\/q=N):gC w' P r v t:=by
 have b:∀(A:Oa)(d:Li),aA w A d->Apt P r A d->aA w' A d:=by
  intro A d f g;refine Sl.kept f hg (λhc a ha=>?_);have c:=g (λe=>hc (by rw[e];rfl)) a ha;rcases hq with⟨p,rfl,hp⟩|rfl|rfl
  ·intro e;injection e with e;have:=c.1;omega
  ·exact c.2
  intro e;cases e
 exact⟨b _ _ h.a h.pa,h.pa,b _ _ h.b h.pb,h.pb⟩
theorem dH.ps(h:dH w P base K c l)(hg:w.grownBy w' (Z P))(hP:P<base):dH w' P base K c l:=by
 obtain⟨vs,a,b,d⟩:=h.ex;exact⟨vs,a,lO b hg hP,λi hi hv=>(d i hi hv).kept hg (.inl ⟨P,rfl,hP⟩)⟩
theorem dH.below(h:dH w P base K c l)(hb:By w w'):dH w' P base K c l:=by
 obtain⟨vs,a,b,d⟩:=h.ex;exact⟨vs,a,aG b hb,λi hi hv=>(d i hi hv).kept (q:=N) ⟨hb.os,hb.tape,hb.output,hb.size,λk hk _=>hb.block k hk⟩ (.inr (.inr rfl))⟩
theorem dH.nil(w:Wv)(P base:Nat):dH w P base N 0 []:=⟨[],rfl,World.ownsRow_nil _ _ _ _,λi hi _=>absurd hi L⟩
theorem dH.lt(h:dH w P base K c l):∀q,Value.ownBlock (H K l.length c)=Z q->base<=q/\q<w.heap.size:=by
 obtain⟨vs,_,a,_⟩:=h.ex;exact a.lt
theorem dH.app{vs:List (Oa×Nat×Oa×Nat)}(h1:vs.length=l.length)(h3:∀i,(hi:i<l.length)->(hv:i<vs.length)->gC w base (Value.ownBlock (H K l.length c)) vs[i] l[i]){o:Obj}{w3:Wv}{K3:Oa}{k3:Nat}{v:Oa×Nat×Oa×Nat}{t:Tlr}(ho:w3.ownsRow base 35 4 (H K3 (l.length+1) k3) (l.length+1) (fF vs l++cQ v t))(hg:(w.alloc o).grownBy w3 (Value.ownBlock (H K l.length c)))(hB:K3=K\/K3=Z ⟨(w.alloc o).heap.size,0,N⟩)(ht:gC w base (Value.ownBlock (H K l.length c)) v t):dH w3 P base K3 k3 (l++[t]):=by
 have m:By w (w.alloc o):=ba _ _;have hz:(w.alloc o).heap.size=w.heap.size+1:=L;have f:∀(A:Oa)(d:Li),aA w A d->Apt base (Value.ownBlock (H K l.length c)) A d->aA w3 A d/\Apt base (Value.ownBlock (H K3 (l++[t]).length k3)) A d:=by
  intro A d p q;refine⟨Sl.kept (Sl.below p m) hg (λhc a ha=>(q (λe=>hc (by rw[e];rfl)) a ha).2),λhd a ha=>?_⟩;obtain⟨x,y⟩:=q hd a ha;refine⟨x,?_⟩;rcases hB with rfl|rfl
  ·intro e
   refine y ?_;cases K3 with
   |none=>cases e
   |some b=>exact e
  intro e;have n:Z (w.alloc o).heap.size=Z a.block:=e;injection n with n;have r:a.block<w.heap.size:=by
   obtain⟨b,B,k,j⟩:=p (λe=>hd (by simpa using e));rw[ha]at k;injection k with k;subst k;cases d with
   |nil=>exact absurd rfl hd
   |cons z d=>exact World.block_lt_of_cell? w _ (j 0 _ rfl)
  omega
 have h:∀(v:Oa×Nat×Oa×Nat)(s:Tlr),gC w base (Value.ownBlock (H K l.length c)) v s->gC w3 base (Value.ownBlock (H K3 (l++[t]).length k3)) v s:=λv s g=>⟨(f _ _ g.a g.pa).1,(f _ _ g.a g.pa).2,(f _ _ g.b g.pb).1,(f _ _ g.b g.pb).2⟩
 refine⟨vs++[v],by simp[h1],?_,λi hi hv=>?_⟩
 ·rw[FG v t vs l h1,List.length_append]
  exact ho
 by_cases hil:i<l.length
 ·rw[List.getElem_append_left hil,List.getElem_append_left O]
  exact h _ _ (h3 i hil O)
 obtain rfl:i=l.length:=by simp at hi;omega
 rw[List.getElem_append_right O,List.getElem_append_right O];simp only[h1,Nat.sub_self,List.getElem_cons_zero];exact h _ _ ht
abbrev hH(w:Wv)(P:Nat)(r:Option Nat)(A:Oa)(a:Li):Prop:=gC w P r (A,0,N,0) ⟨a,[],0,false⟩
theorem gC.below'{v:Oa×Nat×Oa×Nat}{t:Tlr}(h:gC w P r v t)(hb:By w w'):gC w' P r v t:=h.kept (q:=N) ⟨hb.os,hb.tape,hb.output,hb.size,λk hk _=>hb.block k hk⟩ (.inr (.inr rfl))
theorem hH.mk'{A:Oa}{a:Li}(h1:aA w A a)(h2:Apt P r A a):hH w P r A a:=⟨h1,h2,λe=>absurd rfl e,λe=>absurd rfl e⟩
theorem Apt.own{n k:Nat}{A:Oa}{a:Li}{n0:Nat}(h:w'.ownsRow n0 3 1 (H A n k) n (a.map (Value.int .i64)))(hP:P<=n0)(hr:∀q,r=Z q->q<n0):Apt P r A a:=λ_ b hb=>by
 have c:=(h.lt b.block (by rw[hb];rfl)).1;exact⟨O,λe=>by have:=hr _ e;omega⟩
structure PsL(P base:Nat)(s:ByteArray)(w:Wv)(j:Nat)(w':Wv):Prop where
 box:PsB w' P s j
 os:w'.os=w.os
 tape:w'.tape=w.tape
 output:w'.output=w.output
 size:w.heap.size<=w'.heap.size
 low:∀q,q<base->q≠P->w'.heap[q]?=w.heap[q]?
section
variable {i j:Nat}{s:ByteArray}{w'':Wv}
theorem PsL.here(h:PsB w P s i):PsL P base s w i w:=⟨h,rfl,rfl,rfl,Nat.le_refl _,λ_ _ _=>rfl⟩
theorem PsL.toq(h:PsL P base s w i w')(h2:aS P s w' j w'')(hb:base<=w.heap.size):PsL P base s w j w'':=
 ⟨h2.box,h2.gr.os.trans h.os,h2.gr.tape.trans h.tape,h2.gr.output.trans h.output,Nat.le_trans h.size h2.gr.size,λq hq hn=>(h2.gr.block q (by have:=h.size;omega) (λe=>hn (by first|(injection e)|(injection e with e;exact e.symm)))).trans (h.low q hq hn)⟩
theorem PsL.at(h:PsL P base s w i w'):gY P w'=i:=by
 unfold gY;rw[h.box.c 1 rfl];rfl
theorem PsL.bel(h:PsL P base s w i w')(hb:Below base w' w'')(hP:P<base):PsL P base s w i w'':=
 ⟨h.box.below hb hP,hb.os.trans h.os,hb.tape.trans h.tape,hb.output.trans h.output,Nat.le_trans h.size hb.size,λq hq hn=>(hb.block q hq).trans (h.low q hq hn)⟩
end
end
theorem EG{s:ByteArray}:∀(n m:Nat)(a:Li)(b:Bool)(l:List Tlr)(i:Nat),i<=s.size->s.size+1-i<=n->s.size+1-i<=m->stpN s n a b l i=stpN s m a b l i
 |0,m,a,b,l,i,hi,h,_=>O
 |n+1,0,a,b,l,i,hi,_,h=>O
 |n+1,m+1,a,b,l,i,hi,h1,h2=>by
  unfold stpN;cases hs:sgn s i with
  |error e=>rfl
  |ok q=>
   obtain⟨k,j⟩:=q;have f:=sgn_ok hs;have g:=blk_le s j;dsimp only;cases hl:lit s (skp s j)with
   |error e=>rfl
   |ok q2=>
    obtain⟨t,d⟩:=q2;have c:=lit_ok hl;dsimp only;split
    ·exact EG n m _ _ _ d c.2 O O
    rfl
def oJ(s:ByteArray)(a:Li)(b:Bool)(l:List Tlr)(i:Nat):Rd (List Tlr):=stpN s (s.size+1-i) a b l i
theorem ZW{s:ByteArray}{a:Li}{b:Bool}{l:List Tlr}{i:Nat}(hi:i<=s.size):oJ s a b l i=match sgn s i with
  | .error e=>.error e
  | .ok (k,j)=>match lit s (skp s j)with
   | .error e=>.error e
   | .ok (t,c)=>if bt s c=60\/bt s c=61 then oJ s t false (l++[⟨a,t,k,b⟩]) c else .ok (l++[⟨a,t,k,b⟩],c):=by
 unfold oJ;rw[show s.size+1-i=(s.size-i)+1 by omega];conv=>lhs;unfold stpN
 cases hs:sgn s i with
 |error e=>rfl
 |ok q=>
  obtain⟨k,j⟩:=q;have f:=sgn_ok hs;have g:=blk_le s j;dsimp only;cases hl:lit s (skp s j)with
  |error e=>rfl
  |ok q2=>
   obtain⟨t,c⟩:=q2;have d:=lit_ok hl;dsimp only;split
   ·exact EG _ _ _ _ _ c d.2 O (Nat.le_refl _)
   rfl
def kS(s:ByteArray)(fst:Bool)(a:Li)(b:Bool)(l:List Tlr)(i:Nat):Rd (List Tlr):=if fst=true\/bt s i=60\/bt s i=61 then oJ s a (b&&fst) l i else .ok (l,i)
theorem KU(s:ByteArray)(l:List Tlr)(i:Nat):chn s l i=match wrd s [38] i with
  | .error e=>.error e
  | .ok (_,c)=>match bfr s (skp s c)with
   | .error e=>.error e
   | .ok (b,d)=>match lit s d with
    | .error e=>.error e
    | .ok (a,f)=>kS s true a b l f:=by
 rw[chn_eq];cases wrd s [38] i with
 |error e=>rfl
 |ok q=>
  obtain⟨u,c⟩:=q;dsimp only;cases bfr s (skp s c)with
  |error e=>rfl
  |ok q2=>
   obtain⟨b,d⟩:=q2;dsimp only;cases lit s d with
   |error e=>rfl
   |ok q3=>
    obtain⟨a,f⟩:=q3;dsimp only;unfold kS oJ;rw[if_pos (.inl rfl),Bool.and_true]
theorem WU{s:ByteArray}{a:Li}{b:Bool}{l:List Tlr}{i:Nat}(h:¬(bt s i=60\/bt s i=61)):kS s false a b l i=.ok (l,i):=by
 unfold kS;rw[if_neg (by rintro(g|g);cases g;exact h g)]
theorem uH{s:ByteArray}{fst:Bool}{a:Li}{b:Bool}{l:List Tlr}{i:Nat}(hi:i<=s.size)(h:fst=true\/bt s i=60\/bt s i=61):kS s fst a b l i=match sgn s i with
  | .error e=>.error e
  | .ok (k,j)=>match lit s (skp s j)with
   | .error e=>.error e
   | .ok (t,c)=>kS s false t b (l++[⟨a,t,k,b&&fst⟩]) c:=by
 unfold kS;rw[if_pos h,ZW hi];cases sgn s i with
 |error e=>rfl
 |ok q=>
  obtain⟨k,j⟩:=q;dsimp only;cases lit s (skp s j)with
  |error e=>rfl
  |ok q2=>
   obtain⟨t,c⟩:=q2;dsimp only;by_cases g:bt s c=60\/bt s c=61
   ·rw[if_pos g,if_pos (.inr g),Bool.and_false]
   rw[if_neg g,if_neg (by rintro(q|q);cases q;exact g q)]
def wK(P base:Nat)(l:List Tlr)(v:Value)(w':Wv):Prop:=∃K c,v=H K l.length c/\dH w' P base K c l
def RdL{α:Type}(P base:Nat)(s:ByteArray)(V:α->Value->Wv->Prop)(r:Rd α)(w:Wv)(e:Ending)(w':Wv):Prop:=
 match r with
 | .ok (a,j)=>(∃v,e=.returned v/\V a v w')/\PsL P base s w j w'
 | .error j=>Flt e/\PsL P base s w j w'
theorem JK{s:ByteArray}{i j:Nat}{b:Bool}(h:bfr s i=.ok (b,j)):(bt s i=91/\∃k,wrd s [91,98,101,102,111,114,101,93] i=.ok ((),k)/\b=true/\j=skp s k)\/(¬bt s i=91/\b=false/\j=i):=by
 unfold bfr at h;split at h
 ·next h0=>
  split at h
  ·cases h
  next u k hk=>
  injection h with h;injection h with h1 h2;exact .inl ⟨h0,k,hk,h1.symm,h2.symm⟩
 next h0=>
 injection h with h;injection h with h1 h2;exact .inr ⟨h0,h1.symm,h2.symm⟩
theorem JL{s:ByteArray}{i f:Nat}(h:bfr s i=.error f):bt s i=91/\wrd s [91,98,101,102,111,114,101,93] i=.error f:=by
 unfold bfr at h;split at h
 ·next h0=>
  split at h
  ·next e hk=>injection h with h;subst h;exact⟨h0,hk⟩
  cases h
 cases h
theorem zAy:Wrd ⟨#[91,98,101,102,111,114,101,93]⟩ [91,98,101,102,111,114,101,93]:=by
 refine⟨rfl,λk h h2=>?_,λx hx=>by simp at hx;omega⟩;match k,h2 with
 |0,_=>rfl
 |1,_=>rfl
 |2,_=>rfl
 |3,_=>rfl
 |4,_=>rfl
 |5,_=>rfl
 |6,_=>rfl
 |7,_=>rfl
theorem UW(P base:Nat)(s:ByteArray)(i:Nat)(K:Oa)(c:Nat)(l:List Tlr)(w:Wv)(hP:PsB w P s i)(hPb:P<base)(hbw:base<=w.heap.size)(hS:dH w P base K c l)(hi:i<=s.size)(hs:s.size<=65536)(hl:l.length<=i):
  Calls prog 59 #[.pointer (Z ⟨P,0,N⟩),H K l.length c] w (RdL P base s (wK P base) (chn s l i) w):=by
 have HP:=G (PsL.here (base:=base) hP);have HS:=G hS;have KN:=G (λj(W:Wv)(h:PsL P base s w j W)(hj:j<=s.size)=>oB P s j W h.box hj);have KE:=G (nU P s ⟨#[38]⟩ [38] i w hP hi O (qM 38 V _ rfl V) V);have KG:=G (λj(W:Wv)(h:PsL P base s w j W)(hj:j<=s.size)=>nU P s ⟨#[91,98,101,102,111,114,101,93]⟩ [91,98,101,102,111,114,101,93] j W h.box hj O zAy V);have KL:=G (λj(W:Wv)(h:PsL P base s w j W)(hj:j<=s.size)=>U_ P s j W h.box hj hs);have KS:=G (λj(W:Wv)(h:PsL P base s w j W)(hj:j<=s.size)=>VL P s j W h.box hj O);have KB:=G (λj(W:Wv)(h:PsL P base s w j W)(hj:j<=s.size)=>rQ P s j W h.box hj O);have KC:=G (λA n k zs(W:Wv)(h:aA W A zs)(hn:zs.length=n)(hb:n<=1048576)=>rX A n k zs W h hn hb);unfold RdR at KE KG KL KS;unfold fR at KC;obtain⟨r,hr⟩:=exQ (chn s l i);have d:=G (hr.symm.trans (KU s l i));rw[hr];clear hP hr hS;cases h1:wrd s [38] i with
 |error f=>
  rw[h1]at d KE;have HF:=U (r=.error f) d.o;clear h1 d;go_enter func59,ntmps59;go_wp2_with fail;refine KE.o.mono ?_
  rintro e W1 ⟨⟨u,pv,rfl⟩,ag⟩;have HW:=G (HP.o.toq ag hbw);clear ag;go_wp2_with fail;rw[HF.o];exact⟨rfl,⟨_,_,rfl⟩,HW.o⟩
 |ok q1=>
 obtain⟨u1,i1⟩:=q1;have cw:=(wrd_ok L h1).2 L;have cx:=(wrd_ok L h1).1;rw[h1]at d KE;dsimp only[List.length]at cx;clear h1;dsimp only at d KE;have bc:=blk_sz cw;have dq:=blk_le s i1;have br:=G (λ(W:Wv) (h:PsL P base s w i1 W)=>KB.o i1 W h cw);obtain⟨b1,cu⟩:=exQ (skp s i1);rw[cu]at d br bc dq;clear cu;go_enter func59,ntmps59;go_wp2_with fail;refine KE.o.mono ?_
 rintro e W1 ⟨⟨v,rfl,rfl⟩,ag⟩;have bp:=G (HP.o.toq ag hbw);have cg:=G (HS.o.ps ag.gr hPb);have ck:=G (br.o W1 bp.o);clear ag KE br HP HS;go_wp2_with fail;refine ck.o.mono ?_
 rintro e W2 ⟨rfl,bz⟩;have bq:=G (bp.o.toq bz hbw);have ch:=G (cg.o.ps bz.gr hPb);have R:=G (KN.o b1 W2 bq.o bc);clear bz ck bp cg;go_wp2_with fail;refine R.o.mono ?_
 rintro e W3 ⟨rfl,b0⟩;have ao:=G (bq.o.toq b0 hbw);have bk:=G (ch.o.ps b0.gr hPb);have ad:=G (KG.o b1 W3 ao.o bc);clear b0 R bq ch KG;cases h2:bfr s b1 with
 |error f=>
  obtain⟨g1,g2⟩:=JL h2;rw[h2]at d;rw[g2]at ad;have HF:=U (r=.error f) d.o;have d1:((bt s b1:Int)==91)=true:=oU_;clear h2 d g1 g2;generalize bt s b1=bb at *;go_wp2_with fail;refine ad.o.mono ?_
  rintro e W4 ⟨⟨u,pv,rfl⟩,y⟩;have HW:=G (ao.o.toq y hbw);clear y;go_wp2_with fail;rw[HF.o];exact⟨rfl,⟨_,_,rfl⟩,HW.o⟩
 |ok q2=>
 obtain⟨bv,i2⟩:=q2;have a2:=G (JK h2);have dr:=bfr_ok h2;rw[h2]at d;clear h2;dsimp only at d;have D:=U (∀bb,bt s b1=bb->bb=bt s b1) (λ_ e=>e.symm);go_upto_if 16 with(fail);go_cut [5] (λs5 wx=>s5=.bool bv/\i2<=s.size/\PsL P base s w i2 wx/\dH wx P base K c l)
 case first=>
  rcases a2.o with⟨g1,k,g2,rfl,rfl⟩|⟨g1,rfl,rfl⟩
  ·have d1:((bt s b1:Int)==91)=true:=oU_
   have hk:=(wrd_ok L g2).2 L;rw[g2]at ad;dsimp only at ad;have dt:=blk_sz hk;have cl:=G (λ(W:Wv) (h:PsL P base s w k W)=>KB.o k W h hk);clear g1 g2 a2 D;generalize bt s b1=bb at *;generalize skp s k=k2 at *;go_wp2_with fail;refine ad.o.mono ?_
   rintro e W4 ⟨⟨v,rfl,rfl⟩,y⟩;have ap:=G (ao.o.toq y hbw);have a3:=G (bk.o.ps y.gr hPb);have di:=G (cl.o W4 ap.o);clear y cl;go_wp2_with fail;refine di.o.mono ?_
   rintro e W5 ⟨rfl,g⟩;have dg:=G (ap.o.toq g hbw);have ab:=G (a3.o.ps g.gr hPb);clear g;go_wp2;go_meet;exact⟨rfl,dt,dg.o,ab.o⟩
  have d1:((bt s i2:Int)==91)=false:=oU_;clear g1 a2 D;generalize bt s i2=bb at *;go_wp2;go_meet;exact⟨rfl,bc,ao.o,bk.o⟩
 obtain⟨rfl,cy,c1,c2⟩:=hcut;have aq:=G c1;have bm:=G c2;clear c1 c2 a2 D ao bk ad;have Q:=G (KL.o i2 wc aq.o cy);cases h3:lit s i2 with
 |error f=>
  rw[h3]at d Q;have HF:=U (r=.error f) d.o;clear h3 d;go_wp2_with fail;refine Q.o.mono ?_
  rintro e W4 ⟨⟨u,pv,rfl⟩,y⟩;have HW:=G (aq.o.toq y hbw);clear y;go_wp2_with fail;rw[HF.o];exact⟨rfl,⟨_,_,rfl⟩,HW.o⟩
 |ok q3=>
  obtain⟨a0,i3⟩:=q3;have cz:=lit_ok h3;have eh:=(lit_bd h3).2;rw[h3]at d Q;clear h3;dsimp only at d Q;have cf:=U (r=kS s true a0 bv l i3) d.o;clear d;unfold AP at Q KL;go_wp2_with fail;refine Q.o.mono ?_
  rintro e W4 ⟨⟨v,rfl,A0,dn,rfl,bw⟩,y⟩;have ap:=G (aq.o.toq y hbw);have a3:=G (bm.o.ps y.gr hPb);have ee:base<=wc.heap.size:=Nat.le_trans hbw aq.o.size;have ca:=G (hH.mk' (P:=base) (r:=Value.ownBlock (H K l.length c)) (Sl.of_own bw) (Apt.own bw O (λq hq=>(bm.o.lt q hq).2)));clear y bw Q bm aq;go_wp2;go_loopw [1,6,7] (λst an fs wr=>∃(m:List Tlr)(Km:Oa)(cm:Nat)(a9:Bool)(a:Li)(A:Oa)(ac p:Nat),p<=s.size/\m.length<=p/\a.length<=65536/\st=H Km m.length cm/\an=H A a.length ac/\fs=.bool a9/\Hi (r=kS s a9 a bv m p)/\PsL P base s w p wr/\dH wr P base Km cm m/\hH wr base (Value.ownBlock (H Km m.length cm)) A a) (λ_ _ _ wr=>s.size-gY P wr)
  case atStart=>exact⟨l,K,c,true,a0,A0,dn,i3,cz.2,by have:=dr.1;omega,by have:=cz.2;omega,rfl,rfl,rfl,cf,ap.o,a3.o,ca.o⟩
  obtain⟨m,Km,cm,a9,a,A,ac,p,hp,ei,ec,rfl,rfl,rfl,hb,b2,c3,ct⟩:=hrel;have HR:=G b2;have ce:=G b2.at;have am:=G c3;have HA:=G ct;clear b2 c3 ct cf ap a3 ca;cases a9
  case' true=>
   have x:=G (hb.o.trans (uH hp (.inl rfl)));clear hb;have al:=HR;have bo:=am;have bh:=HA;clear HR am HA
  case' false=>
   have af:=G (KN.o p _ HR.o hp);by_cases h60:bt s p=60
   case' pos=>
    have d1:((bt s p:Int)==60)=true:=oU_;have x:=G (hb.o.trans (uH hp (.inr (.inl h60))));clear h60 hb;generalize bt s p=bb at *;go_wp2_with fail;refine af.o.mono ?_
    rintro e W5 ⟨rfl,g⟩;have al:=G (HR.o.toq g hbw);have bo:=G (am.o.ps g.gr hPb);have bh:=G (HA.o.kept g.gr (.inl ⟨P,rfl,hPb⟩));clear g af
   case' neg=>
    have d1:((bt s p:Int)==60)=false:=oU_;have R:=G (λ(W:Wv) (h:PsL P base s w p W)=>KN.o p W h hp);by_cases h61:bt s p=61
    case' pos=>
     have d2:((bt s p:Int)==61)=true:=oU_;have x:=G (hb.o.trans (uH hp (.inr (.inr h61))));clear h60 h61 hb;generalize bt s p=bb at *;go_wp2_with fail;refine af.o.mono ?_
     rintro e W5 ⟨rfl,g⟩;have aa:=G (HR.o.toq g hbw);have ab:=G (am.o.ps g.gr hPb);have cb:=G (HA.o.kept g.gr (.inl ⟨P,rfl,hPb⟩));have au:=G (R.o W5 aa.o);clear g af R;go_wp2_with fail;refine au.o.mono ?_
     rintro e W6 ⟨rfl,E⟩;have al:=G (aa.o.toq E hbw);have bo:=G (ab.o.ps E.gr hPb);have bh:=G (cb.o.kept E.gr (.inl ⟨P,rfl,hPb⟩));clear E au aa ab cb
    case' neg=>
     have d2:((bt s p:Int)==61)=false:=oU_;have HF:=G (hb.o.trans (WU (by rintro(q|q);exact h60 q;exact h61 q)));clear h60 h61 hb;generalize bt s p=bb at *;go_wp2_with fail;refine af.o.mono ?_
     rintro e W5 ⟨rfl,g⟩;have aa:=G (HR.o.toq g hbw);have ab:=G (am.o.ps g.gr hPb);have au:=G (R.o W5 aa.o);clear g af R;go_wp2_with fail;refine au.o.mono ?_
     rintro e W6 ⟨rfl,E⟩;have de:=G (aa.o.toq E hbw);have df:=G (ab.o.ps E.gr hPb);clear E au;go_wp2;go_ret;rw[HF.o];exact⟨⟨_,rfl,_,_,rfl,df.o⟩,de.o⟩
  all_goals
   have S:=G (KS.o p _ al.o hp);cases h4:sgn s p with
   |error f=>
    rw[h4]at x S;have HF:=U (r=.error f) x.o;clear h4 x;go_wp2_with fail;refine S.o.mono ?_
    rintro e W7 ⟨⟨u,pv,rfl⟩,X⟩;have HW:=G (al.o.toq X hbw);clear X;go_wp2_with fail;rw[HF.o];exact⟨rfl,⟨_,_,rfl⟩,HW.o⟩
   |ok q4=>
    obtain⟨kk,j1⟩:=q4;have bd:=sgn_ok h4;have ds:=blk_sz bd.2;have ef:=blk_le s j1;rw[h4]at x S;clear h4;dsimp only at x S;have cn:=G (λ(W:Wv) (h:PsL P base s w j1 W)=>KB.o j1 W h bd.2);have cp:=G (λ(W:Wv) (h:PsL P base s w (skp s j1) W)=>KL.o (skp s j1) W h ds);generalize skp s j1=j2 at *;unfold nY at S;go_wp2_with fail;refine S.o.mono ?_
    rintro e W7 ⟨⟨v,rfl,rfl⟩,X⟩;have bi:=G (al.o.toq X hbw);have ci:=G (bo.o.ps X.gr hPb);have cc:=G (bh.o.kept X.gr (.inl ⟨P,rfl,hPb⟩));have co:=G (cn.o W7 bi.o);clear X S cn;go_wp2_with fail;refine co.o.mono ?_
    rintro e W8 ⟨rfl,be⟩;have aj:=G (bi.o.toq be hbw);have bl:=G (ci.o.ps be.gr hPb);have cd:=G (cc.o.kept be.gr (.inl ⟨P,rfl,hPb⟩));have ae:=G (cp.o W8 aj.o);clear be co cp bi ci cc;cases h5:lit s j2 with
    |error f=>
     rw[h5]at x ae;have HF:=U (r=.error f) x.o;clear h5 x;go_wp2_with fail;refine ae.o.mono ?_
     rintro e W9 ⟨⟨u,pv,rfl⟩,Y⟩;have HW:=G (aj.o.toq Y hbw);clear Y;go_wp2_with fail;rw[HF.o];exact⟨rfl,⟨_,_,rfl⟩,HW.o⟩
    |ok q5=>
     obtain⟨tx,j3⟩:=q5;have c0:=lit_ok h5;have eg:=(lit_bd h5).2;rw[h5]at x ae;clear h5;dsimp only at x ae;go_wp2_with fail;refine ae.o.mono ?_
     rintro e W9 ⟨⟨v,rfl,B0,av,rfl,bx⟩,Y⟩;have bj:=G (aj.o.toq Y hbw);have cj:=G (bl.o.ps Y.gr hPb);have a1:=G (cd.o.kept Y.gr (.inl ⟨P,rfl,hPb⟩));have ed:base<=W8.heap.size:=Nat.le_trans hbw aj.o.size;have cv:base<=W9.heap.size:=Nat.le_trans hbw bj.o.size;have D:=G (hH.mk' (P:=base) (r:=Value.ownBlock (H Km m.length cm)) (Sl.of_own bx) (Apt.own bx O (λq hq=>(bl.o.lt q hq).2)));obtain⟨vs,c4,c5,c6⟩:=cj.o.ex;have a5:=G c5;have a6:=G (λ(o:Obj) (w3:Wv) (K3:Oa) (k3:Nat) (v:Oa×Nat×Oa×Nat) (t:Tlr) ho hg hB ht=>dH.app (P:=P) (base:=base) c4 c6 (o:=o) (w3:=w3) (K3:=K3) (k3:=k3) (v:=v) (t:=t) ho hg hB ht);have a4:=G (λ(b:Bool)=>show gC W9 base (Value.ownBlock (H Km m.length cm)) (A,ac,B0,av) ⟨a,tx,kk,b⟩from⟨a1.o.a,a1.o.pa,D.o.a,D.o.pa⟩);clear Y bx ae aj bl cd c4 c5 c6 cj;cases bv
     all_goals first
      | (go_wp2_with(at_builtin;refine a_ _ _ 44 35 (.agg #[H N 0 0,H N 0 0,I J 0,.bool false]) 4 64 rfl rfl underlying44 mY rfl V V rfl (a5.o.alloc _) rfl (bI W9 (cQ (A,ac,B0,av) ⟨a,tx,kk,true⟩) _ rfl) oR_ (by intro u hu;simp only[cQ,List.mem_cons,List.not_mem_nil,or_false]at hu;rcases hu with rfl|rfl|rfl|rfl<;>rfl) O oU_ ?_;intro K3 k3 w3 C bu ax T aw)
         have M:=G (a6.o _ w3 K3 k3 _ _ C T aw (a4.o true))
         have F:=G ((bj.o.bel ((Below.refl _ _).alloc cv _) hPb).bel ax hPb)
         have ai:=G (((D.o.below' (ba _ _)).kept T (.inr (.inl rfl))).a)
         have b3:=F.o.size
         have ar:=G (KC.o B0 tx.length av tx w3 ai.o rfl O)
         clear C bu ax T aw a5 a6 a4 D a1 ai
         go_wp2_with fail
         refine ar.o.mono ?_
         rintro e dm ⟨A',c',rfl,B,z⟩
         have bg:=G (hH.mk' (P:=base) (r:=Value.ownBlock (H K3 (m++[(⟨a,tx,kk,true⟩:Tlr)]).length k3)) (Sl.of_own B) (Apt.own B O (λq hq=>(M.o.lt q hq).2)))
         have bn:=G (M.o.below z)
         have ak:=G (F.o.bel (z.mono (Nat.le_trans hbw b3)) hPb)
         clear B z ar M F
         go_wp2
         go_roundw
         case rel=>exact⟨m++[(⟨a,tx,kk,true⟩:Tlr)],K3,k3,false,tx,A',c',j3,c0.2,oU_,O,by rw[List.length_append];rfl,rfl,rfl,x,ak.o,bn.o,bg.o⟩
         case measure=>
          have q1:=ak.o.at
          have q2:=ce.o
          have q3:=bd.1
          omega)
      | (go_wp2_with(at_builtin;refine a_ _ _ 44 35 (.agg #[H N 0 0,H N 0 0,I J 0,.bool false]) 4 64 rfl rfl underlying44 mY rfl V V rfl (a5.o.alloc _) rfl (bI W9 (cQ (A,ac,B0,av) ⟨a,tx,kk,false⟩) _ rfl) oR_ (by intro u hu;simp only[cQ,List.mem_cons,List.not_mem_nil,or_false]at hu;rcases hu with rfl|rfl|rfl|rfl<;>rfl) O oU_ ?_;intro K3 k3 w3 C bu ax T aw)
         have M:=G (a6.o _ w3 K3 k3 _ _ C T aw (a4.o false))
         have F:=G ((bj.o.bel ((Below.refl _ _).alloc cv _) hPb).bel ax hPb)
         have ai:=G (((D.o.below' (ba _ _)).kept T (.inr (.inl rfl))).a)
         have b3:=F.o.size
         have ar:=G (KC.o B0 tx.length av tx w3 ai.o rfl O)
         clear C bu ax T aw a5 a6 a4 D a1 ai
         go_wp2_with fail
         refine ar.o.mono ?_
         rintro e dm ⟨A',c',rfl,B,z⟩
         have bg:=G (hH.mk' (P:=base) (r:=Value.ownBlock (H K3 (m++[(⟨a,tx,kk,false⟩:Tlr)]).length k3)) (Sl.of_own B) (Apt.own B O (λq hq=>(M.o.lt q hq).2)))
         have bn:=G (M.o.below z)
         have ak:=G (F.o.bel (z.mono (Nat.le_trans hbw b3)) hPb)
         clear B z ar M F
         go_wp2
         go_roundw
         case rel=>exact⟨m++[(⟨a,tx,kk,false⟩:Tlr)],K3,k3,false,tx,A',c',j3,c0.2,oU_,O,by rw[List.length_append];rfl,rfl,rfl,x,ak.o,bn.o,bg.o⟩
         case measure=>
          have q1:=ak.o.at
          have q2:=ce.o
          have q3:=bd.1
          omega)
theorem KJ(p q r:Addr)(w:Wv):
  CallsD prog 57 #[.pointer (Z p),.pointer (Z q),.pointer (Z r)] .returning w λe u' w'=>e=.returned (.tuple #[])/\u'=.returning/\w'=w:=by
 have a:∀w:Wv,(binOp BinOp.neq 20 .nilIface .nilIface).run prog w=.ok (.bool false) w:=λ_=>oK_
 refine callsD_of_wpS func57 rfl λc₀ cs hu=>?_
 apply wpS_seq;apply wpS_region;simp[wpOpsS,go_sem,recoverD,hu,ntmps57,Exit.thenS,a];refine wpS_cond (t:=false) (by simp[Act.eval,Array.replicate]) ?_;simp only[Bool.false_eq_true,if_false];refine wpS_of_wp (wp_skip ?_);cases c₀
 simp_all [bodyPostS,results,results57]
theorem KK(pb qb rb P:Nat)(at_:Int)(s0 z0 z1:Value)(u:TypeId)(pv:Value)(older:List PanicEntry)(w:Wv)(h1:w.cell? ⟨pb,0,N⟩=Z (.pointer (Z ⟨P,0,N⟩)))(h2:w.cell? ⟨P,1,N⟩=Z (I J at_))(h3:w.cell? ⟨qb,0,N⟩=Z s0)(h4:w.cell? ⟨rb,0,N⟩=Z z0)(h5:w.cell? ⟨rb,1,N⟩=Z z1)
  (f3:w.frozen? ⟨qb,0,N⟩=false) (f4:w.frozen? ⟨rb,0,N⟩=false) (f5:w.frozen? ⟨rb,1,N⟩=false) (hqr:qb≠rb) :
  CallsD prog 57 #[.pointer (Z ⟨pb,0,N⟩),.pointer (Z ⟨qb,0,N⟩),.pointer (Z ⟨rb,0,N⟩)] (.panicking ({ v:=.iface u pv,recovered:=false }::older)) w λe u' w'=>
   e=.returned (.tuple #[])/\u'=.panicking ({ v:=.iface u pv,recovered:=true }::older)/\w'=((w.setCell ⟨qb,0,N⟩ (H N 0 0)).setCell ⟨rb,0,N⟩ (I J 3)).setCell ⟨rb,1,N⟩ (I J at_):=by
 have a:∀w:Wv,(binOp BinOp.neq 20 (.iface u pv) .nilIface).run prog w=.ok (.bool true) w:=λ_=>oK_
 refine callsD_of_wpS func57 rfl λc₀ cs hu=>?_
 apply wpS_seq;apply wpS_region;simp[wpOpsS,go_sem,recoverD,hu,ntmps57,Exit.thenS,a];refine wpS_cond (t:=true) (by simp[Act.eval,Array.replicate]) ?_;simp only[if_true];refine wpS_of_wp ?_;go_wp2_with fail;clear h1 h2 h3 h4 h5 f3 f4 f5 a;generalize World.setCell _ _ _=w9;cases c₀
 simp_all [bodyPostS,results,results57]
def fU(w:Wv)(K:Oa)(l:List Tlr):Prop:=∃vs:List (Oa×Nat×Oa×Nat),vs.length=l.length/\Sl w K (fF vs l)/\∀i,(hi:i<l.length)->(hv:i<vs.length)->aA w vs[i].1 l[i].anc/\aA w vs[i].2.2.1 l[i].cds
theorem dH.tlrs{w:Wv}{P base c:Nat}{K:Oa}{l:List Tlr}(h:dH w P base K c l):fU w K l:=by
 obtain⟨vs,b,d,a⟩:=h.ex;exact⟨vs,b,Sl.of_own d,λi hi hv=>⟨(a i hi hv).a,(a i hi hv).b⟩⟩
def vI(r:List Tlr×Int×Int)(w:Wv)(e:Ending)(w':Wv):Prop:=∃K c,e=.returned (.tuple #[H K r.1.length c,.agg #[I J r.2.1,I J r.2.2]])/\fU w' K r.1/\By w w'
theorem EF{s:ByteArray}:∀{n:Nat}{a:Li}{b:Bool}{l m:List Tlr}{i j:Nat},stpN s n a b l i=.ok (m,j)->m.length+i<=l.length+j
 |0,a,b,l,m,i,j,h=>by
  injection h with h;injection h with h h';subst h;subst h';exact Nat.le_refl _
 |n+1,a,b,l,m,i,j,h=>by
  unfold stpN at h;split at h
  ·cases h
  next j1 h1=>
  have d:=sgn_ok h1;split at h
  ·cases h
  next j2 h2=>
  have e:=lit_ok h2;have f:=blk_le s j1;split at h
  ·have c:=EF h
   simp at c;omega
  injection h with h;injection h with h h';subst h;subst h';simp;omega
theorem KX{s:ByteArray}{l m:List Tlr}{i j:Nat}(h:chn s l i=.ok (m,j)):m.length+i<=l.length+j:=by
 rw[chn_eq]at h;split at h
 ·cases h
 next u i1 h1=>
 have a:=(wrd_ok L h1).1;have c:=blk_le s i1;simp at a;split at h
 ·cases h
 next b i2 h2=>
 have d:=(bfr_ok h2).1;split at h
 ·cases h
 next h3=>
 have e:=lit_ok h3;have f:=EF h;omega
theorem wQ{s:ByteArray}:∀(n m:Nat)(l:List Tlr)(i:Nat),s.size-i<=n->s.size-i<=m->chsN s n l i=chsN s m l i
 |0,0,l,i,_,_=>rfl
 |0,m+1,l,i,h,_=>by
  have e:chsN s (m+1) l i=.ok (l,i):=by unfold chsN;rw[if_neg O]
  rw[e];rfl
 |n+1,0,l,i,_,h=>by
  have e:chsN s (n+1) l i=.ok (l,i):=by unfold chsN;rw[if_neg O]
  rw[e];rfl
 |n+1,m+1,l,i,h1,h2=>by
  unfold chsN;by_cases h0:i<s.size
  ·rw[if_pos h0,if_pos h0]
   cases hc:chn s l i with
   |error e=>rfl
   |ok q=>
    obtain⟨a,j⟩:=q;have:=chn_ok hc;dsimp only;exact wQ n m a j O O
  rw[if_neg h0,if_neg h0]
def l_(s:ByteArray)(l:List Tlr)(i:Nat):Rd (List Tlr):=chsN s (s.size-i) l i
theorem K_{s:ByteArray}{l:List Tlr}{i:Nat}(h:¬i<s.size):l_ s l i=.ok (l,i):=by
 unfold l_;cases s.size-i with
 |zero=>rfl
 |succ n=>unfold chsN;rw[if_neg h]
theorem KZ{s:ByteArray}{l:List Tlr}{i:Nat}(h:i<s.size):l_ s l i=match chn s l i with | .error e=>.error e | .ok (m,j)=>l_ s m j:=by
 unfold l_;rw[show s.size-i=(s.size-(i+1))+1 by omega];conv=>lhs;unfold chsN
 rw[if_pos h];cases hc:chn s l i with
 |error e=>rfl
 |ok q=>
  obtain⟨m,j⟩:=q;have:=chn_ok hc;dsimp only;exact wQ _ _ m j O (Nat.le_refl _)
def uI(r:Rd (List Tlr)):List Tlr×Int×Int:=match r with | .error e=>([],3,e) | .ok (l,_)=>(l,0,0)
theorem UP{s:ByteArray}(h:¬65536<s.size):parseF s=uI (parse s):=by
 unfold parseF;rw[if_neg h];cases parse s<;>rfl
structure PaS(w:Wv)(n:Nat)(s:ByteArray)(K:Oa)(c:Nat)(l:List Tlr)(p:Nat)(wr:Wv):Prop where
 bS:Box wr n 44 [H K l.length c]
 bF:Box wr (n+1) 47 [I J 0,I J 0]
 bP:PsB wr (n+1+1) s p
 bV:Box wr (n+1+1+1) 100 [.pointer (Z ⟨n+1+1,0,N⟩)]
 st:dH wr (n+1+1) (n+1+1+1+1) K c l
 bel:Below n w wr
 sz:n+1+1+1+1<=wr.heap.size
section
variable {w wr W:Wv}{n c p j c':Nat}{s:ByteArray}{K K':Oa}{l l':List Tlr}
theorem PaS.below(h:PaS w n s K c l p wr)(hb:By wr W):PaS w n s K c l p W:=by
 have:=h.sz;exact⟨h.bS.below hb h.bS.lt,h.bF.below hb h.bF.lt,h.bP.below hb h.bP.lt,h.bV.below hb h.bV.lt,h.st.below hb,h.bel.trans (hb.mono O),by have:=hb.size;omega⟩
theorem PaS.low(h:PaS w n s K c l p wr)(hp:PsL (n+1+1) (n+1+1+1+1) s wr j W):Box W n 44 [H K l.length c]/\Box W (n+1) 47 [I J 0,I J 0]/\PsB W (n+1+1) s j/\Box W (n+1+1+1) 100 [.pointer (Z ⟨n+1+1,0,N⟩)]/\Below n w W:=
 ⟨(hp.low n O O).trans h.bS,(hp.low _ O O).trans h.bF,hp.box,(hp.low _ O O).trans h.bV,h.bel.trans ⟨hp.os,hp.tape,hp.output,hp.size,λq hq=>hp.low q O O⟩⟩
theorem dH.set{P base q o:Nat}(h:dH wr P base K c l)(hq:q<base)(v:Value):dH (wr.setCell ⟨q,o,N⟩ v) P base K c l:=by
 obtain⟨vs,a,b,d⟩:=h.ex;exact⟨vs,a,lO b (bR wr ⟨q,o,N⟩ v) hq,λi hi hv=>(d i hi hv).kept (bR wr ⟨q,o,N⟩ v) (.inl ⟨q,rfl,hq⟩)⟩
theorem PaS.next(h:PaS w n s K c l p wr)(hp:PsL (n+1+1) (n+1+1+1+1) s wr j W)(hs:dH W (n+1+1) (n+1+1+1+1) K' c' l'):PaS w n s K' c' l' j (W.setCell ⟨n,0,N⟩ (H K' l'.length c')):=by
 obtain⟨a,b,d,e,f⟩:=h.low hp;have hz:=h.sz;refine⟨a.set 0 _,b.grown (bR W ⟨n,0,N⟩ _) L,d.grown (bR W ⟨n,0,N⟩ _) oU_,e.grown (bR W ⟨n,0,N⟩ _) oU_,hs.set O _,f.setCell (Nat.le_refl _) _,?_⟩;have:=hp.size;simp;omega
end
theorem AT(s:ByteArray)(w:Wv)(hs:s.size<=9223372036854775806):Calls prog 19 #[.string s] w (vI (parseF s) w):=by
 have a5:∀(fn:Fn)(first cap:Array Value)(w:Wv),(Instr.makeFunc fn first cap).run prog w=.ok (.func fn first cap) w:=λ_ _ _ _=>rfl
 by_cases hbig:65536<s.size
 ·have d1:decide ((65536:Int)<(s.size:Int))=true:=oU_
  have hr:parseF s=([],2,0):=by unfold parseF;rw[if_pos hbig]
  rw[hr];go_enter_defers func19,ntmps19;go_wp2_with fail;refine⟨.tuple #[H N 0 0,.agg #[I J 2,I J 0]],by simp[results,results19,go_sem],?_⟩;exact⟨N,0,rfl,⟨[],rfl,λh=>absurd rfl h,λi hi _=>absurd hi L⟩,(ba _ _).alloc L _⟩
 have d1:decide ((65536:Int)<(s.size:Int))=false:=oU_;have ao:s.size<=65536:=O;obtain⟨r,hr⟩:=exQ (parse s);have E:=U (parseF s=uI r) (by rw[<-hr];exact UP hbig);have F:=U (r=l_ s [] (skp s 0)) hr.symm;have am:=blk_sz (s:=s) (i:=0) (Nat.zero_le _);generalize parseF s=pf at *;have B0:By w ((((w.alloc (.cells #[H N 0 0] 44)).alloc (.cells #[I J 0,I J 0] 47)).alloc (.cells #[.string s,I J 0] 102)).alloc (.cells #[.pointer (Z ⟨w.heap.size+1+1,0,N⟩)] 100)):=(((ba _ _).alloc L _).alloc oT_ _).alloc oT_ _;have XS:Box ((((w.alloc (.cells #[H N 0 0] 44)).alloc (.cells #[I J 0,I J 0] 47)).alloc (.cells #[.string s,I J 0] 102)).alloc (.cells #[.pointer (Z ⟨w.heap.size+1+1,0,N⟩)] 100)) w.heap.size 44 [H N 0 0]:=(((Box.new w 44 [H N 0 0] rfl).below (B:=w.heap.size+1) ((Below.refl _ _).alloc L _) O).below (B:=w.heap.size+1) ((Below.refl _ _).alloc oT_ _) O).below (B:=w.heap.size+1) ((Below.refl _ _).alloc oT_ _) O;have XF:Box ((((w.alloc (.cells #[H N 0 0] 44)).alloc (.cells #[I J 0,I J 0] 47)).alloc (.cells #[.string s,I J 0] 102)).alloc (.cells #[.pointer (Z ⟨w.heap.size+1+1,0,N⟩)] 100)) (w.heap.size+1) 47 [I J 0,I J 0]:=((Box.new _ 47 [I J 0,I J 0] L).below (B:=w.heap.size+1+1) ((Below.refl _ _).alloc L _) O).below (B:=w.heap.size+1+1) ((Below.refl _ _).alloc oT_ _) O;have X:Box ((((w.alloc (.cells #[H N 0 0] 44)).alloc (.cells #[I J 0,I J 0] 47)).alloc (.cells #[.string s,I J 0] 102)).alloc (.cells #[.pointer (Z ⟨w.heap.size+1+1,0,N⟩)] 100)) (w.heap.size+1+1) 102 [.string s,I J 0]:=(Box.new _ 102 [.string s,I J 0] L).below (B:=w.heap.size+1+1+1) ((Below.refl _ _).alloc L _) O;have XV:Box ((((w.alloc (.cells #[H N 0 0] 44)).alloc (.cells #[I J 0,I J 0] 47)).alloc (.cells #[.string s,I J 0] 102)).alloc (.cells #[.pointer (Z ⟨w.heap.size+1+1,0,N⟩)] 100)) (w.heap.size+1+1+1) 100 [.pointer (Z ⟨w.heap.size+1+1,0,N⟩)]:=Box.new _ _ _ L;have HZ:w.heap.size+1+1+1+1<=(((((w.alloc (.cells #[H N 0 0] 44)).alloc (.cells #[I J 0,I J 0] 47)).alloc (.cells #[.string s,I J 0] 102)).alloc (.cells #[.pointer (Z ⟨w.heap.size+1+1,0,N⟩)] 100))).heap.size:=L;have ag:∃M,((((w.alloc (.cells #[H N 0 0] 44)).alloc (.cells #[I J 0,I J 0] 47)).alloc (.cells #[.string s,I J 0] 102)).alloc (.cells #[.pointer (Z ⟨w.heap.size+1+1,0,N⟩)] 100))=M:=⟨_,rfl⟩;clear hbig hr;go_enter_defers func19,ntmps19;go_wp2_with fail;obtain⟨M,P⟩:=ag;try rw[P]at B0 XS XF X XV HZ|-
 clear P;have C:=U (PaS w w.heap.size s N 0 [] 0 M) (⟨XS,XF,X,XV,dH.nil _ _ _,B0,HZ⟩);have KB:=G (rQ (w.heap.size+1+1) s 0 M X (Nat.zero_le _) O);clear XS XF X XV HZ B0;generalize hn:w.heap.size=n at *;have HN:=G hn;clear hn;generalize skp s 0=p0 at *;refine KB.o.mono ?_
 rintro e W1 ⟨rfl,A⟩
 have H1:=U (PaS w n s N 0 [] p0 W1) (by
  have hz:=C.o.sz
  have hg:=A.gr
  have q:∀b,b<n+1+1+1+1->b≠n+1+1->W1.heap[b]?=M.heap[b]?:=λb hb hne=>hg.block b O (λe=>hne (by first|(injection e)|(injection e with e;exact e.symm)))
  exact⟨(q n O O).trans C.o.bS,(q _ O O).trans C.o.bF,A.box,(q _ O O).trans C.o.bV,dH.nil _ _ _,C.o.bel.trans ⟨hg.os,hg.tape,hg.output,hg.size,λk hk=>q k O O⟩,Nat.le_trans hz hg.size⟩)
 clear A KB C;go_wp2;go_loopw [] (λwr=>∃(K:Oa)(c:Nat)(l:List Tlr)(p:Nat),p<=s.size/\l.length<=p/\Hi (r=l_ s l p)/\PaS w n s K c l p wr) (λwr=>s.size-gY (n+1+1) wr)
 case atStart=>exact⟨N,0,[],p0,am,Nat.zero_le _,F,H1.o⟩
 obtain⟨K,c,l,p,hp,an,hb,t⟩:=hrel;have V:=G t;have c1:=t.bP.c 1 rfl;have c0:=t.bP.c 0 rfl;have cv:=t.bV.c 0 rfl;clear t H1 F;by_cases hlt:p<s.size
 ·have d2:decide ((p:Int)<(s.size:Int))=true:=oU_
  have g:=G (hb.o.trans (KZ hlt));have ab:=U (gY (n+1+1) wr=p) (by unfold gY;rw[c1];rfl);have R:=λm j=>chn_ok (s:=s) (l:=l) (m:=m) (i:=p) (j:=j)
  have Q:=λm j=>KX (s:=s) (l:=l) (m:=m) (i:=p) (j:=j)
  have KC:=G (λ(W:Wv) (h:PaS w n s K c l p W)=>UW (n+1+1) (n+1+1+1+1) s p K c l W h.bP O h.sz h.st hp ao an);unfold RdL at KC;go_wp2;go_quiet(fail);have a:=G (V.o.below (fW wr nq));clear c0 c1 cv V hb;generalize World.drewN wr nq=w2 at *;have d:=G (KC.o w2 a.o);have cv:=a.o.bV.c 0 rfl;have cs:=a.o.bS.c 0 rfl;clear KC;cases hc:chn s l p with
  |error f=>
   rw[hc]at g d;have HF:=U (r=.error f) g.o;clear hc g;go_wp2_with fail;refine d.o.mono ?_
   rintro e W3 ⟨⟨u,pv,rfl⟩,o⟩;have T:=G (a.o.low o);clear o d;go_wp2_with fail;obtain⟨Y,q2,q3,q4,q5⟩:=T.o;have z:=Y.c 0 rfl;obtain⟨x,y⟩:=q2.k2;refine leaves_cons (f:=57) (args:=#[.pointer (Z ⟨n+1+1+1,0,N⟩),.pointer (Z ⟨n,0,N⟩),.pointer (Z ⟨n+1,0,N⟩)]) L (by simp[go_sem]) ?_;refine(KK (n+1+1+1) n (n+1) (n+1+1) f _ _ _ u pv [] W3 (q4.c 0 rfl) (q3.c 1 rfl) z x y (Y.free 0) (q2.free 0) (q2.free 1) O).mono ?_;rintro e u' aq ⟨rfl,rfl,rfl⟩;refine⟨.tuple #[H N 0 0,.agg #[I J 3,I J f]],by simp[results,results19,go_sem,z,x,y],?_⟩;rw[E.o,HF.o];refine⟨N,0,rfl,⟨[],rfl,λh=>absurd rfl h,λi hi _=>absurd hi (by simp[uI])⟩,?_⟩;show Below w.heap.size w _;rw[HN.o];exact((q5.setCell (Nat.le_refl _) _).setCell L _).setCell L _
  |ok q=>
   obtain⟨m,j⟩:=q;have hj:=R m j hc;have hm:=Q m j hc;rw[hc]at g d;dsimp only at g d;clear hc R Q;unfold wK at d;go_wp2_with fail;refine d.o.mono ?_
   rintro e W3 ⟨⟨v,rfl,K',c',rfl,S⟩,o⟩;have D:=G (a.o.next o S);have T:=G (a.o.low o);have z:=T.o.1.c 0 rfl;have a4:=T.o.1.free 0;clear S o d cv cs;go_wp2;go_roundw
   case rel=>exact⟨K',c',m,j,hj.2,O,g,D.o⟩
   have Y:gY (n+1+1) (W3.setCell ⟨n,0,N⟩ (H K' m.length c'))=j:=by
    unfold gY;rw[D.o.bP.c 1 rfl];rfl
   rw[Y,ab.o];omega
 have d2:decide ((p:Int)<(s.size:Int))=false:=oU_;have HF:=G (hb.o.trans (K_ hlt));go_wp2;go_quiet(fail);have a:=G (V.o.below (fW wr nq));clear c0 c1 cv V hb;generalize World.drewN wr nq=w2 at *;have cs:=a.o.bS.c 0 rfl;have fs:=a.o.bS.free 0;obtain⟨x,y⟩:=a.o.bF.k2;obtain⟨a2,a3⟩:=a.o.bF.f2;go_wp2_with fail;refine leaves_cons (f:=57) (args:=#[.pointer (Z ⟨n+1+1+1,0,N⟩),.pointer (Z ⟨n,0,N⟩),.pointer (Z ⟨n+1,0,N⟩)]) L (by simp[go_sem]) ?_;refine(KJ _ _ _ _).mono ?_;rintro e u' aq ⟨rfl,rfl,rfl⟩;refine⟨.tuple #[H K l.length c,.agg #[I J 0,I J 0]],by simp[results,results19,go_sem,cs,x,y],?_⟩;rw[E.o,HF.o];refine⟨K,c,rfl,(((a.o.st.set O _).set O _).set O _).tlrs,?_⟩;show Below w.heap.size w _;rw[HN.o];exact((a.o.bel.setCell (Nat.le_refl _) _).setCell L _).setCell L _
end
section
open Go.RowKit Go.Maps Go.WideMaps Tl
theorem uR(x:Nrm)(c:Col)(t:Tlr):cO x c t=stepP x c t:=by
 unfold cO stepP kM;by_cases h1:bW x≠0
 ·rw[if_pos h1,if_pos h1,if_pos h1]
 rw[if_neg h1,if_neg h1];by_cases h2:aK c≠0
 ·rw[if_pos h2,if_pos h2,if_pos h2]
 rw[if_neg h2,if_neg h2];cases h3:kndT t with
 |false=>simp
 |true=>
  cases h4:rngT t.anc with
  |false=>simp
  |true=>
   cases h5:rngT t.cds with
   |false=>simp
   |true=>simp
theorem sG{c:Col}(h:aK c=0)(hn:c.ents.length<=1048576)(hm:c.grps.length<=1048576):aQ c:=by
 refine⟨λi hi=>?_,hn,hm⟩;have:=(ent_iff c.base _).1 (ents_all (fC h) _ (List.getElem_mem hi));have a:=this.c8;have b:=this.e16;omega
theorem qF{x:Nrm}{c:Col}{t:Tlr}(h:(cO x c t).1=0):(cO x c t).2.ents.length<=c.ents.length+1/\(cO x c t).2.grps.length=c.grps.length/\aK (cO x c t).2=0:=by
 rw[uR]at h|-;have he:stepP x c t=(0,(stepP x c t).2):=by rw[<-h]
 have a:=stepP_valid he;obtain⟨l,-,-,-,b,d⟩:=stepP_found he;exact⟨d,b,a⟩
def e_(x:Nrm):Col->List Tlr->Nat->Int×Int×Col
 |c,[],_=>(0,0,c)
 |c,t::l,i=>if(cO x c t).1≠0 then((cO x c t).1,i,col0)else e_ x (cO x c t).2 l (i+1)
theorem vW{x:Nrm}{c:Col}{l:List Tlr}{i:Nat}(hi:i<l.length):e_ x c (l.drop i) i=if(cO x c l[i]).1≠0 then((cO x c l[i]).1,(i:Int),col0)else e_ x (cO x c l[i]).2 (l.drop (i+1)) (i+1):=by
 rw[List.drop_eq_getElem_cons hi];rfl
theorem vV{x:Nrm}{c:Col}{l:List Tlr}:e_ x c (l.drop l.length) l.length=(0,0,c):=by
 rw[List.drop_length];rfl
theorem fU.below{w w':Wv}{K:Oa}{l:List Tlr}(h:fU w K l)(hb:By w w'):fU w' K l:=by
 obtain⟨vs,b,c,a⟩:=h;exact⟨vs,b,c.below hb,λi hi hv=>⟨(a i hi hv).1.below hb,(a i hi hv).2.below hb⟩⟩
theorem FA:∀{vs:List (Oa×Nat×Oa×Nat)}{l:List Tlr}(i f:Nat)(hl:vs.length=l.length)(hi:i<l.length)(_:f<4),(fF vs l)[i*4+f]?=(cQ (vs[i]'(by omega)) l[i])[f]?
 |v::vs,t::l,0,f,_,_,hf=>by
  show(cQ v t++fF vs l)[0*4+f]?=_
  rw[List.getElem?_append_left (by simp[cQ];omega)];simp
 |v::vs,t::l,i+1,f,hl,hi,hf=>by
  have e:(fF (v::vs) (t::l))=cQ v t++fF vs l:=rfl;rw[e,List.getElem?_append_right (by simp[cQ];omega)];have a:(i+1)*4+f-(cQ v t).length=i*4+f:=by simp[cQ];omega
  rw[a,FA i f (by simpa using hl) (by simpa using hi) hf];rfl
 | [],t::l,_,_,hl,_,_=>by simp at hl
 |_,[],_,_,_,hi,_=>by simp at hi
theorem FE:∀{vs:List (Oa×Nat×Oa×Nat)}{l:List Tlr},vs.length=l.length->(fF vs l).length=l.length*4
 | [],[],_=>rfl
 |v::vs,t::l,h=>by
  show(cQ v t++fF vs l).length=_
  rw[List.length_append,FE (by simpa using h)];simp[cQ];omega
 | [],_::_,h=>by simp at h
 |_::_,[],h=>by simp at h
theorem fU.at{w:Wv}{K:Oa}{l:List Tlr}(h:fU w K l){m:Nat}(hm:m<l.length):∃b o,K=Z ⟨b,o,N⟩/\b<w.heap.size/\∀i,(hi:i<l.length)->∃P p Q q,w.cell? ⟨b,o+i*4,N⟩=Z (H P l[i].anc.length p)/\w.cell? ⟨b,o+i*4+1,N⟩=Z (H Q l[i].cds.length q)/\w.cell? ⟨b,o+i*4+2,N⟩=Z (I J l[i].lvl)/\w.cell? ⟨b,o+i*4+3,N⟩=Z (.bool l[i].bef)/\aA w P l[i].anc/\aA w Q l[i].cds:=by
 obtain⟨vs,c,d,k⟩:=h
 have a:fF vs l≠[]:=λe=>by
  have:=FE c;rw[e]at this;simp only[List.length_nil]at this;omega
 obtain⟨b,o,rfl,hc⟩:=d a;refine⟨b,o,rfl,kW d a rfl,λi hi=>?_⟩;have hv:i<vs.length:=O;have gt:=λf(hf:f<4)u hu=>hc (i*4+f) u ((FA i f c hi hf).trans hu)
 obtain⟨g,j⟩:=k i hi hv;refine⟨vs[i].1,vs[i].2.1,vs[i].2.2.1,vs[i].2.2.2,?_,?_,?_,?_,g,j⟩
 ·have:=gt 0 O _ rfl;simpa using this
 ·have:=gt 1 O _ rfl;simpa[Nat.add_assoc]using this
 ·have:=gt 2 O _ rfl;simpa[Nat.add_assoc]using this
 have:=gt 3 O _ rfl;simpa[Nat.add_assoc]using this
def gB(N:Nat)(w:Wv)(A B:Oa)(c:Col):Prop:=∀Z W',Chg Z w W'->(∀q,Z q->q<N)->aO W' A c.ents.length B c.grps.length c
theorem gB.here{N:Nat}{w:Wv}{A B:Oa}{c:Col}(h:gB N w A B c):aO w A c.ents.length B c.grps.length c:=h (λ_=>False) w (Chg.refl _ _) (λ_ e=>e.elim)
theorem gB.chg{N:Nat}{Z:Nat->Prop}{w w':Wv}{A B:Oa}{c:Col}(h:gB N w A B c)(hc:Chg Z w w')(hZ:∀q,Z q->q<N):gB N w' A B c:=λ_ W' hc' hZ'=>
 h (λq=>q<N) W' ((hc.mono (λq _ z=>hZ q z)).trans (hc'.mono (λq _ z=>hZ' q z))) (λ_ z=>z)
theorem gB.low{N M:Nat}{w:Wv}{A B:Oa}{c:Col}(h:gB N w A B c)(hm:M<=N):gB M w A B c:=λZ W' hc hZ=>h Z W' hc (λq z=>Nat.lt_of_lt_of_le (hZ q z) hm)
theorem gB.below{N:Nat}{w w':Wv}{A B:Oa}{c:Col}(h:gB N w A B c)(hb:By w w'):gB N w' A B c:=h.chg (Chg.of_below (S:=λ_=>False) hb) (λ_ e=>e.elim)
theorem MQ{w w':Wv}{c:Col}{A:Oa}{a:Nat}{B:Oa}{b base z top:Nat}(hcp:CpE w' base z A a c.ents c.ents.length top)(hgr:w'.ownsRow w.heap.size 98 3 (H B c.grps.length b) c.grps.length (aB Grp.cells c.grps))(hz1:w.heap.size<=z)(hz2:z<base)(hs:∀g∈c.grps,g.name.size<=9223372036854775807):gB w.heap.size w' A B c:=by
 intro Z f hc e;obtain⟨vs,m,d⟩:=hcp.open;refine⟨⟨vs,d.len,Sl.of_own (eQ d.row hc (λq hq z=>by have:=(aN d.row hq).1;have:=e q z;omega)),λi hi hv=>d.hdr2 (aP w' _) hc (λq z=>by have:=e q z;omega) i hi hv⟩,Sl.of_own (eQ hgr hc (λq hq z=>by have:=(aN hgr hq).1;have:=e q z;omega)),rfl,rfl,hs⟩
end
end Go.Proofs.YtkhmjidaeliccaaGreatDoor
