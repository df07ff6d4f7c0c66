import Derived.Test.YtkhmjidaeliccaaGreatDoorD00
import Derived.Test.YtkhmjidaeliccaaGreatDoorD18
import Derived.Test.YtkhmjidaeliccaaGreatDoorD23
import Derived.Test.YtkhmjidaeliccaaGreatDoorD24
import Derived.Test.YtkhmjidaeliccaaGreatDoorD25
import Derived.Deep.Cut
import Derived.Deep.DeepCutAuto
import Derived.Defers
import Derived.Recover
set_option maxRecDepth 100000
set_option maxHeartbeats 51200000
namespace Go.Proofs.YtkhmjidaeliccaaGreatDoor
open Option renaming none->N,some->Z
open Value renaming int->I,slice->H
open IntKind renaming i64->J
open Go.Proofs.Tryz
section
open Go.RowKit Tl Pa
theorem l_:(prog.info? 35).map (fun i=>(i.zero,i.size,i.bytes))=Z (Z (.agg #[H N 0 0,H N 0 0,I J 0,.bool false]),4,64):=by kernel_rfl
def Apt(B:Nat)(r:Option Nat)(A:Oa)(l:Li):Prop:=l≠[]->∀a,A=Z a->B<=a.block/\r≠Z a.block
theorem Sl.kept{w w':Wv}{A:Oa}{cs:Lv}{r:Option Nat}(h:Sl w A cs)(hg:w.grownBy w' r)(hne:cs≠[]->∀a,A=Z a->r≠Z a.block):Sl w' A cs:=fun hc=>by
 obtain⟨b,o,rfl,hcell⟩:=h hc;refine⟨b,o,rfl,fun j u hu=>?_⟩;have h1:=hcell j u hu;exact(World.cell?_of_block (hg.block b (World.block_lt_of_cell? w _ h1) (fun e=>hne hc ⟨b,o,N⟩ rfl e.symm))).trans h1
structure fE(w:Wv)(P:Nat)(r:Option Nat)(v:Oa×Nat×Oa×Nat)(t:Tlr):Prop where
 a:aB w v.1 t.anc
 pa:Apt P r v.1 t.anc
 b:aB w v.2.2.1 t.cds
 pb:Apt P r v.2.2.1 t.cds
def b_(v:Oa×Nat×Oa×Nat)(t:Tlr):Lv:=[H v.1 t.anc.length v.2.1,H v.2.2.1 t.cds.length v.2.2.2,I J t.lvl,.bool t.bef]
def eI:List (Oa×Nat×Oa×Nat)->List Tlr->Lv
 |v::vs,t::l=>b_ v t++eI vs l
 |_,_=>[]
theorem zP(v:Oa×Nat×Oa×Nat)(t:Tlr):∀(vs:List (Oa×Nat×Oa×Nat))(l:List Tlr),vs.length=l.length->eI (vs++[v]) (l++[t])=eI vs l++b_ v t
 | [],[],_=>by simp[eI]
 |a::vs,b::l,h=>by
  show b_ a b++eI (vs++[v]) (l++[t])=(b_ a b++eI vs l)++b_ v t
  rw[zP v t vs l (by simpa using h),List.append_assoc]
 | [],_::_,h=>by simp at h
 |_::_,[],h=>by simp at h
structure cT(w:Wv)(P base:Nat)(K:Oa)(c:Nat)(l:List Tlr):Prop where
 ex:∃vs:List (Oa×Nat×Oa×Nat),vs.length=l.length/\w.ownsRow base 35 4 (H K l.length c) l.length (eI vs l)/\∀i,(hi:i<l.length)->(hv:i<vs.length)->fE w base (Value.ownBlock (H K l.length c)) vs[i] l[i]
section
variable {w w':Wv}{P base c c':Nat}{K K':Oa}{l:List Tlr}{r:Option Nat}
theorem fE.kept{v:Oa×Nat×Oa×Nat}{t:Tlr}(h:fE w P r v t){q:Option Nat}(hg:w.grownBy w' q)(hq:(∃p,q=Z p/\p<P)\/q=r\/q=N):fE w' P r v t:=by
 have key:∀(A:Oa)(d:Li),aB w A d->Apt P r A d->aB w' A d:=by
  intro A d h1 h2;refine Sl.kept h1 hg (fun hc a ha=>?_);have h3:=h2 (fun e=>hc (by rw[e];rfl)) a ha;rcases hq with⟨p,rfl,hp⟩|rfl|rfl
  ·intro e;injection e with e;have:=h3.1;omega
  ·exact h3.2
  intro e;cases e
 exact⟨key _ _ h.a h.pa,h.pa,key _ _ h.b h.pb,h.pb⟩
theorem cT.ps(h:cT w P base K c l)(hg:w.grownBy w' (Z P))(hP:P<base):cT w' P base K c l:=by
 obtain⟨vs,h1,h2,h3⟩:=h.ex;exact⟨vs,h1,kH h2 hg hP,fun i hi hv=>(h3 i hi hv).kept hg (.inl ⟨P,rfl,hP⟩)⟩
theorem cT.below(h:cT w P base K c l)(hb:By w w'):cT w' P base K c l:=by
 obtain⟨vs,h1,h2,h3⟩:=h.ex;exact⟨vs,h1,bI h2 hb,fun i hi hv=>(h3 i hi hv).kept (q:=N) ⟨hb.os,hb.tape,hb.output,hb.size,fun k hk _=>hb.block k hk⟩ (.inr (.inr rfl))⟩
theorem cT.nil(w:Wv)(P base:Nat):cT w P base N 0 []:=⟨[],rfl,World.ownsRow_nil _ _ _ _,fun i hi _=>absurd hi (by simp)⟩
theorem cT.lt(h:cT w P base K c l):∀q,Value.ownBlock (H K l.length c)=Z q->base<=q/\q<w.heap.size:=by
 obtain⟨vs,_,h2,_⟩:=h.ex;exact h2.lt
theorem cT.app{vs:List (Oa×Nat×Oa×Nat)}(h1:vs.length=l.length)(h3:∀i,(hi:i<l.length)->(hv:i<vs.length)->fE w base (Value.ownBlock (H K l.length c)) vs[i] l[i]){o:Obj}{w3:Wv}{K3:Oa}{k3:Nat}{v:Oa×Nat×Oa×Nat}{t:Tlr}(ho:w3.ownsRow base 35 4 (H K3 (l.length+1) k3) (l.length+1) (eI vs l++b_ v t))(hg:(w.alloc o).grownBy w3 (Value.ownBlock (H K l.length c)))(hB:K3=K\/K3=Z ⟨(w.alloc o).heap.size,0,N⟩)(ht:fE w base (Value.ownBlock (H K l.length c)) v t):cT w3 P base K3 k3 (l++[t]):=by
 have hal:By w (w.alloc o):=ba _ _;have hz:(w.alloc o).heap.size=w.heap.size+1:=by simp
 have key:∀(A:Oa)(d:Li),aB w A d->Apt base (Value.ownBlock (H K l.length c)) A d->aB w3 A d/\Apt base (Value.ownBlock (H K3 (l++[t]).length k3)) A d:=by
  intro A d g1 g2;refine⟨Sl.kept (Sl.below g1 hal) hg (fun hc a ha=>(g2 (fun e=>hc (by rw[e];rfl)) a ha).2),fun hd a ha=>?_⟩;obtain⟨q1,q2⟩:=g2 hd a ha;refine⟨q1,?_⟩;rcases hB with rfl|rfl
  ·intro e
   refine q2 ?_;cases K3 with
   |none=>cases e
   |some b=>exact e
  intro e;have e':Z (w.alloc o).heap.size=Z a.block:=e;injection e' with e';have hlt:a.block<w.heap.size:=by
   obtain⟨b,o',hA,hcell⟩:=g1 (fun e=>hd (by simpa using e));rw[ha]at hA;injection hA with hA;subst hA;cases d with
   |nil=>exact absurd rfl hd
   |cons z d=>exact World.block_lt_of_cell? w _ (hcell 0 _ rfl)
  omega
 have keyT:∀(v:Oa×Nat×Oa×Nat)(s:Tlr),fE w base (Value.ownBlock (H K l.length c)) v s->fE w3 base (Value.ownBlock (H K3 (l++[t]).length k3)) v s:=fun v s g=>⟨(key _ _ g.a g.pa).1,(key _ _ g.a g.pa).2,(key _ _ g.b g.pb).1,(key _ _ g.b g.pb).2⟩
 refine⟨vs++[v],by simp[h1],?_,fun i hi hv=>?_⟩
 ·rw[zP v t vs l h1,List.length_append]
  exact ho
 by_cases hil:i<l.length
 ·rw[List.getElem_append_left hil,List.getElem_append_left (by omega)]
  exact keyT _ _ (h3 i hil (by omega))
 obtain rfl:i=l.length:=by simp at hi;omega
 rw[List.getElem_append_right (by omega),List.getElem_append_right (by omega)];simp only[h1,Nat.sub_self,List.getElem_cons_zero];exact keyT _ _ ht
abbrev f_(w:Wv)(P:Nat)(r:Option Nat)(A:Oa)(a:Li):Prop:=fE w P r (A,0,N,0) ⟨a,[],0,false⟩
theorem fE.below'{v:Oa×Nat×Oa×Nat}{t:Tlr}(h:fE w P r v t)(hb:By w w'):fE w' P r v t:=h.kept (q:=N) ⟨hb.os,hb.tape,hb.output,hb.size,fun k hk _=>hb.block k hk⟩ (.inr (.inr rfl))
theorem f_.mk'{A:Oa}{a:Li}(h1:aB w A a)(h2:Apt P r A a):f_ w P r A a:=⟨h1,h2,fun e=>absurd rfl e,fun e=>absurd rfl e⟩
theorem Apt.own{n k:Nat}{A:Oa}{a:Li}{n0:Nat}(h:w'.ownsRow n0 3 1 (H A n k) n (a.map (Value.int .i64)))(hP:P<=n0)(hr:∀q,r=Z q->q<n0):Apt P r A a:=fun _ b hb=>by
 have h1:=(h.lt b.block (by rw[hb];rfl)).1;exact⟨by omega,fun e=>by have:=hr _ e;omega⟩
structure PsL(P base:Nat)(s:ByteArray)(w:Wv)(j:Nat)(w':Wv):Prop where
 box:PsB w' P s j
 os:w'.os=w.os
 tape:w'.tape=w.tape
 output:w'.output=w.output
 size:w.heap.size<=w'.heap.size
 low:∀q,q<base->q≠P->w'.heap[q]?=w.heap[q]?
section
variable {i j:Nat}{s:ByteArray}{w'':Wv}
theorem PsL.here(h:PsB w P s i):PsL P base s w i w:=⟨h,rfl,rfl,rfl,Nat.le_refl _,fun _ _ _=>rfl⟩
theorem PsL.toq(h:PsL P base s w i w')(h2:aP P s w' j w'')(hb:base<=w.heap.size):PsL P base s w j w'':=
 ⟨h2.box,h2.gr.os.trans h.os,h2.gr.tape.trans h.tape,h2.gr.output.trans h.output,Nat.le_trans h.size h2.gr.size,fun q hq hn=>(h2.gr.block q (by have:=h.size;omega) (fun e=>hn (by first|(injection e)|(injection e with e;exact e.symm)))).trans (h.low q hq hn)⟩
theorem PsL.at(h:PsL P base s w i w'):fY P w'=i:=by
 unfold fY;rw[h.box.c 1 rfl];rfl
theorem PsL.bel(h:PsL P base s w i w')(hb:Below base w' w'')(hP:P<base):PsL P base s w i w'':=
 ⟨h.box.below hb hP,hb.os.trans h.os,hb.tape.trans h.tape,hb.output.trans h.output,Nat.le_trans h.size hb.size,fun q hq hn=>(hb.block q hq).trans (h.low q hq hn)⟩
end
end
theorem zB{s:ByteArray}:∀(n m:Nat)(a:Li)(b:Bool)(l:List Tlr)(i:Nat),i<=s.size->s.size+1-i<=n->s.size+1-i<=m->stpN s n a b l i=stpN s m a b l i
 |0,m,a,b,l,i,hi,h,_=>by omega
 |n+1,0,a,b,l,i,hi,_,h=>by omega
 |n+1,m+1,a,b,l,i,hi,h1,h2=>by
  unfold stpN;cases hs:sgn s i with
  |error e=>rfl
  |ok q=>
   obtain⟨k,j⟩:=q;have g1:=sgn_ok hs;have g2:=blk_le s j;dsimp only;cases hl:lit s (skp s j)with
   |error e=>rfl
   |ok q2=>
    obtain⟨t,j2⟩:=q2;have g3:=lit_ok hl;dsimp only;split
    ·exact zB n m _ _ _ j2 g3.2 (by omega) (by omega)
    rfl
def nQ(s:ByteArray)(a:Li)(b:Bool)(l:List Tlr)(i:Nat):Rd (List Tlr):=stpN s (s.size+1-i) a b l i
theorem VN{s:ByteArray}{a:Li}{b:Bool}{l:List Tlr}{i:Nat}(hi:i<=s.size):nQ s a b l i=match sgn s i with
  | .error e=>.error e
  | .ok (k,j)=>match lit s (skp s j)with
   | .error e=>.error e
   | .ok (t,j2)=>if bt s j2=60\/bt s j2=61 then nQ s t false (l++[⟨a,t,k,b⟩]) j2 else .ok (l++[⟨a,t,k,b⟩],j2):=by
 unfold nQ;rw[show s.size+1-i=(s.size-i)+1 by omega];conv=>lhs;unfold stpN
 cases hs:sgn s i with
 |error e=>rfl
 |ok q=>
  obtain⟨k,j⟩:=q;have g1:=sgn_ok hs;have g2:=blk_le s j;dsimp only;cases hl:lit s (skp s j)with
  |error e=>rfl
  |ok q2=>
   obtain⟨t,j2⟩:=q2;have g3:=lit_ok hl;dsimp only;split
   ·exact zB _ _ _ _ _ j2 g3.2 (by omega) (Nat.le_refl _)
   rfl
def jL(s:ByteArray)(fst:Bool)(a:Li)(b:Bool)(l:List Tlr)(i:Nat):Rd (List Tlr):=if fst=true\/bt s i=60\/bt s i=61 then nQ s a (b&&fst) l i else .ok (l,i)
theorem FA(s:ByteArray)(l:List Tlr)(i:Nat):chn s l i=match wrd s [38] i with
  | .error e=>.error e
  | .ok (_,i1)=>match bfr s (skp s i1)with
   | .error e=>.error e
   | .ok (b,i2)=>match lit s i2 with
    | .error e=>.error e
    | .ok (a,i3)=>jL s true a b l i3:=by
 rw[chn_eq];cases wrd s [38] i with
 |error e=>rfl
 |ok q=>
  obtain⟨u,i1⟩:=q;dsimp only;cases bfr s (skp s i1)with
  |error e=>rfl
  |ok q2=>
   obtain⟨b,i2⟩:=q2;dsimp only;cases lit s i2 with
   |error e=>rfl
   |ok q3=>
    obtain⟨a,i3⟩:=q3;dsimp only;unfold jL nQ;rw[if_pos (.inl rfl),Bool.and_true]
theorem RT{s:ByteArray}{a:Li}{b:Bool}{l:List Tlr}{i:Nat}(h:¬(bt s i=60\/bt s i=61)):jL s false a b l i=.ok (l,i):=by
 unfold jL;rw[if_neg (by rintro(g|g);cases g;exact h g)]
theorem sS{s:ByteArray}{fst:Bool}{a:Li}{b:Bool}{l:List Tlr}{i:Nat}(hi:i<=s.size)(h:fst=true\/bt s i=60\/bt s i=61):jL s fst a b l i=match sgn s i with
  | .error e=>.error e
  | .ok (k,j)=>match lit s (skp s j)with
   | .error e=>.error e
   | .ok (t,j2)=>jL s false t b (l++[⟨a,t,k,b&&fst⟩]) j2:=by
 unfold jL;rw[if_pos h,VN hi];cases sgn s i with
 |error e=>rfl
 |ok q=>
  obtain⟨k,j⟩:=q;dsimp only;cases lit s (skp s j)with
  |error e=>rfl
  |ok q2=>
   obtain⟨t,j2⟩:=q2;dsimp only;by_cases g:bt s j2=60\/bt s j2=61
   ·rw[if_pos g,if_pos (.inr g),Bool.and_false]
   rw[if_neg g,if_neg (by rintro(q|q);cases q;exact g q)]
def uS(P base:Nat)(l:List Tlr)(v:Value)(w':Wv):Prop:=∃K c,v=H K l.length c/\cT w' P base K c l
def RdL{α:Type}(P base:Nat)(s:ByteArray)(V:α->Value->Wv->Prop)(r:Rd α)(w:Wv)(e:Ending)(w':Wv):Prop:=
 match r with
 | .ok (a,j)=>(∃v,e=.returned v/\V a v w')/\PsL P base s w j w'
 | .error j=>Flt e/\PsL P base s w j w'
theorem DU{s:ByteArray}{i j:Nat}{b:Bool}(h:bfr s i=.ok (b,j)):(bt s i=91/\∃k,wrd s [91,98,101,102,111,114,101,93] i=.ok ((),k)/\b=true/\j=skp s k)\/(¬bt s i=91/\b=false/\j=i):=by
 unfold bfr at h;split at h
 ·next h0=>
  split at h
  ·cases h
  next u k hk=>
  injection h with h;injection h with h1 h2;exact .inl ⟨h0,k,hk,h1.symm,h2.symm⟩
 next h0=>
 injection h with h;injection h with h1 h2;exact .inr ⟨h0,h1.symm,h2.symm⟩
theorem DV{s:ByteArray}{i f:Nat}(h:bfr s i=.error f):bt s i=91/\wrd s [91,98,101,102,111,114,101,93] i=.error f:=by
 unfold bfr at h;split at h
 ·next h0=>
  split at h
  ·next e hk=>injection h with h;subst h;exact⟨h0,hk⟩
  cases h
 cases h
theorem XO:Wrd ⟨#[91,98,101,102,111,114,101,93]⟩ [91,98,101,102,111,114,101,93]:=by
 refine⟨rfl,fun k h h2=>?_,fun x hx=>by simp at hx;omega⟩;match k,h2 with
 |0,_=>rfl
 |1,_=>rfl
 |2,_=>rfl
 |3,_=>rfl
 |4,_=>rfl
 |5,_=>rfl
 |6,_=>rfl
 |7,_=>rfl
theorem QX(P base:Nat)(s:ByteArray)(i:Nat)(K:Oa)(c:Nat)(l:List Tlr)(w:Wv)(hP:PsB w P s i)(hPb:P<base)(hbw:base<=w.heap.size)(hS:cT w P base K c l)(hi:i<=s.size)(hs:s.size<=65536)(hl:l.length<=i):
  Calls prog 59 #[.pointer (Z ⟨P,0,N⟩),H K l.length c] w (RdL P base s (uS P base) (chn s l i) w):=by
 have HP:=G (PsL.here (base:=base) hP);have HS:=G hS;have KN:=G (fun j(W:Wv)(h:PsL P base s w j W)(hj:j<=s.size)=>nL P s j W h.box hj);have KE:=G (mY P s ⟨#[38]⟩ [38] i w hP hi (by omega) (pN 38 (by decide) _ rfl (by decide)) (by decide));have KG:=G (fun j(W:Wv)(h:PsL P base s w j W)(hj:j<=s.size)=>mY P s ⟨#[91,98,101,102,111,114,101,93]⟩ [91,98,101,102,111,114,101,93] j W h.box hj (by omega) XO (by decide));have KL:=G (fun j(W:Wv)(h:PsL P base s w j W)(hj:j<=s.size)=>RA P s j W h.box hj hs);have KS:=G (fun j(W:Wv)(h:PsL P base s w j W)(hj:j<=s.size)=>RG P s j W h.box hj (by omega));have KB:=G (fun j(W:Wv)(h:PsL P base s w j W)(hj:j<=s.size)=>qN P s j W h.box hj (by omega));have KC:=G (fun A n k zs(W:Wv)(h:aB W A zs)(hn:zs.length=n)(hb:n<=1048576)=>qS A n k zs W h hn hb);unfold RdR at KE KG KL KS;unfold eS at KC;obtain⟨r,hr⟩:∃r,chn s l i=r:=⟨_,rfl⟩;have HR0:=G (hr.symm.trans (FA s l i));rw[hr];clear hP hr hS;cases h1:wrd s [38] i with
 |error f=>
  rw[h1]at HR0 KE;have HF:=U (r=.error f) HR0.out;clear h1 HR0;go_enter func59,ntmps59;go_wp2_with fail;with_reducible refine KE.out.mono ?_
  rintro e W1 ⟨⟨u,pv,rfl⟩,hp1⟩;have HW:=G (HP.out.toq hp1 hbw);clear hp1;go_wp2_with fail;rw[HF.out];exact⟨rfl,⟨_,_,rfl⟩,HW.out⟩
 |ok q1=>
 obtain⟨u1,i1⟩:=q1;have hi1:=(wrd_ok (by simp) h1).2 (by simp);have hi1b:=(wrd_ok (by simp) h1).1;rw[h1]at HR0 KE;dsimp only[List.length]at hi1b;clear h1;dsimp only at HR0 KE;have hbs:=blk_sz hi1;have hbl:=blk_le s i1;have KB1:=G (fun(W:Wv) (h:PsL P base s w i1 W)=>KB.out i1 W h hi1);obtain⟨b1,hb1⟩:∃b1,skp s i1=b1:=⟨_,rfl⟩;rw[hb1]at HR0 KB1 hbs hbl;clear hb1;go_enter func59,ntmps59;go_wp2_with fail;with_reducible refine KE.out.mono ?_
 rintro e W1 ⟨⟨v,rfl,rfl⟩,hp1⟩;have HW1:=G (HP.out.toq hp1 hbw);have HS1:=G (HS.out.ps hp1.gr hPb);have KB2:=G (KB1.out W1 HW1.out);clear hp1 KE KB1 HP HS;go_wp2_with fail;with_reducible refine KB2.out.mono ?_
 rintro e W2 ⟨rfl,hp2⟩;have HW2:=G (HW1.out.toq hp2 hbw);have HS2:=G (HS1.out.ps hp2.gr hPb);have KN2:=G (KN.out b1 W2 HW2.out hbs);clear hp2 KB2 HW1 HS1;go_wp2_with fail;with_reducible refine KN2.out.mono ?_
 rintro e W3 ⟨rfl,hp3⟩;have HW3:=G (HW2.out.toq hp3 hbw);have HS3:=G (HS2.out.ps hp3.gr hPb);have KG3:=G (KG.out b1 W3 HW3.out hbs);clear hp3 KN2 HW2 HS2 KG;cases h2:bfr s b1 with
 |error f=>
  obtain⟨g1,g2⟩:=DV h2;rw[h2]at HR0;rw[g2]at KG3;have HF:=U (r=.error f) HR0.out;have d1:((bt s b1:Int)==91)=true:=by simp;omega
  clear h2 HR0 g1 g2;generalize bt s b1=bb at *;go_wp2_with fail;with_reducible refine KG3.out.mono ?_
  rintro e W4 ⟨⟨u,pv,rfl⟩,hp4⟩;have HW:=G (HW3.out.toq hp4 hbw);clear hp4;go_wp2_with fail;rw[HF.out];exact⟨rfl,⟨_,_,rfl⟩,HW.out⟩
 |ok q2=>
 obtain⟨bv,i2⟩:=q2;have HBC:=G (DU h2);have hi2:=bfr_ok h2;rw[h2]at HR0;clear h2;dsimp only at HR0;have HB9:=U (∀bb,bt s b1=bb->bb=bt s b1) (fun _ e=>e.symm);go_upto_if 16 with(fail);go_cut [5] (fun s5 wx=>s5=.bool bv/\i2<=s.size/\PsL P base s w i2 wx/\cT wx P base K c l)
 case first=>
  rcases HBC.out with⟨g1,k,g2,rfl,rfl⟩|⟨g1,rfl,rfl⟩
  ·have d1:((bt s b1:Int)==91)=true:=by simp;omega
   have hk:=(wrd_ok (by simp) g2).2 (by simp);rw[g2]at KG3;dsimp only at KG3;have hks:=blk_sz hk;have KB3:=G (fun(W:Wv) (h:PsL P base s w k W)=>KB.out k W h hk);clear g1 g2 HBC HB9;generalize bt s b1=bb at *;generalize skp s k=k2 at *;go_wp2_with fail;with_reducible refine KG3.out.mono ?_
   rintro e W4 ⟨⟨v,rfl,rfl⟩,hp4⟩;have HW4:=G (HW3.out.toq hp4 hbw);have HS4:=G (HS3.out.ps hp4.gr hPb);have KB4:=G (KB3.out W4 HW4.out);clear hp4 KB3;go_wp2_with fail;with_reducible refine KB4.out.mono ?_
   rintro e W5 ⟨rfl,hp5⟩;have HW5:=G (HW4.out.toq hp5 hbw);have HS5:=G (HS4.out.ps hp5.gr hPb);clear hp5;go_wp2_with fail;go_meet;exact⟨rfl,hks,HW5.out,HS5.out⟩
  have d1:((bt s i2:Int)==91)=false:=by simp;omega
  clear g1 HBC HB9;generalize bt s i2=bb at *;go_wp2_with fail;go_meet;exact⟨rfl,hbs,HW3.out,HS3.out⟩
 obtain⟨rfl,hi2s,hpc,hsc⟩:=hcut;have HWc:=G hpc;have HSc:=G hsc;clear hpc hsc HBC HB9 HW3 HS3 KG3;have KL2:=G (KL.out i2 wc HWc.out hi2s);cases h3:lit s i2 with
 |error f=>
  rw[h3]at HR0 KL2;have HF:=U (r=.error f) HR0.out;clear h3 HR0;go_wp2_with fail;with_reducible refine KL2.out.mono ?_
  rintro e W4 ⟨⟨u,pv,rfl⟩,hp4⟩;have HW:=G (HWc.out.toq hp4 hbw);clear hp4;go_wp2_with fail;rw[HF.out];exact⟨rfl,⟨_,_,rfl⟩,HW.out⟩
 |ok q3=>
  obtain⟨a0,i3⟩:=q3;have hi3:=lit_ok h3;have hlb:=(lit_bd h3).2;rw[h3]at HR0 KL2;clear h3;dsimp only at HR0 KL2;have HR1:=U (r=jL s true a0 bv l i3) HR0.out;clear HR0;unfold xZ at KL2 KL;go_wp2_with fail;with_reducible refine KL2.out.mono ?_
  rintro e W4 ⟨⟨v,rfl,A0,ac0,rfl,ho4⟩,hp4⟩;have HW4:=G (HWc.out.toq hp4 hbw);have HS4:=G (HSc.out.ps hp4.gr hPb);have hbc:base<=wc.heap.size:=Nat.le_trans hbw HWc.out.size;have HA4:=G (f_.mk' (P:=base) (r:=Value.ownBlock (H K l.length c)) (Sl.of_own ho4) (Apt.own ho4 (by omega) (fun q hq=>(HSc.out.lt q hq).2)));clear hp4 ho4 KL2 HSc HWc;go_wp2_with fail;go_loopw [1,6,7] (fun st an fs wr=>∃(m:List Tlr)(Km:Oa)(cm:Nat)(fst:Bool)(a:Li)(A:Oa)(ac p:Nat),p<=s.size/\m.length<=p/\a.length<=65536/\st=H Km m.length cm/\an=H A a.length ac/\fs=.bool fst/\Hid (r=jL s fst a bv m p)/\PsL P base s w p wr/\cT wr P base Km cm m/\f_ wr base (Value.ownBlock (H Km m.length cm)) A a) (fun _ _ _ wr=>s.size-fY P wr)
  case atStart=>exact⟨l,K,c,true,a0,A0,ac0,i3,hi3.2,by have:=hi2.1;omega,by have:=hi3.2;omega,rfl,rfl,rfl,HR1,HW4.out,HS4.out,HA4.out⟩
  obtain⟨m,Km,cm,fst,a,A,ac,p,hp,hmp,hal,rfl,rfl,rfl,hb,hps,hst,han⟩:=hrel;have HR:=G hps;have HAT:=G hps.at;have HSm:=G hst;have HA:=G han;clear hps hst han HR1 HW4 HS4 HA4;cases fst with
  |true=>
   have HST:=G (hb.out.trans (sS hp (.inl rfl)));clear hb;have hW0:True:=trivial;have HRx:=HR;have HSx:=HSm;have HAx:=HA;clear HR HSm HA;have KS1:=G (KS.out p _ HRx.out hp);cases h4:sgn s p with
   |error f=>
    rw[h4]at HST KS1;have HF:=U (r=.error f) HST.out;clear h4 HST;go_wp2_with fail;with_reducible refine KS1.out.mono ?_
    rintro e W7 ⟨⟨u,pv,rfl⟩,hp7⟩;have HW:=G (HRx.out.toq hp7 hbw);clear hp7;go_wp2_with fail;rw[HF.out];exact⟨rfl,⟨_,_,rfl⟩,HW.out⟩
   |ok q4=>
    obtain⟨kk,j1⟩:=q4;have hj1:=sgn_ok h4;have hj2:=blk_sz hj1.2;have hj3:=blk_le s j1;rw[h4]at HST KS1;clear h4;dsimp only at HST KS1;have KB5:=G (fun(W:Wv) (h:PsL P base s w j1 W)=>KB.out j1 W h hj1.2);have KL5:=G (fun(W:Wv) (h:PsL P base s w (skp s j1) W)=>KL.out (skp s j1) W h hj2);generalize skp s j1=j2 at *;unfold nC at KS1;go_wp2_with fail;with_reducible refine KS1.out.mono ?_
    rintro e W7 ⟨⟨v,rfl,rfl⟩,hp7⟩;have HR7:=G (HRx.out.toq hp7 hbw);have HS7:=G (HSx.out.ps hp7.gr hPb);have HA7:=G (HAx.out.kept hp7.gr (.inl ⟨P,rfl,hPb⟩));have KB6:=G (KB5.out W7 HR7.out);clear hp7 KS1 KB5;go_wp2_with fail;with_reducible refine KB6.out.mono ?_
    rintro e W8 ⟨rfl,hp8⟩;have HR8:=G (HR7.out.toq hp8 hbw);have HS8:=G (HS7.out.ps hp8.gr hPb);have HA8:=G (HA7.out.kept hp8.gr (.inl ⟨P,rfl,hPb⟩));have KL6:=G (KL5.out W8 HR8.out);clear hp8 KB6 KL5 HR7 HS7 HA7;cases h5:lit s j2 with
    |error f=>
     rw[h5]at HST KL6;have HF:=U (r=.error f) HST.out;clear h5 HST;go_wp2_with fail;with_reducible refine KL6.out.mono ?_
     rintro e W9 ⟨⟨u,pv,rfl⟩,hp9⟩;have HW:=G (HR8.out.toq hp9 hbw);clear hp9;go_wp2_with fail;rw[HF.out];exact⟨rfl,⟨_,_,rfl⟩,HW.out⟩
    |ok q5=>
     obtain⟨tx,j3⟩:=q5;have hj4:=lit_ok h5;have hj5:=(lit_bd h5).2;rw[h5]at HST KL6;clear h5;dsimp only at HST KL6;go_wp2_with fail;with_reducible refine KL6.out.mono ?_
     rintro e W9 ⟨⟨v,rfl,B0,bc0,rfl,ho9⟩,hp9⟩;have HR9:=G (HR8.out.toq hp9 hbw);have HS9:=G (HS8.out.ps hp9.gr hPb);have HA9:=G (HA8.out.kept hp9.gr (.inl ⟨P,rfl,hPb⟩));have hb8:base<=W8.heap.size:=Nat.le_trans hbw HR8.out.size;have hb9:base<=W9.heap.size:=Nat.le_trans hbw HR9.out.size;have HB9:=G (f_.mk' (P:=base) (r:=Value.ownBlock (H Km m.length cm)) (Sl.of_own ho9) (Apt.own ho9 (by omega) (fun q hq=>(HS8.out.lt q hq).2)));obtain⟨vs,hv1,hv2,hv3⟩:=HS9.out.ex;have HV2:=G hv2;have HV3:=G (fun(o:Obj) (w3:Wv) (K3:Oa) (k3:Nat) (v:Oa×Nat×Oa×Nat) (t:Tlr) ho hg hB ht=>cT.app (P:=P) (base:=base) hv1 hv3 (o:=o) (w3:=w3) (K3:=K3) (k3:=k3) (v:=v) (t:=t) ho hg hB ht);have HTL:=G (fun(b:Bool)=>show fE W9 base (Value.ownBlock (H Km m.length cm)) (A,ac,B0,bc0) ⟨a,tx,kk,b⟩from⟨HA9.out.a,HA9.out.pa,HB9.out.a,HB9.out.pa⟩);clear hp9 ho9 KL6 HR8 HS8 HA8 hv1 hv2 hv3 HS9;cases bv with
     |true=>
      go_wp2_with(at_builtin;refine cJ _ _ 44 35 (.agg #[H N 0 0,H N 0 0,I J 0,.bool false]) 4 64 rfl rfl underlying44 l_ rfl (by decide) (by decide) rfl (HV2.out.alloc _) rfl (eE W9 (b_ (A,ac,B0,bc0) ⟨a,tx,kk,true⟩) _ rfl) (by rfl) (by intro u hu;simp only[b_,List.mem_cons,List.not_mem_nil,or_false]at hu;rcases hu with rfl|rfl|rfl|rfl<;>rfl) (by omega) (by simp;omega) ?_;intro K3 k3 w3 hown3 hc3 hb3 hg3 hB3);have HSn:=G (HV3.out _ w3 K3 k3 _ _ hown3 hg3 hB3 (HTL.out true));have HRn:=G ((HR9.out.bel ((Below.refl _ _).alloc hb9 _) hPb).bel hb3 hPb);have HI3:=G (((HB9.out.below' (ba _ _)).kept hg3 (.inr (.inl rfl))).a);have hz3:=HRn.out.size;have KC3:=G (KC.out B0 tx.length bc0 tx w3 HI3.out rfl (by omega));clear hown3 hc3 hb3 hg3 hB3 HV2 HV3 HTL HB9 HA9 HI3;go_wp2_with fail;with_reducible refine KC3.out.mono ?_
      rintro e W11 ⟨A',c',rfl,ho11,hb11⟩;have HAf:=G (f_.mk' (P:=base) (r:=Value.ownBlock (H K3 (m++[(⟨a,tx,kk,true⟩:Tlr)]).length k3)) (Sl.of_own ho11) (Apt.own ho11 (by omega) (fun q hq=>(HSn.out.lt q hq).2)));have HSf:=G (HSn.out.below hb11);have HRf:=G (HRn.out.bel (hb11.mono (Nat.le_trans hbw hz3)) hPb);clear ho11 hb11 KC3 HSn HRn;go_wp2_with fail;go_roundw
      case rel=>exact⟨m++[(⟨a,tx,kk,true⟩:Tlr)],K3,k3,false,tx,A',c',j3,hj4.2,by simp;omega,by omega,by rw[List.length_append];rfl,rfl,rfl,HST,HRf.out,HSf.out,HAf.out⟩
      have q1:=HRf.out.at;have q2:=HAT.out;have q3:=hj1.1;omega
     |false=>
      go_wp2_with(at_builtin;refine cJ _ _ 44 35 (.agg #[H N 0 0,H N 0 0,I J 0,.bool false]) 4 64 rfl rfl underlying44 l_ rfl (by decide) (by decide) rfl (HV2.out.alloc _) rfl (eE W9 (b_ (A,ac,B0,bc0) ⟨a,tx,kk,false⟩) _ rfl) (by rfl) (by intro u hu;simp only[b_,List.mem_cons,List.not_mem_nil,or_false]at hu;rcases hu with rfl|rfl|rfl|rfl<;>rfl) (by omega) (by simp;omega) ?_;intro K3 k3 w3 hown3 hc3 hb3 hg3 hB3);have HSn:=G (HV3.out _ w3 K3 k3 _ _ hown3 hg3 hB3 (HTL.out false));have HRn:=G ((HR9.out.bel ((Below.refl _ _).alloc hb9 _) hPb).bel hb3 hPb);have HI3:=G (((HB9.out.below' (ba _ _)).kept hg3 (.inr (.inl rfl))).a);have hz3:=HRn.out.size;have KC3:=G (KC.out B0 tx.length bc0 tx w3 HI3.out rfl (by omega));clear hown3 hc3 hb3 hg3 hB3 HV2 HV3 HTL HB9 HA9 HI3;go_wp2_with fail;with_reducible refine KC3.out.mono ?_
      rintro e W11 ⟨A',c',rfl,ho11,hb11⟩;have HAf:=G (f_.mk' (P:=base) (r:=Value.ownBlock (H K3 (m++[(⟨a,tx,kk,false⟩:Tlr)]).length k3)) (Sl.of_own ho11) (Apt.own ho11 (by omega) (fun q hq=>(HSn.out.lt q hq).2)));have HSf:=G (HSn.out.below hb11);have HRf:=G (HRn.out.bel (hb11.mono (Nat.le_trans hbw hz3)) hPb);clear ho11 hb11 KC3 HSn HRn;go_wp2_with fail;go_roundw
      case rel=>exact⟨m++[(⟨a,tx,kk,false⟩:Tlr)],K3,k3,false,tx,A',c',j3,hj4.2,by simp;omega,by omega,by rw[List.length_append];rfl,rfl,rfl,HST,HRf.out,HSf.out,HAf.out⟩
      have q1:=HRf.out.at;have q2:=HAT.out;have q3:=hj1.1;omega
  |false=>
   have KN1:=G (KN.out p _ HR.out hp);by_cases h60:bt s p=60
   ·have d1:((bt s p:Int)==60)=true:=by simp;omega
    have HST:=G (hb.out.trans (sS hp (.inr (.inl h60))));clear h60 hb;generalize bt s p=bb at *;go_wp2_with fail;with_reducible refine KN1.out.mono ?_
    rintro e W5 ⟨rfl,hp5⟩;have HRx:=G (HR.out.toq hp5 hbw);have HSx:=G (HSm.out.ps hp5.gr hPb);have HAx:=G (HA.out.kept hp5.gr (.inl ⟨P,rfl,hPb⟩));clear hp5 KN1;have KS1:=G (KS.out p _ HRx.out hp);cases h4:sgn s p with
    |error f=>
     rw[h4]at HST KS1;have HF:=U (r=.error f) HST.out;clear h4 HST;go_wp2_with fail;with_reducible refine KS1.out.mono ?_
     rintro e W7 ⟨⟨u,pv,rfl⟩,hp7⟩;have HW:=G (HRx.out.toq hp7 hbw);clear hp7;go_wp2_with fail;rw[HF.out];exact⟨rfl,⟨_,_,rfl⟩,HW.out⟩
    |ok q4=>
     obtain⟨kk,j1⟩:=q4;have hj1:=sgn_ok h4;have hj2:=blk_sz hj1.2;have hj3:=blk_le s j1;rw[h4]at HST KS1;clear h4;dsimp only at HST KS1;have KB5:=G (fun(W:Wv) (h:PsL P base s w j1 W)=>KB.out j1 W h hj1.2);have KL5:=G (fun(W:Wv) (h:PsL P base s w (skp s j1) W)=>KL.out (skp s j1) W h hj2);generalize skp s j1=j2 at *;unfold nC at KS1;go_wp2_with fail;with_reducible refine KS1.out.mono ?_
     rintro e W7 ⟨⟨v,rfl,rfl⟩,hp7⟩;have HR7:=G (HRx.out.toq hp7 hbw);have HS7:=G (HSx.out.ps hp7.gr hPb);have HA7:=G (HAx.out.kept hp7.gr (.inl ⟨P,rfl,hPb⟩));have KB6:=G (KB5.out W7 HR7.out);clear hp7 KS1 KB5;go_wp2_with fail;with_reducible refine KB6.out.mono ?_
     rintro e W8 ⟨rfl,hp8⟩;have HR8:=G (HR7.out.toq hp8 hbw);have HS8:=G (HS7.out.ps hp8.gr hPb);have HA8:=G (HA7.out.kept hp8.gr (.inl ⟨P,rfl,hPb⟩));have KL6:=G (KL5.out W8 HR8.out);clear hp8 KB6 KL5 HR7 HS7 HA7;cases h5:lit s j2 with
     |error f=>
      rw[h5]at HST KL6;have HF:=U (r=.error f) HST.out;clear h5 HST;go_wp2_with fail;with_reducible refine KL6.out.mono ?_
      rintro e W9 ⟨⟨u,pv,rfl⟩,hp9⟩;have HW:=G (HR8.out.toq hp9 hbw);clear hp9;go_wp2_with fail;rw[HF.out];exact⟨rfl,⟨_,_,rfl⟩,HW.out⟩
     |ok q5=>
      obtain⟨tx,j3⟩:=q5;have hj4:=lit_ok h5;have hj5:=(lit_bd h5).2;rw[h5]at HST KL6;clear h5;dsimp only at HST KL6;go_wp2_with fail;with_reducible refine KL6.out.mono ?_
      rintro e W9 ⟨⟨v,rfl,B0,bc0,rfl,ho9⟩,hp9⟩;have HR9:=G (HR8.out.toq hp9 hbw);have HS9:=G (HS8.out.ps hp9.gr hPb);have HA9:=G (HA8.out.kept hp9.gr (.inl ⟨P,rfl,hPb⟩));have hb8:base<=W8.heap.size:=Nat.le_trans hbw HR8.out.size;have hb9:base<=W9.heap.size:=Nat.le_trans hbw HR9.out.size;have HB9:=G (f_.mk' (P:=base) (r:=Value.ownBlock (H Km m.length cm)) (Sl.of_own ho9) (Apt.own ho9 (by omega) (fun q hq=>(HS8.out.lt q hq).2)));obtain⟨vs,hv1,hv2,hv3⟩:=HS9.out.ex;have HV2:=G hv2;have HV3:=G (fun(o:Obj) (w3:Wv) (K3:Oa) (k3:Nat) (v:Oa×Nat×Oa×Nat) (t:Tlr) ho hg hB ht=>cT.app (P:=P) (base:=base) hv1 hv3 (o:=o) (w3:=w3) (K3:=K3) (k3:=k3) (v:=v) (t:=t) ho hg hB ht);have HTL:=G (fun(b:Bool)=>show fE W9 base (Value.ownBlock (H Km m.length cm)) (A,ac,B0,bc0) ⟨a,tx,kk,b⟩from⟨HA9.out.a,HA9.out.pa,HB9.out.a,HB9.out.pa⟩);clear hp9 ho9 KL6 HR8 HS8 HA8 hv1 hv2 hv3 HS9;cases bv with
      |true=>
       go_wp2_with(at_builtin;refine cJ _ _ 44 35 (.agg #[H N 0 0,H N 0 0,I J 0,.bool false]) 4 64 rfl rfl underlying44 l_ rfl (by decide) (by decide) rfl (HV2.out.alloc _) rfl (eE W9 (b_ (A,ac,B0,bc0) ⟨a,tx,kk,false⟩) _ rfl) (by rfl) (by intro u hu;simp only[b_,List.mem_cons,List.not_mem_nil,or_false]at hu;rcases hu with rfl|rfl|rfl|rfl<;>rfl) (by omega) (by simp;omega) ?_;intro K3 k3 w3 hown3 hc3 hb3 hg3 hB3);have HSn:=G (HV3.out _ w3 K3 k3 _ _ hown3 hg3 hB3 (HTL.out false));have HRn:=G ((HR9.out.bel ((Below.refl _ _).alloc hb9 _) hPb).bel hb3 hPb);have HI3:=G (((HB9.out.below' (ba _ _)).kept hg3 (.inr (.inl rfl))).a);have hz3:=HRn.out.size;have KC3:=G (KC.out B0 tx.length bc0 tx w3 HI3.out rfl (by omega));clear hown3 hc3 hb3 hg3 hB3 HV2 HV3 HTL HB9 HA9 HI3;go_wp2_with fail;with_reducible refine KC3.out.mono ?_
       rintro e W11 ⟨A',c',rfl,ho11,hb11⟩;have HAf:=G (f_.mk' (P:=base) (r:=Value.ownBlock (H K3 (m++[(⟨a,tx,kk,false⟩:Tlr)]).length k3)) (Sl.of_own ho11) (Apt.own ho11 (by omega) (fun q hq=>(HSn.out.lt q hq).2)));have HSf:=G (HSn.out.below hb11);have HRf:=G (HRn.out.bel (hb11.mono (Nat.le_trans hbw hz3)) hPb);clear ho11 hb11 KC3 HSn HRn;go_wp2_with fail;go_roundw
       case rel=>exact⟨m++[(⟨a,tx,kk,false⟩:Tlr)],K3,k3,false,tx,A',c',j3,hj4.2,by simp;omega,by omega,by rw[List.length_append];rfl,rfl,rfl,HST,HRf.out,HSf.out,HAf.out⟩
       have q1:=HRf.out.at;have q2:=HAT.out;have q3:=hj1.1;omega
      |false=>
       go_wp2_with(at_builtin;refine cJ _ _ 44 35 (.agg #[H N 0 0,H N 0 0,I J 0,.bool false]) 4 64 rfl rfl underlying44 l_ rfl (by decide) (by decide) rfl (HV2.out.alloc _) rfl (eE W9 (b_ (A,ac,B0,bc0) ⟨a,tx,kk,false⟩) _ rfl) (by rfl) (by intro u hu;simp only[b_,List.mem_cons,List.not_mem_nil,or_false]at hu;rcases hu with rfl|rfl|rfl|rfl<;>rfl) (by omega) (by simp;omega) ?_;intro K3 k3 w3 hown3 hc3 hb3 hg3 hB3);have HSn:=G (HV3.out _ w3 K3 k3 _ _ hown3 hg3 hB3 (HTL.out false));have HRn:=G ((HR9.out.bel ((Below.refl _ _).alloc hb9 _) hPb).bel hb3 hPb);have HI3:=G (((HB9.out.below' (ba _ _)).kept hg3 (.inr (.inl rfl))).a);have hz3:=HRn.out.size;have KC3:=G (KC.out B0 tx.length bc0 tx w3 HI3.out rfl (by omega));clear hown3 hc3 hb3 hg3 hB3 HV2 HV3 HTL HB9 HA9 HI3;go_wp2_with fail;with_reducible refine KC3.out.mono ?_
       rintro e W11 ⟨A',c',rfl,ho11,hb11⟩;have HAf:=G (f_.mk' (P:=base) (r:=Value.ownBlock (H K3 (m++[(⟨a,tx,kk,false⟩:Tlr)]).length k3)) (Sl.of_own ho11) (Apt.own ho11 (by omega) (fun q hq=>(HSn.out.lt q hq).2)));have HSf:=G (HSn.out.below hb11);have HRf:=G (HRn.out.bel (hb11.mono (Nat.le_trans hbw hz3)) hPb);clear ho11 hb11 KC3 HSn HRn;go_wp2_with fail;go_roundw
       case rel=>exact⟨m++[(⟨a,tx,kk,false⟩:Tlr)],K3,k3,false,tx,A',c',j3,hj4.2,by simp;omega,by omega,by rw[List.length_append];rfl,rfl,rfl,HST,HRf.out,HSf.out,HAf.out⟩
       have q1:=HRf.out.at;have q2:=HAT.out;have q3:=hj1.1;omega
   have d1:((bt s p:Int)==60)=false:=by simp;omega
   have KN2:=G (fun(W:Wv) (h:PsL P base s w p W)=>KN.out p W h hp);by_cases h61:bt s p=61
   ·have d2:((bt s p:Int)==61)=true:=by simp;omega
    have HST:=G (hb.out.trans (sS hp (.inr (.inr h61))));clear h60 h61 hb;generalize bt s p=bb at *;go_wp2_with fail;with_reducible refine KN1.out.mono ?_
    rintro e W5 ⟨rfl,hp5⟩;have HR5:=G (HR.out.toq hp5 hbw);have HS5:=G (HSm.out.ps hp5.gr hPb);have HA5:=G (HA.out.kept hp5.gr (.inl ⟨P,rfl,hPb⟩));have KN3:=G (KN2.out W5 HR5.out);clear hp5 KN1 KN2;go_wp2_with fail;with_reducible refine KN3.out.mono ?_
    rintro e W6 ⟨rfl,hp6⟩;have HRx:=G (HR5.out.toq hp6 hbw);have HSx:=G (HS5.out.ps hp6.gr hPb);have HAx:=G (HA5.out.kept hp6.gr (.inl ⟨P,rfl,hPb⟩));clear hp6 KN3 HR5 HS5 HA5;have KS1:=G (KS.out p _ HRx.out hp);cases h4:sgn s p with
    |error f=>
     rw[h4]at HST KS1;have HF:=U (r=.error f) HST.out;clear h4 HST;go_wp2_with fail;with_reducible refine KS1.out.mono ?_
     rintro e W7 ⟨⟨u,pv,rfl⟩,hp7⟩;have HW:=G (HRx.out.toq hp7 hbw);clear hp7;go_wp2_with fail;rw[HF.out];exact⟨rfl,⟨_,_,rfl⟩,HW.out⟩
    |ok q4=>
     obtain⟨kk,j1⟩:=q4;have hj1:=sgn_ok h4;have hj2:=blk_sz hj1.2;have hj3:=blk_le s j1;rw[h4]at HST KS1;clear h4;dsimp only at HST KS1;have KB5:=G (fun(W:Wv) (h:PsL P base s w j1 W)=>KB.out j1 W h hj1.2);have KL5:=G (fun(W:Wv) (h:PsL P base s w (skp s j1) W)=>KL.out (skp s j1) W h hj2);generalize skp s j1=j2 at *;unfold nC at KS1;go_wp2_with fail;with_reducible refine KS1.out.mono ?_
     rintro e W7 ⟨⟨v,rfl,rfl⟩,hp7⟩;have HR7:=G (HRx.out.toq hp7 hbw);have HS7:=G (HSx.out.ps hp7.gr hPb);have HA7:=G (HAx.out.kept hp7.gr (.inl ⟨P,rfl,hPb⟩));have KB6:=G (KB5.out W7 HR7.out);clear hp7 KS1 KB5;go_wp2_with fail;with_reducible refine KB6.out.mono ?_
     rintro e W8 ⟨rfl,hp8⟩;have HR8:=G (HR7.out.toq hp8 hbw);have HS8:=G (HS7.out.ps hp8.gr hPb);have HA8:=G (HA7.out.kept hp8.gr (.inl ⟨P,rfl,hPb⟩));have KL6:=G (KL5.out W8 HR8.out);clear hp8 KB6 KL5 HR7 HS7 HA7;cases h5:lit s j2 with
     |error f=>
      rw[h5]at HST KL6;have HF:=U (r=.error f) HST.out;clear h5 HST;go_wp2_with fail;with_reducible refine KL6.out.mono ?_
      rintro e W9 ⟨⟨u,pv,rfl⟩,hp9⟩;have HW:=G (HR8.out.toq hp9 hbw);clear hp9;go_wp2_with fail;rw[HF.out];exact⟨rfl,⟨_,_,rfl⟩,HW.out⟩
     |ok q5=>
      obtain⟨tx,j3⟩:=q5;have hj4:=lit_ok h5;have hj5:=(lit_bd h5).2;rw[h5]at HST KL6;clear h5;dsimp only at HST KL6;go_wp2_with fail;with_reducible refine KL6.out.mono ?_
      rintro e W9 ⟨⟨v,rfl,B0,bc0,rfl,ho9⟩,hp9⟩;have HR9:=G (HR8.out.toq hp9 hbw);have HS9:=G (HS8.out.ps hp9.gr hPb);have HA9:=G (HA8.out.kept hp9.gr (.inl ⟨P,rfl,hPb⟩));have hb8:base<=W8.heap.size:=Nat.le_trans hbw HR8.out.size;have hb9:base<=W9.heap.size:=Nat.le_trans hbw HR9.out.size;have HB9:=G (f_.mk' (P:=base) (r:=Value.ownBlock (H Km m.length cm)) (Sl.of_own ho9) (Apt.own ho9 (by omega) (fun q hq=>(HS8.out.lt q hq).2)));obtain⟨vs,hv1,hv2,hv3⟩:=HS9.out.ex;have HV2:=G hv2;have HV3:=G (fun(o:Obj) (w3:Wv) (K3:Oa) (k3:Nat) (v:Oa×Nat×Oa×Nat) (t:Tlr) ho hg hB ht=>cT.app (P:=P) (base:=base) hv1 hv3 (o:=o) (w3:=w3) (K3:=K3) (k3:=k3) (v:=v) (t:=t) ho hg hB ht);have HTL:=G (fun(b:Bool)=>show fE W9 base (Value.ownBlock (H Km m.length cm)) (A,ac,B0,bc0) ⟨a,tx,kk,b⟩from⟨HA9.out.a,HA9.out.pa,HB9.out.a,HB9.out.pa⟩);clear hp9 ho9 KL6 HR8 HS8 HA8 hv1 hv2 hv3 HS9;cases bv with
      |true=>
       go_wp2_with(at_builtin;refine cJ _ _ 44 35 (.agg #[H N 0 0,H N 0 0,I J 0,.bool false]) 4 64 rfl rfl underlying44 l_ rfl (by decide) (by decide) rfl (HV2.out.alloc _) rfl (eE W9 (b_ (A,ac,B0,bc0) ⟨a,tx,kk,false⟩) _ rfl) (by rfl) (by intro u hu;simp only[b_,List.mem_cons,List.not_mem_nil,or_false]at hu;rcases hu with rfl|rfl|rfl|rfl<;>rfl) (by omega) (by simp;omega) ?_;intro K3 k3 w3 hown3 hc3 hb3 hg3 hB3);have HSn:=G (HV3.out _ w3 K3 k3 _ _ hown3 hg3 hB3 (HTL.out false));have HRn:=G ((HR9.out.bel ((Below.refl _ _).alloc hb9 _) hPb).bel hb3 hPb);have HI3:=G (((HB9.out.below' (ba _ _)).kept hg3 (.inr (.inl rfl))).a);have hz3:=HRn.out.size;have KC3:=G (KC.out B0 tx.length bc0 tx w3 HI3.out rfl (by omega));clear hown3 hc3 hb3 hg3 hB3 HV2 HV3 HTL HB9 HA9 HI3;go_wp2_with fail;with_reducible refine KC3.out.mono ?_
       rintro e W11 ⟨A',c',rfl,ho11,hb11⟩;have HAf:=G (f_.mk' (P:=base) (r:=Value.ownBlock (H K3 (m++[(⟨a,tx,kk,false⟩:Tlr)]).length k3)) (Sl.of_own ho11) (Apt.own ho11 (by omega) (fun q hq=>(HSn.out.lt q hq).2)));have HSf:=G (HSn.out.below hb11);have HRf:=G (HRn.out.bel (hb11.mono (Nat.le_trans hbw hz3)) hPb);clear ho11 hb11 KC3 HSn HRn;go_wp2_with fail;go_roundw
       case rel=>exact⟨m++[(⟨a,tx,kk,false⟩:Tlr)],K3,k3,false,tx,A',c',j3,hj4.2,by simp;omega,by omega,by rw[List.length_append];rfl,rfl,rfl,HST,HRf.out,HSf.out,HAf.out⟩
       have q1:=HRf.out.at;have q2:=HAT.out;have q3:=hj1.1;omega
      |false=>
       go_wp2_with(at_builtin;refine cJ _ _ 44 35 (.agg #[H N 0 0,H N 0 0,I J 0,.bool false]) 4 64 rfl rfl underlying44 l_ rfl (by decide) (by decide) rfl (HV2.out.alloc _) rfl (eE W9 (b_ (A,ac,B0,bc0) ⟨a,tx,kk,false⟩) _ rfl) (by rfl) (by intro u hu;simp only[b_,List.mem_cons,List.not_mem_nil,or_false]at hu;rcases hu with rfl|rfl|rfl|rfl<;>rfl) (by omega) (by simp;omega) ?_;intro K3 k3 w3 hown3 hc3 hb3 hg3 hB3);have HSn:=G (HV3.out _ w3 K3 k3 _ _ hown3 hg3 hB3 (HTL.out false));have HRn:=G ((HR9.out.bel ((Below.refl _ _).alloc hb9 _) hPb).bel hb3 hPb);have HI3:=G (((HB9.out.below' (ba _ _)).kept hg3 (.inr (.inl rfl))).a);have hz3:=HRn.out.size;have KC3:=G (KC.out B0 tx.length bc0 tx w3 HI3.out rfl (by omega));clear hown3 hc3 hb3 hg3 hB3 HV2 HV3 HTL HB9 HA9 HI3;go_wp2_with fail;with_reducible refine KC3.out.mono ?_
       rintro e W11 ⟨A',c',rfl,ho11,hb11⟩;have HAf:=G (f_.mk' (P:=base) (r:=Value.ownBlock (H K3 (m++[(⟨a,tx,kk,false⟩:Tlr)]).length k3)) (Sl.of_own ho11) (Apt.own ho11 (by omega) (fun q hq=>(HSn.out.lt q hq).2)));have HSf:=G (HSn.out.below hb11);have HRf:=G (HRn.out.bel (hb11.mono (Nat.le_trans hbw hz3)) hPb);clear ho11 hb11 KC3 HSn HRn;go_wp2_with fail;go_roundw
       case rel=>exact⟨m++[(⟨a,tx,kk,false⟩:Tlr)],K3,k3,false,tx,A',c',j3,hj4.2,by simp;omega,by omega,by rw[List.length_append];rfl,rfl,rfl,HST,HRf.out,HSf.out,HAf.out⟩
       have q1:=HRf.out.at;have q2:=HAT.out;have q3:=hj1.1;omega
   have d2:((bt s p:Int)==61)=false:=by simp;omega
   have HF:=G (hb.out.trans (RT (by rintro(q|q);exact h60 q;exact h61 q)));clear h60 h61 hb;generalize bt s p=bb at *;go_wp2_with fail;with_reducible refine KN1.out.mono ?_
   rintro e W5 ⟨rfl,hp5⟩;have HR5:=G (HR.out.toq hp5 hbw);have HS5:=G (HSm.out.ps hp5.gr hPb);have KN3:=G (KN2.out W5 HR5.out);clear hp5 KN1 KN2;go_wp2_with fail;with_reducible refine KN3.out.mono ?_
   rintro e W6 ⟨rfl,hp6⟩;have HR6:=G (HR5.out.toq hp6 hbw);have HS6:=G (HS5.out.ps hp6.gr hPb);clear hp6 KN3;go_wp2_with fail;go_ret;rw[HF.out];exact⟨⟨_,rfl,_,_,rfl,HS6.out⟩,HR6.out⟩
theorem ET(p q r:Addr)(w:Wv):
  CallsD prog 57 #[.pointer (Z p),.pointer (Z q),.pointer (Z r)] .returning w fun e u' w'=>e=.returned (.tuple #[])/\u'=.returning/\w'=w:=by
 have hnil:∀w:Wv,(binOp BinOp.neq 20 .nilIface .nilIface).run prog w=.ok (.bool false) w:=fun _=>by kernel_rfl
 refine callsD_of_wpS func57 rfl fun c₀ cs hu=>?_
 apply wpS_seq;apply wpS_region;simp[wpOpsS,go_sem,recoverD,hu,ntmps57,Exit.thenS,hnil];refine wpS_cond (t:=false) (by simp[Act.eval,Array.replicate]) ?_;simp only[Bool.false_eq_true,if_false];refine wpS_of_wp (wp_skip ?_);cases c₀
 simp_all [bodyPostS,results,results57]
theorem EU(pb qb rb P:Nat)(at_:Int)(s0 z0 z1:Value)(u:TypeId)(pv:Value)(older:List PanicEntry)(w:Wv)(h1:w.cell? ⟨pb,0,N⟩=Z (.pointer (Z ⟨P,0,N⟩)))(h2:w.cell? ⟨P,1,N⟩=Z (I J at_))(h3:w.cell? ⟨qb,0,N⟩=Z s0)(h4:w.cell? ⟨rb,0,N⟩=Z z0)(h5:w.cell? ⟨rb,1,N⟩=Z z1)
  (f3:w.frozen? ⟨qb,0,N⟩=false) (f4:w.frozen? ⟨rb,0,N⟩=false) (f5:w.frozen? ⟨rb,1,N⟩=false) (hqr:qb≠rb) :
  CallsD prog 57 #[.pointer (Z ⟨pb,0,N⟩),.pointer (Z ⟨qb,0,N⟩),.pointer (Z ⟨rb,0,N⟩)] (.panicking ({ v:=.iface u pv,recovered:=false }::older)) w fun e u' w'=>
   e=.returned (.tuple #[])/\u'=.panicking ({ v:=.iface u pv,recovered:=true }::older)/\w'=((w.setCell ⟨qb,0,N⟩ (H N 0 0)).setCell ⟨rb,0,N⟩ (I J 3)).setCell ⟨rb,1,N⟩ (I J at_):=by
 have hnn:∀w:Wv,(binOp BinOp.neq 20 (.iface u pv) .nilIface).run prog w=.ok (.bool true) w:=fun _=>by kernel_rfl
 refine callsD_of_wpS func57 rfl fun c₀ cs hu=>?_
 apply wpS_seq;apply wpS_region;simp[wpOpsS,go_sem,recoverD,hu,ntmps57,Exit.thenS,hnn];refine wpS_cond (t:=true) (by simp[Act.eval,Array.replicate]) ?_;simp only[if_true];refine wpS_of_wp ?_;go_wp2_with fail;clear h1 h2 h3 h4 h5 f3 f4 f5 hnn;generalize World.setCell _ _ _=w9;cases c₀
 simp_all [bodyPostS,results,results57]
def eU(w:Wv)(K:Oa)(l:List Tlr):Prop:=∃vs:List (Oa×Nat×Oa×Nat),vs.length=l.length/\Sl w K (eI vs l)/\∀i,(hi:i<l.length)->(hv:i<vs.length)->aB w vs[i].1 l[i].anc/\aB w vs[i].2.2.1 l[i].cds
theorem cT.tlrs{w:Wv}{P base c:Nat}{K:Oa}{l:List Tlr}(h:cT w P base K c l):eU w K l:=by
 obtain⟨vs,h1,h2,h3⟩:=h.ex;exact⟨vs,h1,Sl.of_own h2,fun i hi hv=>⟨(h3 i hi hv).a,(h3 i hi hv).b⟩⟩
def tW(r:List Tlr×Int×Int)(w:Wv)(e:Ending)(w':Wv):Prop:=∃K c,e=.returned (.tuple #[H K r.1.length c,.agg #[I J r.2.1,I J r.2.2]])/\eU w' K r.1/\By w w'
theorem zA{s:ByteArray}:∀{n:Nat}{a:Li}{b:Bool}{l m:List Tlr}{i j:Nat},stpN s n a b l i=.ok (m,j)->m.length+i<=l.length+j
 |0,a,b,l,m,i,j,h=>by
  injection h with h;injection h with h h';subst h;subst h';exact Nat.le_refl _
 |n+1,a,b,l,m,i,j,h=>by
  unfold stpN at h;split at h
  ·cases h
  next j1 h1=>
  have g1:=sgn_ok h1;split at h
  ·cases h
  next j2 h2=>
  have g2:=lit_ok h2;have g3:=blk_le s j1;split at h
  ·have g4:=zA h
   simp at g4;omega
  injection h with h;injection h with h h';subst h;subst h';simp;omega
theorem FB{s:ByteArray}{l m:List Tlr}{i j:Nat}(h:chn s l i=.ok (m,j)):m.length+i<=l.length+j:=by
 rw[chn_eq]at h;split at h
 ·cases h
 next u i1 h1=>
 have g1:=(wrd_ok (by simp) h1).1;have g2:=blk_le s i1;simp at g1;split at h
 ·cases h
 next b i2 h2=>
 have g3:=(bfr_ok h2).1;split at h
 ·cases h
 next h3=>
 have g4:=lit_ok h3;have g5:=zA h;omega
theorem uU{s:ByteArray}:∀(n m:Nat)(l:List Tlr)(i:Nat),s.size-i<=n->s.size-i<=m->chsN s n l i=chsN s m l i
 |0,0,l,i,_,_=>rfl
 |0,m+1,l,i,h,_=>by
  have e:chsN s (m+1) l i=.ok (l,i):=by unfold chsN;rw[if_neg (by omega)]
  rw[e];rfl
 |n+1,0,l,i,_,h=>by
  have e:chsN s (n+1) l i=.ok (l,i):=by unfold chsN;rw[if_neg (by omega)]
  rw[e];rfl
 |n+1,m+1,l,i,h1,h2=>by
  unfold chsN;by_cases h0:i<s.size
  ·rw[if_pos h0,if_pos h0]
   cases hc:chn s l i with
   |error e=>rfl
   |ok q=>
    obtain⟨l',j⟩:=q;have:=chn_ok hc;dsimp only;exact uU n m l' j (by omega) (by omega)
  rw[if_neg h0,if_neg h0]
def kU(s:ByteArray)(l:List Tlr)(i:Nat):Rd (List Tlr):=chsN s (s.size-i) l i
theorem FG{s:ByteArray}{l:List Tlr}{i:Nat}(h:¬i<s.size):kU s l i=.ok (l,i):=by
 unfold kU;cases s.size-i with
 |zero=>rfl
 |succ n=>unfold chsN;rw[if_neg h]
theorem FE{s:ByteArray}{l:List Tlr}{i:Nat}(h:i<s.size):kU s l i=match chn s l i with | .error e=>.error e | .ok (m,j)=>kU s m j:=by
 unfold kU;rw[show s.size-i=(s.size-(i+1))+1 by omega];conv=>lhs;unfold chsN
 rw[if_pos h];cases hc:chn s l i with
 |error e=>rfl
 |ok q=>
  obtain⟨m,j⟩:=q;have:=chn_ok hc;dsimp only;exact uU _ _ m j (by omega) (Nat.le_refl _)
def sW(r:Rd (List Tlr)):List Tlr×Int×Int:=match r with | .error e=>([],3,e) | .ok (l,_)=>(l,0,0)
theorem QR{s:ByteArray}(h:¬65536<s.size):parseF s=sW (parse s):=by
 unfold parseF;rw[if_neg h];cases parse s<;>rfl
structure PaS(w:Wv)(n:Nat)(s:ByteArray)(K:Oa)(c:Nat)(l:List Tlr)(p:Nat)(wr:Wv):Prop where
 bS:Box wr n 44 [H K l.length c]
 bF:Box wr (n+1) 47 [I J 0,I J 0]
 bP:PsB wr (n+1+1) s p
 bV:Box wr (n+1+1+1) 100 [.pointer (Z ⟨n+1+1,0,N⟩)]
 st:cT wr (n+1+1) (n+1+1+1+1) K c l
 bel:Below n w wr
 sz:n+1+1+1+1<=wr.heap.size
section
variable {w wr W:Wv}{n c p j c':Nat}{s:ByteArray}{K K':Oa}{l l':List Tlr}
theorem PaS.below(h:PaS w n s K c l p wr)(hb:By wr W):PaS w n s K c l p W:=by
 have:=h.sz;exact⟨h.bS.below hb h.bS.lt,h.bF.below hb h.bF.lt,h.bP.below hb h.bP.lt,h.bV.below hb h.bV.lt,h.st.below hb,h.bel.trans (hb.mono (by omega)),by have:=hb.size;omega⟩
theorem PaS.low(h:PaS w n s K c l p wr)(hp:PsL (n+1+1) (n+1+1+1+1) s wr j W):Box W n 44 [H K l.length c]/\Box W (n+1) 47 [I J 0,I J 0]/\PsB W (n+1+1) s j/\Box W (n+1+1+1) 100 [.pointer (Z ⟨n+1+1,0,N⟩)]/\Below n w W:=
 ⟨(hp.low n (by omega) (by omega)).trans h.bS,(hp.low _ (by omega) (by omega)).trans h.bF,hp.box,(hp.low _ (by omega) (by omega)).trans h.bV,h.bel.trans ⟨hp.os,hp.tape,hp.output,hp.size,fun q hq=>hp.low q (by omega) (by omega)⟩⟩
theorem cT.set{P base q o:Nat}(h:cT wr P base K c l)(hq:q<base)(v:Value):cT (wr.setCell ⟨q,o,N⟩ v) P base K c l:=by
 obtain⟨vs,h1,h2,h3⟩:=h.ex;exact⟨vs,h1,kH h2 (bT wr ⟨q,o,N⟩ v) hq,fun i hi hv=>(h3 i hi hv).kept (bT wr ⟨q,o,N⟩ v) (.inl ⟨q,rfl,hq⟩)⟩
theorem PaS.next(h:PaS w n s K c l p wr)(hp:PsL (n+1+1) (n+1+1+1+1) s wr j W)(hs:cT W (n+1+1) (n+1+1+1+1) K' c' l'):PaS w n s K' c' l' j (W.setCell ⟨n,0,N⟩ (H K' l'.length c')):=by
 obtain⟨b1,b2,b3,b4,b5⟩:=h.low hp;have hz:=h.sz;refine⟨b1.set 0 _,b2.grown (bT W ⟨n,0,N⟩ _) (by simp),b3.grown (bT W ⟨n,0,N⟩ _) (by simp;omega),b4.grown (bT W ⟨n,0,N⟩ _) (by simp;omega),hs.set (by omega) _,b5.setCell (Nat.le_refl _) _,?_⟩;have:=hp.size;simp;omega
end
theorem yA(s:ByteArray)(w:Wv)(hs:s.size<=9223372036854775806):Calls prog 19 #[.string s] w (tW (parseF s) w):=by
 have hmf:∀(fn:Fn)(first cap:Array Value)(w:Wv),(Instr.makeFunc fn first cap).run prog w=.ok (.func fn first cap) w:=fun _ _ _ _=>rfl
 by_cases hbig:65536<s.size
 ·have d1:decide ((65536:Int)<(s.size:Int))=true:=by simp;omega
  have hr:parseF s=([],2,0):=by unfold parseF;rw[if_pos hbig]
  rw[hr];go_enter_defers func19,ntmps19;go_wp2_with fail;refine⟨.tuple #[H N 0 0,.agg #[I J 2,I J 0]],by simp[results,results19,go_sem],?_⟩;exact⟨N,0,rfl,⟨[],rfl,fun h=>absurd rfl h,fun i hi _=>absurd hi (by simp)⟩,(ba _ _).alloc (by simp) _⟩
 have d1:decide ((65536:Int)<(s.size:Int))=false:=by simp;omega
 have hsz:s.size<=65536:=by omega
 obtain⟨r,hr⟩:∃r,parse s=r:=⟨_,rfl⟩;have HPF:=U (parseF s=sW r) (by rw[<-hr];exact QR hbig);have HR0:=U (r=kU s [] (skp s 0)) hr.symm;have hb0:=blk_sz (s:=s) (i:=0) (Nat.zero_le _);generalize parseF s=pf at *;have B0:By w ((((w.alloc (.cells #[H N 0 0] 44)).alloc (.cells #[I J 0,I J 0] 47)).alloc (.cells #[.string s,I J 0] 102)).alloc (.cells #[.pointer (Z ⟨w.heap.size+1+1,0,N⟩)] 100)):=(((ba _ _).alloc (by simp) _).alloc (by simp<;>omega) _).alloc (by simp<;>omega) _;have XS:Box ((((w.alloc (.cells #[H N 0 0] 44)).alloc (.cells #[I J 0,I J 0] 47)).alloc (.cells #[.string s,I J 0] 102)).alloc (.cells #[.pointer (Z ⟨w.heap.size+1+1,0,N⟩)] 100)) w.heap.size 44 [H N 0 0]:=(((Box.new w 44 [H N 0 0] rfl).below (B:=w.heap.size+1) ((Below.refl _ _).alloc (by simp) _) (by omega)).below (B:=w.heap.size+1) ((Below.refl _ _).alloc (by simp<;>omega) _) (by omega)).below (B:=w.heap.size+1) ((Below.refl _ _).alloc (by simp<;>omega) _) (by omega);have XF:Box ((((w.alloc (.cells #[H N 0 0] 44)).alloc (.cells #[I J 0,I J 0] 47)).alloc (.cells #[.string s,I J 0] 102)).alloc (.cells #[.pointer (Z ⟨w.heap.size+1+1,0,N⟩)] 100)) (w.heap.size+1) 47 [I J 0,I J 0]:=((Box.new _ 47 [I J 0,I J 0] (by simp)).below (B:=w.heap.size+1+1) ((Below.refl _ _).alloc (by simp) _) (by omega)).below (B:=w.heap.size+1+1) ((Below.refl _ _).alloc (by simp<;>omega) _) (by omega);have XP:Box ((((w.alloc (.cells #[H N 0 0] 44)).alloc (.cells #[I J 0,I J 0] 47)).alloc (.cells #[.string s,I J 0] 102)).alloc (.cells #[.pointer (Z ⟨w.heap.size+1+1,0,N⟩)] 100)) (w.heap.size+1+1) 102 [.string s,I J 0]:=(Box.new _ 102 [.string s,I J 0] (by simp)).below (B:=w.heap.size+1+1+1) ((Below.refl _ _).alloc (by simp) _) (by omega);have XV:Box ((((w.alloc (.cells #[H N 0 0] 44)).alloc (.cells #[I J 0,I J 0] 47)).alloc (.cells #[.string s,I J 0] 102)).alloc (.cells #[.pointer (Z ⟨w.heap.size+1+1,0,N⟩)] 100)) (w.heap.size+1+1+1) 100 [.pointer (Z ⟨w.heap.size+1+1,0,N⟩)]:=Box.new _ _ _ (by simp);have HZ:w.heap.size+1+1+1+1<=(((((w.alloc (.cells #[H N 0 0] 44)).alloc (.cells #[I J 0,I J 0] 47)).alloc (.cells #[.string s,I J 0] 102)).alloc (.cells #[.pointer (Z ⟨w.heap.size+1+1,0,N⟩)] 100))).heap.size:=by simp
 have W0E:∃W0,((((w.alloc (.cells #[H N 0 0] 44)).alloc (.cells #[I J 0,I J 0] 47)).alloc (.cells #[.string s,I J 0] 102)).alloc (.cells #[.pointer (Z ⟨w.heap.size+1+1,0,N⟩)] 100))=W0:=⟨_,rfl⟩;clear hbig hr;go_enter_defers func19,ntmps19;go_wp2_with fail;obtain⟨W0,hW0⟩:=W0E;try rw[hW0]at B0 XS XF XP XV HZ|-
 clear hW0;have H0:=U (PaS w w.heap.size s N 0 [] 0 W0) (⟨XS,XF,XP,XV,cT.nil _ _ _,B0,HZ⟩);have KB:=G (qN (w.heap.size+1+1) s 0 W0 XP (Nat.zero_le _) (by omega));clear XS XF XP XV HZ B0;generalize hn:w.heap.size=n at *;have HN:=G hn;clear hn;generalize skp s 0=p0 at *;with_reducible refine KB.out.mono ?_
 rintro e W1 ⟨rfl,hp1⟩
 have H1:=U (PaS w n s N 0 [] p0 W1) (by
  have hz:=H0.out.sz
  have hg:=hp1.gr
  have q:∀b,b<n+1+1+1+1->b≠n+1+1->W1.heap[b]?=W0.heap[b]?:=fun b hb hne=>hg.block b (by omega) (fun e=>hne (by first|(injection e)|(injection e with e;exact e.symm)))
  exact⟨(q n (by omega) (by omega)).trans H0.out.bS,(q _ (by omega) (by omega)).trans H0.out.bF,hp1.box,(q _ (by omega) (by omega)).trans H0.out.bV,cT.nil _ _ _,H0.out.bel.trans ⟨hg.os,hg.tape,hg.output,hg.size,fun k hk=>q k (by omega) (by omega)⟩,Nat.le_trans hz hg.size⟩)
 clear hp1 KB H0;go_wp2_with fail;go_loopw [] (fun wr=>∃(K:Oa)(c:Nat)(l:List Tlr)(p:Nat),p<=s.size/\l.length<=p/\Hid (r=kU s l p)/\PaS w n s K c l p wr) (fun wr=>s.size-fY (n+1+1) wr)
 case atStart=>exact⟨N,0,[],p0,hb0,Nat.zero_le _,HR0,H1.out⟩
 obtain⟨K,c,l,p,hp,hlp,hb,hpa⟩:=hrel;have HP:=G hpa;have c1:=hpa.bP.c 1 rfl;have c0:=hpa.bP.c 0 rfl;have cv:=hpa.bV.c 0 rfl;clear hpa H1 HR0;by_cases hlt:p<s.size
 ·have d2:decide ((p:Int)<(s.size:Int))=true:=by simp;omega
  have HST:=G (hb.out.trans (FE hlt));have HAT:=U (fY (n+1+1) wr=p) (by unfold fY;rw[c1];rfl);have hok:=fun m j=>chn_ok (s:=s) (l:=l) (m:=m) (i:=p) (j:=j)
  have hln:=fun m j=>FB (s:=s) (l:=l) (m:=m) (i:=p) (j:=j)
  have KC:=G (fun(W:Wv) (h:PaS w n s K c l p W)=>QX (n+1+1) (n+1+1+1+1) s p K c l W h.bP (by omega) h.sz h.st hp hsz hlp);unfold RdL at KC;go_wp2_with fail;go_quiet(fail);have HP1:=G (HP.out.below (eF wr nq));clear c0 c1 cv HP hb;generalize World.drewN wr nq=w2 at *;have KC1:=G (KC.out w2 HP1.out);have cv:=HP1.out.bV.c 0 rfl;have cs:=HP1.out.bS.c 0 rfl;clear KC;cases hc:chn s l p with
  |error f=>
   rw[hc]at HST KC1;have HF:=U (r=.error f) HST.out;clear hc HST;go_wp2_with fail;with_reducible refine KC1.out.mono ?_
   rintro e W3 ⟨⟨u,pv,rfl⟩,hp3⟩;have HL:=G (HP1.out.low hp3);clear hp3 KC1;go_wp2_with fail;obtain⟨q1,q2,q3,q4,q5⟩:=HL.out;have cs3:=q1.c 0 rfl;have cf0:=q2.c 0 rfl;have cf1:=q2.c 1 rfl;refine leaves_cons (f:=57) (args:=#[.pointer (Z ⟨n+1+1+1,0,N⟩),.pointer (Z ⟨n,0,N⟩),.pointer (Z ⟨n+1,0,N⟩)]) (by simp) (by simp[go_sem]) ?_;refine(EU (n+1+1+1) n (n+1) (n+1+1) f _ _ _ u pv [] W3 (q4.c 0 rfl) (q3.c 1 rfl) cs3 cf0 cf1 (q1.free 0) (q2.free 0) (q2.free 1) (by omega)).mono ?_;rintro e u' w'' ⟨rfl,rfl,rfl⟩;refine⟨.tuple #[H N 0 0,.agg #[I J 3,I J f]],by simp[results,results19,go_sem,cs3,cf0,cf1],?_⟩;rw[HPF.out,HF.out];refine⟨N,0,rfl,⟨[],rfl,fun h=>absurd rfl h,fun i hi _=>absurd hi (by simp[sW])⟩,?_⟩;show Below w.heap.size w _;rw[HN.out];exact((q5.setCell (Nat.le_refl _) _).setCell (by simp) _).setCell (by simp) _
  |ok q=>
   obtain⟨m,j⟩:=q;have hj:=hok m j hc;have hm:=hln m j hc;rw[hc]at HST KC1;dsimp only at HST KC1;clear hc hok hln;unfold uS at KC1;go_wp2_with fail;with_reducible refine KC1.out.mono ?_
   rintro e W3 ⟨⟨v,rfl,K',c',rfl,hst⟩,hp3⟩;have HN3:=G (HP1.out.next hp3 hst);have HL:=G (HP1.out.low hp3);have cs3:=HL.out.1.c 0 rfl;have fs3:=HL.out.1.free 0;clear hst hp3 KC1 cv cs;go_wp2_with fail;go_roundw
   case rel=>exact⟨K',c',m,j,hj.2,by omega,HST,HN3.out⟩
   have q1:fY (n+1+1) (W3.setCell ⟨n,0,N⟩ (H K' m.length c'))=j:=by
    unfold fY;rw[HN3.out.bP.c 1 rfl];rfl
   rw[q1,HAT.out];omega
 have d2:decide ((p:Int)<(s.size:Int))=false:=by simp;omega
 have HF:=G (hb.out.trans (FG hlt));go_wp2_with fail;go_quiet(fail);have HP1:=G (HP.out.below (eF wr nq));clear c0 c1 cv HP hb;generalize World.drewN wr nq=w2 at *;have cs:=HP1.out.bS.c 0 rfl;have fs:=HP1.out.bS.free 0;have cf0:=HP1.out.bF.c 0 rfl;have cf1:=HP1.out.bF.c 1 rfl;have ff0:=HP1.out.bF.free 0;have ff1:=HP1.out.bF.free 1;go_wp2_with fail;refine leaves_cons (f:=57) (args:=#[.pointer (Z ⟨n+1+1+1,0,N⟩),.pointer (Z ⟨n,0,N⟩),.pointer (Z ⟨n+1,0,N⟩)]) (by simp) (by simp[go_sem]) ?_;refine(ET _ _ _ _).mono ?_;rintro e u' w'' ⟨rfl,rfl,rfl⟩;refine⟨.tuple #[H K l.length c,.agg #[I J 0,I J 0]],by simp[results,results19,go_sem,cs,cf0,cf1],?_⟩;rw[HPF.out,HF.out];refine⟨K,c,rfl,(((HP1.out.st.set (by omega) _).set (by omega) _).set (by omega) _).tlrs,?_⟩;show Below w.heap.size w _;rw[HN.out];exact((HP1.out.bel.setCell (Nat.le_refl _) _).setCell (by simp) _).setCell (by simp) _
end
section
open Go.RowKit Go.Maps Go.WideMaps Tl
theorem nR(x:Nrm)(c:Col)(t:Tlr):cZ x c t=stepP x c t:=by
 unfold cZ stepP jC;by_cases h1:bQ x≠0
 ·rw[if_pos h1,if_pos h1,if_pos h1]
 rw[if_neg h1,if_neg h1];by_cases h2:aH c≠0
 ·rw[if_pos h2,if_pos h2,if_pos h2]
 rw[if_neg h2,if_neg h2];cases h3:kndT t with
 |false=>simp
 |true=>
  cases h4:rngT t.anc with
  |false=>simp
  |true=>
   cases h5:rngT t.cds with
   |false=>simp
   |true=>simp
theorem oJ{c:Col}(h:aH c=0)(hn:c.ents.length<=1048576)(hm:c.grps.length<=1048576):aZ c:=by
 refine⟨fun i hi=>?_,hn,hm⟩;have:=(ent_iff c.base _).1 (ents_all (eY h) _ (List.getElem_mem hi));have h1:=this.c8;have h2:=this.e16;omega
theorem VO{x:Nrm}{c:Col}{t:Tlr}(h:(cZ x c t).1=0):(cZ x c t).2.ents.length<=c.ents.length+1/\(cZ x c t).2.grps.length=c.grps.length/\aH (cZ x c t).2=0:=by
 rw[nR]at h|-;have he:stepP x c t=(0,(stepP x c t).2):=by rw[<-h]
 have h1:=stepP_valid he;obtain⟨l,-,-,-,h4,h5⟩:=stepP_found he;exact⟨h5,h4,h1⟩
def iE(x:Nrm):Col->List Tlr->Nat->Int×Int×Col
 |c,[],_=>(0,0,c)
 |c,t::l,i=>if(cZ x c t).1≠0 then((cZ x c t).1,i,col0)else iE x (cZ x c t).2 l (i+1)
theorem DK{x:Nrm}{c:Col}{l:List Tlr}{i:Nat}(hi:i<l.length):iE x c (l.drop i) i=if(cZ x c l[i]).1≠0 then((cZ x c l[i]).1,(i:Int),col0)else iE x (cZ x c l[i]).2 (l.drop (i+1)) (i+1):=by
 rw[List.drop_eq_getElem_cons hi];rfl
theorem DJ{x:Nrm}{c:Col}{l:List Tlr}:iE x c (l.drop l.length) l.length=(0,0,c):=by
 rw[List.drop_length];rfl
theorem eU.below{w w':Wv}{K:Oa}{l:List Tlr}(h:eU w K l)(hb:By w w'):eU w' K l:=by
 obtain⟨vs,h1,h2,h3⟩:=h;exact⟨vs,h1,h2.below hb,fun i hi hv=>⟨(h3 i hi hv).1.below hb,(h3 i hi hv).2.below hb⟩⟩
theorem zN:∀{vs:List (Oa×Nat×Oa×Nat)}{l:List Tlr}(i f:Nat)(hl:vs.length=l.length)(hi:i<l.length)(_:f<4),(eI vs l)[i*4+f]?=(b_ (vs[i]'(by omega)) l[i])[f]?
 |v::vs,t::l,0,f,_,_,hf=>by
  show(b_ v t++eI vs l)[0*4+f]?=_
  rw[List.getElem?_append_left (by simp[b_];omega)];simp
 |v::vs,t::l,i+1,f,hl,hi,hf=>by
  have e:(eI (v::vs) (t::l))=b_ v t++eI vs l:=rfl;rw[e,List.getElem?_append_right (by simp[b_];omega)];have h2:(i+1)*4+f-(b_ v t).length=i*4+f:=by simp[b_];omega
  rw[h2,zN i f (by simpa using hl) (by simpa using hi) hf];rfl
 | [],t::l,_,_,hl,_,_=>by simp at hl
 |_,[],_,_,_,hi,_=>by simp at hi
theorem zO:∀{vs:List (Oa×Nat×Oa×Nat)}{l:List Tlr},vs.length=l.length->(eI vs l).length=l.length*4
 | [],[],_=>rfl
 |v::vs,t::l,h=>by
  show(b_ v t++eI vs l).length=_
  rw[List.length_append,zO (by simpa using h)];simp[b_];omega
 | [],_::_,h=>by simp at h
 |_::_,[],h=>by simp at h
theorem eU.at{w:Wv}{K:Oa}{l:List Tlr}(h:eU w K l){m:Nat}(hm:m<l.length):∃b o,K=Z ⟨b,o,N⟩/\b<w.heap.size/\∀i,(hi:i<l.length)->∃P p Q q,w.cell? ⟨b,o+i*4,N⟩=Z (H P l[i].anc.length p)/\w.cell? ⟨b,o+i*4+1,N⟩=Z (H Q l[i].cds.length q)/\w.cell? ⟨b,o+i*4+2,N⟩=Z (I J l[i].lvl)/\w.cell? ⟨b,o+i*4+3,N⟩=Z (.bool l[i].bef)/\aB w P l[i].anc/\aB w Q l[i].cds:=by
 obtain⟨vs,h1,h2,h3⟩:=h
 have hne:eI vs l≠[]:=fun e=>by
  have:=zO h1;rw[e]at this;simp only[List.length_nil]at this;omega
 obtain⟨b,o,rfl,hc⟩:=h2 hne;refine⟨b,o,rfl,lF h2 hne rfl,fun i hi=>?_⟩;have hv:i<vs.length:=by omega
 have gt:=fun f(hf:f<4)u hu=>hc (i*4+f) u ((zN i f h1 hi hf).trans hu)
 obtain⟨a1,a2⟩:=h3 i hi hv;refine⟨vs[i].1,vs[i].2.1,vs[i].2.2.1,vs[i].2.2.2,?_,?_,?_,?_,a1,a2⟩
 ·have:=gt 0 (by omega) _ rfl;simpa using this
 ·have:=gt 1 (by omega) _ rfl;simpa[Nat.add_assoc]using this
 ·have:=gt 2 (by omega) _ rfl;simpa[Nat.add_assoc]using this
 have:=gt 3 (by omega) _ rfl;simpa[Nat.add_assoc]using this
def fD(N:Nat)(w:Wv)(A B:Oa)(c:Col):Prop:=∀Z W',Chg Z w W'->(∀q,Z q->q<N)->aY W' A c.ents.length B c.grps.length c
theorem fD.here{N:Nat}{w:Wv}{A B:Oa}{c:Col}(h:fD N w A B c):aY w A c.ents.length B c.grps.length c:=h (fun _=>False) w (Chg.refl _ _) (fun _ e=>e.elim)
theorem fD.chg{N:Nat}{Z:Nat->Prop}{w w':Wv}{A B:Oa}{c:Col}(h:fD N w A B c)(hc:Chg Z w w')(hZ:∀q,Z q->q<N):fD N w' A B c:=fun _ W' hc' hZ'=>
 h (fun q=>q<N) W' ((hc.mono (fun q _ z=>hZ q z)).trans (hc'.mono (fun q _ z=>hZ' q z))) (fun _ z=>z)
theorem fD.low{N M:Nat}{w:Wv}{A B:Oa}{c:Col}(h:fD N w A B c)(hm:M<=N):fD M w A B c:=fun Z W' hc hZ=>h Z W' hc (fun q z=>Nat.lt_of_lt_of_le (hZ q z) hm)
theorem fD.below{N:Nat}{w w':Wv}{A B:Oa}{c:Col}(h:fD N w A B c)(hb:By w w'):fD N w' A B c:=h.chg (Chg.of_below (S:=fun _=>False) hb) (fun _ e=>e.elim)
theorem GQ{w w':Wv}{c:Col}{A:Oa}{a:Nat}{B:Oa}{b base z top:Nat}(hcp:CpE w' base z A a c.ents c.ents.length top)(hgr:w'.ownsRow w.heap.size 98 3 (H B c.grps.length b) c.grps.length (aE Grp.cells c.grps))(hz1:w.heap.size<=z)(hz2:z<base)(hs:∀g∈c.grps,g.name.size<=9223372036854775807):fD w.heap.size w' A B c:=by
 intro Z W' hc hZ;obtain⟨vs,m,hop⟩:=hcp.open;refine⟨⟨vs,hop.len,Sl.of_own (iM hop.row hc (fun q hq z=>by have:=(aU hop.row hq).1;have:=hZ q z;omega)),fun i hi hv=>hop.hdr2 (aN w' _) hc (fun q z=>by have:=hZ q z;omega) i hi hv⟩,Sl.of_own (iM hgr hc (fun q hq z=>by have:=(aU hgr hq).1;have:=hZ q z;omega)),rfl,rfl,hs⟩
end
end Go.Proofs.YtkhmjidaeliccaaGreatDoor
