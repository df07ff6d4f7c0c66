import Derived.Test.YtkhmjidaeliccaaGreatDoorS09
set_option maxRecDepth 100000
set_option maxHeartbeats 51200000
namespace Go.Proofs.YtkhmjidaeliccaaGreatDoor
open Option renaming none->N,some->Z
open Value renaming int->I,slice->H
open IntKind renaming i64->J
open Go.Proofs.Tryz
section
open Go.RowKit Go.Maps Go.WideMaps
theorem VX(A:Oa)(n a:Nat)(B:Oa)(m b:Nat)(c:Col)(i:Nat)(w:Wv)(h:aO w A n B m c)(hz:aQ c)(hi:i<c.ents.length):
  Calls prog 106 #[aJ A n a B m b c,I J i] w (aU (eC c.base c.ents i) w):=by
 obtain⟨es,gs,base,second,third⟩:=c;dsimp only at *;unfold aJ;dsimp only;have ab:=h.ents;have aq:=h.hn;dsimp only at aq ab;subst aq;obtain⟨z,F,rfl,bn,f⟩:=ab.at hi;obtain⟨C,cc,E,d,c1,c2,hC,hE⟩:=f i hi;obtain⟨z1,z2⟩:=hz.e i hi;dsimp only at z1 z2;have bp:es.length<=1048576:=hz.n;have X:=G (λh=>xR (base:=base) hi h)
 have S:=U (0<i->∃D dd,w.cell? ⟨z,F+(i-1)*2,N⟩=Z (H D (es[i-1]' O).codes.length dd)/\aA w D (es[i-1]' O).codes/\(es[i-1]' O).codes.length<=1048576/\(cA base es[i]=0->(0<=aE (es[i-1]' O).codes es[i].codes->eC base es i=4)/\(¬0<=aE (es[i-1]' O).codes es[i].codes->eC base es i=0))) (λhp=>by
  obtain⟨j,rfl⟩:∃j,i=j+1:=⟨i-1,O⟩
  obtain⟨D,dd,_,_,e1,_,e3,_⟩:=f j O
  exact⟨D,dd,e1,e3,(hz.e j (show j<es.length by omega)).1,λhz=>⟨λh=>xS hi hz h,λh=>xT hi hz h⟩⟩)
 have Q:=G (show¬0<i->cA base es[i]=0->eC base es i=0 from λhp hz=>by
  obtain rfl:i=0:=O
  exact xQ hi hz)
 generalize hx:es[i]=x at *;have HX:=G hx;clear f h hz hx ab;have T:=U (iY x ↔ (x.codes.length<1\/8<x.codes.length\/16<x.elems.length)) Iff.rfl;have bo:(i:Int)<(es.length:Int):=O;have g:By w ((w.alloc (.cells #[H (Z ⟨z,F,N⟩) es.length a,H B m b,I J base,I J second,I J third] 32)).alloc (.cells #[H C x.codes.length cc,H E x.elems.length d] 75)):=(ba _ _).alloc L _;by_cases l:x.codes.length<1\/8<x.codes.length\/16<x.elems.length
 ·have r:=G ((X.o (by rw[sL (base:=base) (T.o.2 l)];simp)).trans (sL (base:=base) (T.o.2 l)))
  generalize eC base es i=R at *;clear S Q X;obtain l|⟨g1,l⟩|⟨g1,g2,l⟩:x.codes.length<1\/(¬x.codes.length<1/\8<x.codes.length)\/(¬x.codes.length<1/\¬8<x.codes.length/\16<x.elems.length):=O
  all_goals
   go_enter func106,ntmps106;go_wp2;go_ret;exact⟨aH r.o.symm,g⟩
 have q:=G (λh=>l (T.o.1 h));have y1:¬x.codes.length<1:=O;have y2:¬8<x.codes.length:=O;have y3:¬16<x.elems.length:=O;clear l T;go_enter func106,ntmps106;go_wp2;have s0:((w.alloc (.cells #[H (Z ⟨z,F,N⟩) es.length a,H B m b,I J base,I J second,I J third] 32)).alloc (.cells #[H C x.codes.length cc,H E x.elems.length d] 75)).heap.size=w.heap.size+2:=L;have k0:((w.alloc (.cells #[H (Z ⟨z,F,N⟩) es.length a,H B m b,I J base,I J second,I J third] 32)).alloc (.cells #[H C x.codes.length cc,H E x.elems.length d] 75)).cell? ⟨w.heap.size,0,N⟩=Z (H (Z ⟨z,F,N⟩) es.length a):=L;have k2:((w.alloc (.cells #[H (Z ⟨z,F,N⟩) es.length a,H B m b,I J base,I J second,I J third] 32)).alloc (.cells #[H C x.codes.length cc,H E x.elems.length d] 75)).cell? ⟨w.heap.size,2,N⟩=Z (I J base):=L;have l0:((w.alloc (.cells #[H (Z ⟨z,F,N⟩) es.length a,H B m b,I J base,I J second,I J third] 32)).alloc (.cells #[H C x.codes.length cc,H E x.elems.length d] 75)).cell? ⟨w.heap.size+1,0,N⟩=Z (H C x.codes.length cc):=L;have l1:((w.alloc (.cells #[H (Z ⟨z,F,N⟩) es.length a,H B m b,I J base,I J second,I J third] 32)).alloc (.cells #[H C x.codes.length cc,H E x.elems.length d] 75)).cell? ⟨w.heap.size+1,1,N⟩=Z (H E x.elems.length d):=L;obtain⟨W0,am⟩:=exQ ((w.alloc (.cells #[H (Z ⟨z,F,N⟩) es.length a,H B m b,I J base,I J second,I J third] 32)).alloc (.cells #[H C x.codes.length cc,H E x.elems.length d] 75));rw[am]at g s0 k0 k2 l0 l1|-;clear am;have ah:=G (hC.below g);have ai:=G (hE.below g);have K:=G (And.intro k0 (And.intro k2 (And.intro l0 l1)));have ar:w.heap.size<W0.heap.size:=O;have ad:w.heap.size+1<W0.heap.size:=O;clear hC hE k0 k2 l0 l1 s0 c1 c2;go_loop [6] (λu=>∃i:Nat,i<=x.codes.length/\u=I J i/\(∀t,(ht:t<x.codes.length)->t<i->inR 0 1114111 x.codes[t]=true)) (λu=>x.codes.length-(intOf u).toNat)
 case atStart=>exact⟨0,Nat.zero_le _,rfl,λt _ h=>O⟩
 obtain⟨k,hk,rfl,g1⟩:=hrel;have G1:=G g1;clear g1;have l0:=K.o.2.2.1;by_cases hlt:k<x.codes.length
 ·obtain⟨b2,o2,rfl,f⟩:=ah.o.at hlt
  have c1:=f k hlt;have y:=G (λh=>xO (base:=base) q.o hlt h);have M:=G (λh=>dI (P:=λc=>inR 0 1114111 c=true) hlt G1.o h);clear f;generalize x.codes[k]=cd at *;go_wp2_with fail;refine(fM cd _).mono ?_;rintro e w1 ⟨rfl,rfl⟩;cases hv:inR 0 1114111 cd
  ·have r:=G ((X.o (by rw[y.o hv];simp)).trans (y.o hv))
   go_wp2;go_ret;exact⟨aH r.o.symm,g⟩
  have r:=G (M.o hv);go_wp2;go_round
  case rel=>exact⟨k+1,O,oN_,r.o⟩
  exact oI_
 have Y:=G (λt(ht:t<x.codes.length)=>G1.o t ht O);clear G1;go_wp2;clear l0;go_loopw [7,8] (λu _ wr=>∃i:Nat,i<=x.elems.length/\u=I J i/\(∀t,(ht:t<x.elems.length)->t<i->dP x.elems[t]=0)/\By W0 wr) (λu _ _=>x.elems.length-(intOf u).toNat)
 case atStart=>exact⟨0,Nat.zero_le _,rfl,λt _ h=>O,Below.refl _ _⟩
 obtain⟨k,hk,rfl,g2,hb⟩:=hrel;have G2:=G g2;clear g2;have l1:=(hb.cell (p:=⟨w.heap.size+1,1,N⟩) ad).trans K.o.2.2.2;by_cases hlt:k<x.elems.length
 ·obtain⟨b2,o2,rfl,ap,f⟩:=(ai.o.below hb).at hlt
  obtain⟨c1,c2,c3,c4⟩:=f k hlt;have y:=G (λh=>xP (base:=base) q.o Y.o hlt G2.o h);have M:=G (λh=>dI (P:=λe=>dP e=0) hlt G2.o h);have CE:=G (λW=>VW x.elems[k] W);clear f;generalize dP x.elems[k]=ev at *;generalize x.elems[k].p=p at *;generalize x.elems[k].s=s at *;generalize x.elems[k].t=t at *;generalize x.elems[k].v=v at *;go_wp2_with fail;refine(CE.o _).mono ?_;rintro e w1 ⟨rfl,an⟩;have ao:=tb hb an;clear an c1 c2 c3 c4;by_cases hev:ev=0
  ·have q1:(ev !=0)=false:=by simpa using hev
   have r:=G (M.o hev);clear hev y M;go_wp2;go_roundw
   case rel=>exact⟨k+1,O,oN_,r.o,ao⟩
   exact oI_
  have q1:(ev !=0)=true:=by simpa using hev
  have r:=G ((X.o (by rw[y.o hev];exact hev)).trans (y.o hev));clear hev y M;go_wp2;go_ret;exact⟨aH r.o.symm,tb g ao⟩
 have ag:=G (λt(ht:t<x.elems.length)=>G2.o t ht O);clear G2;go_wp2;clear l1;go_loopw [9] (λu wr=>∃i:Nat,i<=x.elems.length/\u=I J i/\(∀t,(ht:t<x.elems.length)->t<i->¬base<=x.elems[t].p)/\By W0 wr) (λu _=>x.elems.length-(intOf u).toNat)
 case atStart=>exact⟨0,Nat.zero_le _,rfl,λt _ h=>O,hb⟩
 obtain⟨k,hk,rfl,g3,hb⟩:=hrel;have G3:=G g3;clear g3;have l1:=(hb.cell (p:=⟨w.heap.size+1,1,N⟩) ad).trans K.o.2.2.2;have l0:=(hb.cell (p:=⟨w.heap.size+1,0,N⟩) ad).trans K.o.2.2.1;have k0:=(hb.cell (p:=⟨w.heap.size,0,N⟩) ar).trans K.o.1;have k2:=(hb.cell (p:=⟨w.heap.size,2,N⟩) ar).trans K.o.2.1;by_cases hlt:k<x.elems.length
 ·obtain⟨b2,o2,rfl,ap,f⟩:=(ai.o.below hb).at hlt
  have c1:=(f k hlt).1;have y:=G (λh=>xU (base:=base) q.o Y.o ag.o hlt h);have M:=G (λh=>dI (P:=λe=>¬base<=e.p) hlt G3.o h);have i1:(k:Int)<(x.elems.length:Int):=O;clear f;generalize x.elems[k].p=p at *;by_cases hev:base<=p
  ·have q1:decide (base<=p)=true:=by simpa using hev
   have r:=G ((X.o (by rw[y.o hev];simp)).trans (y.o hev));clear y M hev;go_wp2;go_quiet(fail);go_wp2;go_ret;exact⟨aH r.o.symm,g.trans ((bU hb _).mono g.size)⟩
  have q1:decide (base<=p)=false:=by simpa using hev
  have r:=G (M.o hev);clear y M hev;go_wp2;go_quiet(fail);go_wp2;go_roundw
  case rel=>exact⟨k+1,O,oN_,(λt ht h9=>by have:=r.o t ht h9;omega),bU hb _⟩
  exact oI_
 have HZ:=xN (base:=base) q.o Y.o ag.o (λt ht=>G3.o t ht O);have aa:=ah.o.below hb;by_cases hp:0<i
 ·obtain⟨D,dd,d1,hD,z3,V⟩:=S.o hp
  have o:=G (V HZ);have al:=(hD.below g).below hb;have bk:=(hb.cell (p:=⟨z,F+(i-1)*2,N⟩) (by have:=World.block_lt_of_cell? w _ d1;have:=g.size;simp at *;omega)).trans ((g.cell (p:=⟨z,F+(i-1)*2,N⟩) (World.block_lt_of_cell? w _ d1)).trans d1);have CC:=G (λn=>qP D C _ _ dd cc _ x.codes (wr.drewN n) (Sl.drewN al n) (Sl.drewN aa n) rfl rfl O O);clear V X S Q hD d1 al aa HZ;generalize (es[i-1]' O).codes=pcs at *;generalize aE pcs x.codes=cv at *;generalize eC base es i=R at *;have i1:(0:Int)<=(i:Int)-1:=O;have i2:(i:Int)-1<(es.length:Int):=O;have i3:((i:Int)-1).toNat=i-1:=O;have w1:IntKind.i64.wrap ((i:Int)-1)=(i:Int)-1:=IntWalk.i64_in _ O;by_cases hcv:0<=cv
  ·have q9:decide (0<=cv)=true:=by simpa using hcv
   have HV:=G (o.o.1 O);clear hcv o;go_wp2;go_quiet((go_at_call 26;exact oF (CC.o _)));clear i3 w1;go_wp2;go_ret;exact⟨aH HV.o.symm,g.trans ((bU hb _).mono g.size)⟩
  have q9:decide (0<=cv)=false:=by simpa using hcv
  have HV:=G (o.o.2 O);clear hcv o;go_wp2;go_quiet((go_at_call 26;exact oF (CC.o _)));clear i3 w1;go_wp2;go_ret;exact⟨aH HV.o.symm,g.trans ((bU hb _).mono g.size)⟩
 have bq:decide ((0:Int)<(i:Int))=false:=oU_;have HV:=G (Q.o hp HZ);clear X S Q HZ aa;generalize eC base es i=R at *;go_wp2;go_quiet(fail);go_wp2;go_ret;exact⟨aH HV.o.symm,g.trans ((bU hb _).mono g.size)⟩
theorem uG(A:Oa)(n a:Nat)(B:Oa)(m b:Nat)(c:Col)(w:Wv)(h:aO w A n B m c)(hz:aQ c):
  Calls prog 42 #[aJ A n a B m b c] w (aU (aK c) w):=by
 have g:By w (w.alloc (.cells #[H A n a,H B m b,I J c.base,I J c.second,I J c.third] 32)):=ba _ _;have t:=G (wZ (c:=c));have Y:=G (xA (c:=c));have X:=G (w_ (c:=c));have V:=G (λW(hb:By w W)(h65:c.base<=65502)=>VY A n a B m b c W (h.below hb) h65 (by rw[<-h.hm];exact hz.m));have CE:=G (λW i(hb:By w W)(hi:i<c.ents.length)=>VX A n a B m b c i W (h.below hb) hz hi);obtain⟨es,gs,base,second,third⟩:=c;dsimp only at *;unfold aJ at *;dsimp only at *;have r:=G zAw;have C:=h.hn;have am:es.length<=1048576:=hz.n;dsimp only at C;subst C;clear h hz;by_cases q1:base<1
 ·have d:=G (t.o (.inl q1))
  go_enter func42,ntmps42;go_wp2;go_ret;exact⟨aH d.o.symm,g⟩
 by_cases q2:65502<base
 ·have d:=G (t.o (.inr (.inl q2)))
  go_enter func42,ntmps42;go_wp2;go_ret;exact⟨aH d.o.symm,g⟩
 cases q3:inR 1 65535 second
 ·have d:=G (t.o (.inr (.inr (.inl q3))))
  go_enter func42,ntmps42;go_wp2_with fail;refine(r.o second _).mono ?_;rw[q3];rintro e D ⟨rfl,rfl⟩;go_wp2;go_ret;exact⟨aH d.o.symm,g⟩
 cases q4:inR 1 65535 third
 ·have d:=G (t.o (.inr (.inr (.inr q4))))
  go_enter func42,ntmps42;go_wp2_with fail;refine(r.o second _).mono ?_;rw[q3];rintro e D ⟨rfl,rfl⟩;go_wp2_with fail;refine(r.o third _).mono ?_;rw[q4];rintro e D ⟨rfl,rfl⟩;go_wp2;go_ret;exact⟨aH d.o.symm,g⟩
 have q:¬(base<1\/65502<base\/inR 1 65535 second=false\/inR 1 65535 third=false):=by rw[q3,q4];simp;omega
 have l:=G (Y.o q);have j:=G (X.o q);clear Y X t q;go_enter func42,ntmps42;go_wp2_with fail;refine(r.o second _).mono ?_;rw[q3];rintro e D ⟨rfl,rfl⟩;go_wp2_with fail;refine(r.o third _).mono ?_;rw[q4];rintro e D ⟨rfl,rfl⟩;go_wp2_with fail;have s0:(w.alloc (.cells #[H A es.length a,H B m b,I J base,I J second,I J third] 32)).heap.size=w.heap.size+1:=L;have M:(w.alloc (.cells #[H A es.length a,H B m b,I J base,I J second,I J third] 32)).cell? ⟨w.heap.size,0,N⟩=Z (H A es.length a):=L;have P:(w.alloc (.cells #[H A es.length a,H B m b,I J base,I J second,I J third] 32)).cell? ⟨w.heap.size,1,N⟩=Z (H B m b):=L;have Q:(w.alloc (.cells #[H A es.length a,H B m b,I J base,I J second,I J third] 32)).cell? ⟨w.heap.size,2,N⟩=Z (I J base):=L;have S:(w.alloc (.cells #[H A es.length a,H B m b,I J base,I J second,I J third] 32)).cell? ⟨w.heap.size,3,N⟩=Z (I J second):=L;have T:(w.alloc (.cells #[H A es.length a,H B m b,I J base,I J second,I J third] 32)).cell? ⟨w.heap.size,4,N⟩=Z (I J third):=L;obtain⟨F,v⟩:=exQ (w.alloc (.cells #[H A es.length a,H B m b,I J base,I J second,I J third] 32));rw[v]at g s0 M P Q S T|-;clear v;have K:=G (And.intro M (And.intro P (And.intro Q (And.intro S T))));have f:w.heap.size<F.heap.size:=O;clear M P Q S T s0 q3 q4 r;refine(V.o F g O).mono ?_;rintro e W1 ⟨rfl,o⟩;clear V;by_cases hgz:cC base gs=0
 ·have g1:(cC base gs !=0)=false:=by simpa using hgz
  have d:=G (j.o hgz);clear hgz l j;generalize cC base gs=ge at *;generalize aK ⟨es,gs,base,second,third⟩=R at *;go_wp2;go_loopw [4,5] (λu _ wr=>∃i:Nat,i<=es.length/\u=I J i/\eD base es N=eD base (es.drop i) (jH es i)/\By F wr) (λu _ _=>es.length-(intOf u).toNat)
  case atStart=>exact⟨0,Nat.zero_le _,rfl,rfl,o⟩
  obtain⟨i,hi,rfl,z,hb⟩:=hrel;have k:=G z;clear z o;have f0:=(hb.cell (p:=⟨w.heap.size,0,N⟩) f).trans K.o.1;by_cases hlt:i<es.length
  ·have f1:=(hb.cell (p:=⟨w.heap.size,1,N⟩) f).trans K.o.2.1
   have f2:=(hb.cell (p:=⟨w.heap.size,2,N⟩) f).trans K.o.2.2.1;have f3:=(hb.cell (p:=⟨w.heap.size,3,N⟩) f).trans K.o.2.2.2.1;have f4:=(hb.cell (p:=⟨w.heap.size,4,N⟩) f).trans K.o.2.2.2.2;have ST:=G (xY base es i hlt);have s:=G (CE.o wr i (tb g hb) hlt);generalize eC base es i=ev at *;go_wp2_with fail;refine s.o.mono ?_;rintro e w3 ⟨rfl,x⟩;have y:=tb hb x;clear x f0 f1 f2 f3 f4 s;by_cases hev:ev=0
   ·have e1:(ev !=0)=false:=by simpa using hev
    have E:=G hev;clear hev;go_wp2;go_roundw
    case rel=>exact⟨i+1,O,oN_,by rw[k.o,ST.o,E.o];rfl,y⟩
    exact oI_
   have e1:(ev !=0)=true:=by simpa using hev
   have E:=G hev;clear hev;go_wp2;go_ret;exact⟨aH (by rw[d.o,k.o,ST.o,if_pos E.o]),tb g y⟩
  have HF:=G (xV base es i O);go_wp2;go_ret;exact⟨aH (by rw[d.o,k.o,HF.o]),tb g hb⟩
 have g1:(cC base gs !=0)=true:=by simpa using hgz
 have d:=G (l.o hgz);clear hgz l j;generalize cC base gs=ge at *;go_wp2;go_ret;exact⟨aH d.o.symm,tb g o⟩
def iV(zs:Li):Li:=(zs.length:Int)::(zs++List.replicate (8-zs.length) 0)
def lL(zs:Li):Value:=.agg ((iV zs).map (Value.int .i64)).toArray
def kJ(zs:Li)(w:Wv)(e:Ending)(w':Wv):Prop:=e=.returned (lL zs)/\By w w'
theorem lK:(prog.info? 3).map (·.size)=Z 1:=oK_
theorem lP(tmps:Array Value)(w:Wv){b:Nat}{z0 z1 z2 z3 z4 z5 z6 z7 z8:Int}(ha:tmps.getD 2 undef=.pointer (Z ⟨b,0,N⟩))
  (c0:w.cell? ⟨b,0,N⟩=Z (I J z0):=by go_simp) (c1:w.cell? ⟨b,1,N⟩=Z (I J z1):=by go_simp) (c2:w.cell? ⟨b,2,N⟩=Z (I J z2):=by go_simp) (c3:w.cell? ⟨b,3,N⟩=Z (I J z3):=by go_simp) (c4:w.cell? ⟨b,4,N⟩=Z (I J z4):=by go_simp) (c5:w.cell? ⟨b,5,N⟩=Z (I J z5):=by go_simp) (c6:w.cell? ⟨b,6,N⟩=Z (I J z6):=by go_simp) (c7:w.cell? ⟨b,7,N⟩=Z (I J z7):=by go_simp) (c8:w.cell? ⟨b,8,N⟩=Z (I J z8):=by go_simp) :
  (results f117 tmps).run prog w=.ok (.agg #[I J z0,I J z1,I J z2,I J z3,I J z4,I J z5,I J z6,I J z7,I J z8]) w:=by
 have hr:f117.results=#[.cell 2 169]:=rfl;unfold results;rw[hr];simp only[ha,List.mapM_toArray,List.mapM_cons,List.mapM_nil,asAddr];go_simp
theorem kcp(m:Int){w:Wv}{b o n kc:Nat}(cs:Lv)(hA:Sl w (Z ⟨b,o,N⟩) cs)(hx:cs≠[])(hn:cs.length=Nat.min n 8)(h1:∀v∈cs,v.oneCell'=true):
  (Builtin.copy_ #[33,33] 3 #[H (Z ⟨w.heap.size+1,1,N⟩) 8 8,H (Z ⟨b,o,N⟩) n kc]).run prog ((w.alloc (.cells #[I J 0,I J 0,I J 0,I J 0,I J 0,I J 0,I J 0,I J 0,I J 0] 169)).alloc (.cells #[I J m,I J 0,I J 0,I J 0,I J 0,I J 0,I J 0,I J 0,I J 0] 169))=.ok (goInt cs.length) (World.setCells ((w.alloc (.cells #[I J 0,I J 0,I J 0,I J 0,I J 0,I J 0,I J 0,I J 0,I J 0] 169)).alloc (.cells #[I J m,I J 0,I J 0,I J 0,I J 0,I J 0,I J 0,I J 0,I J 0] 169)) (w.heap.size+1) 1 cs):=by
 refine run_copy_cells (P:=prog) _ 33 33 3 3 (w.heap.size+1) 1 8 8 ⟨b,o,N⟩ n kc cs underlying33 lK hn (λj v hv=>?_) (λj hj=>?_) (λj hj=>L) h1
 ·obtain⟨c,d,h1,a⟩:=Sl.alloc (Sl.alloc hA (.cells #[I J 0,I J 0,I J 0,I J 0,I J 0,I J 0,I J 0,I J 0,I J 0] 169)) (.cells #[I J m,I J 0,I J 0,I J 0,I J 0,I J 0,I J 0,I J 0,I J 0] 169) hx
  injection h1 with h1;injection h1 with h1 h3;subst h1;subst h3;have:=a j v hv;unfold Addr.add;split
  ·next h0=>subst h0;simpa using this
  exact this
 have:j<8:=by have h:Nat.min n 8<=8:=Nat.min_le_right n 8;omega
 rcases j with _|_|_|_|_|_|_|_|j<;>first|(simp;done)|omega
theorem QF(A:Oa)(kc:Nat)(a0:Int)(w:Wv)(hA:aA w A [a0]):Calls prog 117 #[H A 1 kc] w (kJ [a0] w):=by
 obtain⟨b,o,rfl,hc⟩:=hA.at (k:=0) L;have a:=kcp 1 (n:=1) (kc:=kc) [I J a0] hA L rfl (cJ [a0]);simp only[World.setCells,goInt]at a;clear hc;go_enter func117,ntmps117;go_wp2_with fail;(try simp only[Exit.inBlock,Exit.then]);refine bodyPost_ret (lP _ _ (b:=w.heap.size) (z0:=1) (z1:=a0) (z2:=0) (z3:=0) (z4:=0) (z5:=0) (z6:=0) (z7:=0) (z8:=0) rfl) rfl ?_;exact⟨rfl,(ba _ _).alloc L _⟩
theorem QH(A:Oa)(kc:Nat)(a0 a1:Int)(w:Wv)(hA:aA w A [a0,a1]):Calls prog 117 #[H A 2 kc] w (kJ [a0,a1] w):=by
 obtain⟨b,o,rfl,hc⟩:=hA.at (k:=0) L;have a:=kcp 2 (n:=2) (kc:=kc) [I J a0,I J a1] hA L rfl (cJ [a0,a1]);simp only[World.setCells,goInt]at a;clear hc;go_enter func117,ntmps117;go_wp2_with fail;(try simp only[Exit.inBlock,Exit.then]);refine bodyPost_ret (lP _ _ (b:=w.heap.size) (z0:=2) (z1:=a0) (z2:=a1) (z3:=0) (z4:=0) (z5:=0) (z6:=0) (z7:=0) (z8:=0) rfl) rfl ?_;exact⟨rfl,(ba _ _).alloc L _⟩
theorem QI(A:Oa)(kc:Nat)(a0 a1 a2:Int)(w:Wv)(hA:aA w A [a0,a1,a2]):Calls prog 117 #[H A 3 kc] w (kJ [a0,a1,a2] w):=by
 obtain⟨b,o,rfl,hc⟩:=hA.at (k:=0) L;have a:=kcp 3 (n:=3) (kc:=kc) [I J a0,I J a1,I J a2] hA L rfl (cJ [a0,a1,a2]);simp only[World.setCells,goInt]at a;clear hc;go_enter func117,ntmps117;go_wp2_with fail;(try simp only[Exit.inBlock,Exit.then]);refine bodyPost_ret (lP _ _ (b:=w.heap.size) (z0:=3) (z1:=a0) (z2:=a1) (z3:=a2) (z4:=0) (z5:=0) (z6:=0) (z7:=0) (z8:=0) rfl) rfl ?_;exact⟨rfl,(ba _ _).alloc L _⟩
theorem QJ(A:Oa)(kc:Nat)(a0 a1 a2 a3:Int)(w:Wv)(hA:aA w A [a0,a1,a2,a3]):Calls prog 117 #[H A 4 kc] w (kJ [a0,a1,a2,a3] w):=by
 obtain⟨b,o,rfl,hc⟩:=hA.at (k:=0) L;have a:=kcp 4 (n:=4) (kc:=kc) [I J a0,I J a1,I J a2,I J a3] hA L rfl (cJ [a0,a1,a2,a3]);simp only[World.setCells,goInt]at a;clear hc;go_enter func117,ntmps117;go_wp2_with fail;(try simp only[Exit.inBlock,Exit.then]);refine bodyPost_ret (lP _ _ (b:=w.heap.size) (z0:=4) (z1:=a0) (z2:=a1) (z3:=a2) (z4:=a3) (z5:=0) (z6:=0) (z7:=0) (z8:=0) rfl) rfl ?_;exact⟨rfl,(ba _ _).alloc L _⟩
theorem QK(A:Oa)(kc:Nat)(a0 a1 a2 a3 a4:Int)(w:Wv)(hA:aA w A [a0,a1,a2,a3,a4]):Calls prog 117 #[H A 5 kc] w (kJ [a0,a1,a2,a3,a4] w):=by
 obtain⟨b,o,rfl,hc⟩:=hA.at (k:=0) L;have a:=kcp 5 (n:=5) (kc:=kc) [I J a0,I J a1,I J a2,I J a3,I J a4] hA L rfl (cJ [a0,a1,a2,a3,a4]);simp only[World.setCells,goInt]at a;clear hc;go_enter func117,ntmps117;go_wp2_with fail;(try simp only[Exit.inBlock,Exit.then]);refine bodyPost_ret (lP _ _ (b:=w.heap.size) (z0:=5) (z1:=a0) (z2:=a1) (z3:=a2) (z4:=a3) (z5:=a4) (z6:=0) (z7:=0) (z8:=0) rfl) rfl ?_;exact⟨rfl,(ba _ _).alloc L _⟩
theorem QL(A:Oa)(kc:Nat)(a0 a1 a2 a3 a4 a5:Int)(w:Wv)(hA:aA w A [a0,a1,a2,a3,a4,a5]):Calls prog 117 #[H A 6 kc] w (kJ [a0,a1,a2,a3,a4,a5] w):=by
 obtain⟨b,o,rfl,hc⟩:=hA.at (k:=0) L;have a:=kcp 6 (n:=6) (kc:=kc) [I J a0,I J a1,I J a2,I J a3,I J a4,I J a5] hA L rfl (cJ [a0,a1,a2,a3,a4,a5]);simp only[World.setCells,goInt]at a;clear hc;go_enter func117,ntmps117;go_wp2_with fail;(try simp only[Exit.inBlock,Exit.then]);refine bodyPost_ret (lP _ _ (b:=w.heap.size) (z0:=6) (z1:=a0) (z2:=a1) (z3:=a2) (z4:=a3) (z5:=a4) (z6:=a5) (z7:=0) (z8:=0) rfl) rfl ?_;exact⟨rfl,(ba _ _).alloc L _⟩
theorem QM(A:Oa)(kc:Nat)(a0 a1 a2 a3 a4 a5 a6:Int)(w:Wv)(hA:aA w A [a0,a1,a2,a3,a4,a5,a6]):Calls prog 117 #[H A 7 kc] w (kJ [a0,a1,a2,a3,a4,a5,a6] w):=by
 obtain⟨b,o,rfl,hc⟩:=hA.at (k:=0) L;have a:=kcp 7 (n:=7) (kc:=kc) [I J a0,I J a1,I J a2,I J a3,I J a4,I J a5,I J a6] hA L rfl (cJ [a0,a1,a2,a3,a4,a5,a6]);simp only[World.setCells,goInt]at a;clear hc;go_enter func117,ntmps117;go_wp2_with fail;(try simp only[Exit.inBlock,Exit.then]);refine bodyPost_ret (lP _ _ (b:=w.heap.size) (z0:=7) (z1:=a0) (z2:=a1) (z3:=a2) (z4:=a3) (z5:=a4) (z6:=a5) (z7:=a6) (z8:=0) rfl) rfl ?_;exact⟨rfl,(ba _ _).alloc L _⟩
theorem QO(A:Oa)(kc:Nat)(a0 a1 a2 a3 a4 a5 a6 a7:Int)(w:Wv)(hA:aA w A [a0,a1,a2,a3,a4,a5,a6,a7]):Calls prog 117 #[H A 8 kc] w (kJ [a0,a1,a2,a3,a4,a5,a6,a7] w):=by
 obtain⟨b,o,rfl,hc⟩:=hA.at (k:=0) L;have a:=kcp 8 (n:=8) (kc:=kc) [I J a0,I J a1,I J a2,I J a3,I J a4,I J a5,I J a6,I J a7] hA L rfl (cJ [a0,a1,a2,a3,a4,a5,a6,a7]);simp only[World.setCells,goInt]at a;clear hc;go_enter func117,ntmps117;go_wp2_with fail;(try simp only[Exit.inBlock,Exit.then]);refine bodyPost_ret (lP _ _ (b:=w.heap.size) (z0:=8) (z1:=a0) (z2:=a1) (z3:=a2) (z4:=a3) (z5:=a4) (z6:=a5) (z7:=a6) (z8:=a7) rfl) rfl ?_;exact⟨rfl,(ba _ _).alloc L _⟩
theorem y_(A:Oa)(n kc:Nat)(zs:Li)(w:Wv)(hA:aA w A zs)(hn:zs.length=n)(h0:1<=n)(h8:n<=8):Calls prog 117 #[H A n kc] w (kJ zs w):=by
 subst hn;match zs,h0,h8,hA with
 | [a0],_,_,hA=>exact QF A kc a0 w hA
 | [a0,a1],_,_,hA=>exact QH A kc a0 a1 w hA
 | [a0,a1,a2],_,_,hA=>exact QI A kc a0 a1 a2 w hA
 | [a0,a1,a2,a3],_,_,hA=>exact QJ A kc a0 a1 a2 a3 w hA
 | [a0,a1,a2,a3,a4],_,_,hA=>exact QK A kc a0 a1 a2 a3 a4 w hA
 | [a0,a1,a2,a3,a4,a5],_,_,hA=>exact QL A kc a0 a1 a2 a3 a4 a5 w hA
 | [a0,a1,a2,a3,a4,a5,a6],_,_,hA=>exact QM A kc a0 a1 a2 a3 a4 a5 a6 w hA
 | [a0,a1,a2,a3,a4,a5,a6,a7],_,_,hA=>exact QO A kc a0 a1 a2 a3 a4 a5 a6 a7 w hA
 |_::_::_::_::_::_::_::_::_::_,_,h8,_=>simp at h8
theorem QQ:ArrKey prog 169 3 9:=⟨underlying169,oK_,oK_,oK_⟩
theorem tM:Keyed prog 169:=Keyed.of_law QQ.law
noncomputable def jU(zs:Li):Lit:=(keyOf prog 169 (lL zs)).getD (.bool false)
def kok(zs:Li):Prop:=zs.length<=8/\∀z∈zs,(Lit.int .i64 z).wf=true
theorem TN{α:Type}(l:List α)(h:l.length=9):∃a b c d e f g i j,l=[a,b,c,d,e,f,g,i,j]:=by
 match l,h with
 | [a,b,c,d,e,f,g,i,j],_=>exact⟨a,b,c,d,e,f,g,i,j,rfl⟩
theorem QC(l:Li)(h:l.length=9)(hw:∀z∈l,(Lit.int .i64 z).wf=true):(keyOf prog 169 (.agg (l.map (Value.int .i64)).toArray)).isSome=true:=by
 obtain⟨o,p,q,r,s,t,v,w,x,rfl⟩:=TN l h;have c:=hw o L;have d:=hw p L;have e:=hw q L;have f:=hw r L;have g:=hw s L;have i:=hw t L;have j:=hw v L;have k:=hw w L;have n:=hw x L;have hk:prog.keyType 169=true:=oK_;have hu:=underlying169;have hi:=underlying3;have a:prog.cellsOf 169=9:=oK_;have b:prog.cellsOf 3=1:=oK_;obtain⟨m,hm⟩:∃m,prog.types.size=m+1:=⟨prog.types.size-1,oK_⟩;unfold keyOf;rw[hu];simp only[hk,hm,Value.formed,hu,a];unfold Program.keyLits;rw[hu];simp only[a,b];simp[Program.keyLits,hi,c,d,e,f,g,i,j,k,n,List.range,List.range.loop,Value.cells]
theorem QD{zs:Li}(h:zs.length<=8):(iV zs).length=9:=by simp[iV];omega
theorem pO{zs:Li}(h:kok zs):keyOf prog 169 (lL zs)=Z (jU zs):=by
 have a:=QC (iV zs) (QD h.1) (λz hz=>by
  simp only[iV,List.mem_cons,List.mem_append,List.mem_replicate]at hz
  rcases hz with rfl|hz|⟨_,rfl⟩
  ·have:=h.1;exact qJ O O
  ·exact h.2 z hz
  ·exact qJ O O)
 unfold jU;have e:lL zs=.agg ((iV zs).map (Value.int .i64)).toArray:=rfl;rw[e];cases hk:keyOf prog 169 (.agg ((iV zs).map (Value.int .i64)).toArray)with
 |none=>rw[hk]at a;cases a
 |some x=>rfl
theorem QP{xs ys:Li}(h:lL xs=lL ys):xs=ys:=by
 have d:(iV xs).map (Value.int .i64)=(iV ys).map (Value.int .i64):=by
  injection h with h;exact congrArg Array.toList h
 have c:iV xs=iV ys:=(List.map_inj_right (λa b e=>by injection e)).1 d;unfold iV at c;injection c with h3 h4;exact(List.append_inj h4 O).1
theorem QS{xs ys:Li}(hx:kok xs)(hy:kok ys)(h:jU xs=jU ys):xs=ys:=by
 refine QP ?_;have a:=pO hx;have b:=pO hy;rw[h]at a;exact tM.inj a b
def aF(es:List Ent)(zs:Li):Option (List Elt):=es.foldl (λr x=>if x.codes=zs then Z x.elems else r) N
theorem QZ(l:List Ent)(x:Ent)(zs:Li):aF (l++[x]) zs=if x.codes=zs then Z x.elems else aF l zs:=by simp[aF,List.foldl_append]
theorem Q_{es:List Ent}{i:Nat}(hi:i<es.length)(zs:Li):aF (es.take (i+1)) zs=if es[i].codes=zs then Z es[i].elems else aF (es.take i) zs:=by
 rw[List.take_succ_eq_append_getElem hi,QZ]
def dE(es:List Ent):Int:=es.foldl (λr x=>max r (x.codes.length:Int)) 0
theorem RM{es:List Ent}{i:Nat}(hi:i<es.length):dE (es.take (i+1))=max (dE (es.take i)) (es[i].codes.length:Int):=by
 rw[List.take_succ_eq_append_getElem hi];unfold dE;rw[List.foldl_append];rfl
theorem tO{es:List Ent}{k:Nat}(h:∀x∈es,x.codes.length<=k):0<=dE es/\dE es<=k:=by
 unfold dE;have:∀(l:List Ent)(r:Int),(∀x∈l,x.codes.length<=k)->0<=r->r<=k->0<=l.foldl (λr x=>max r (x.codes.length:Int)) r/\l.foldl (λr x=>max r (x.codes.length:Int)) r<=k:=by
  intro l;induction l with
  |nil=>intro r _ a b;exact⟨a,b⟩
  |cons x l ih=>
   intro r hl a b;have hx:=hl x L;exact ih _ (λy hy=>hl y (by simp[hy])) oD_ oD_
 exact this es 0 h O O
theorem RK{es:List Ent}{x:Ent}(h:x∈es):(x.codes.length:Int)<=dE es:=by
 unfold dE;have a:∀(l:List Ent)(r:Int),r<=l.foldl (λr x=>max r (x.codes.length:Int)) r:=by
  intro l;induction l with
  |nil=>intro r;exact Int.le_refl _
  |cons y l ih=>intro r;exact Int.le_trans oD_ (ih _)
 have:∀(l:List Ent)(r:Int),x∈l->(x.codes.length:Int)<=l.foldl (λr x=>max r (x.codes.length:Int)) r:=by
  intro l;induction l with
  |nil=>intro r h;cases h
  |cons y l ih=>
   intro r h;rcases List.mem_cons.1 h with rfl|h
   ·exact Int.le_trans oD_ (a l _)
   exact ih _ h
 exact this es 0 h
theorem lM{es:List Ent}{zs:Li}{e:List Elt}(h:aF es zs=Z e):∃x∈es,x.codes=zs/\x.elems=e:=by
 unfold aF at h;have:∀(l:List Ent)(r:Option (List Elt)),l.foldl (λr x=>if x.codes=zs then Z x.elems else r) r=Z e->r=Z e\/∃x∈l,x.codes=zs/\x.elems=e:=by
  intro l;induction l with
  |nil=>intro r h;exact .inl h
  |cons y l ih=>
   intro r h;rcases ih _ h with a|⟨x,hx,b⟩
   ·dsimp only at a
    split at a
    ·next hy=>injection a with a;exact .inr ⟨y,L,hy,a⟩
    exact .inl a
   exact .inr ⟨x,by simp[hx],b⟩
 rcases this es N h with h|h
 ·cases h
 exact h
def gK(w:Wv)(f:Li->Option Value)(es:List Ent):Prop:=
 ∀zs,kok zs->match aF es zs with|none=>f zs=N|some e=>∃E d,f zs=Z (H E e.length d)/\cM w E e
theorem gK.nil(w:Wv):gK w (λ_=>N) []:=λ_ _=>rfl
theorem gK.below{w w':Wv}{f:Li->Option Value}{es:List Ent}(h:gK w f es)(hb:By w w'):gK w' f es:=λzs hz=>by
 have:=h zs hz;cases hl:aF es zs with
 |none=>rw[hl]at this;exact this
 |some e=>
  rw[hl]at this;obtain⟨E,d,a,b⟩:=this;exact⟨E,d,a,b.below hb⟩
theorem gK.put{w:Wv}{f:Li->Option Value}{es:List Ent}{i:Nat}(h:gK w f (es.take i))(hi:i<es.length){E:Oa}{d:Nat}(hE:cM w E es[i].elems):
  gK w (λy=>if y=es[i].codes then Z (H E es[i].elems.length d)else f y) (es.take (i+1)):=λzs hz=>by
 rw[Q_ hi];by_cases e:es[i].codes=zs
 ·rw[if_pos e]
  dsimp only;rw[if_pos e.symm];exact⟨E,d,rfl,hE⟩
 rw[if_neg e];dsimp only;rw[if_neg (λx=>e x.symm)];exact h zs hz
def aW(c:Col):Col:=if aK c=0 then c else⟨[],[],64448,32,2⟩
def lR(A:Oa)(n a:Nat)(B:Oa)(m b:Nat)(c:Col)(M:Nat)(long:Int)(cl:Value)(top:Int):Lv:=
 [H A n a,H B m b,I J c.base,I J c.second,I J c.third,.map (Z M),I J long,cl,I J top]
structure d_(w:Wv)(T:Nat)(c:Col)(cl:Value)(top:Int):Prop where
 ex:∃A n a B m b M k f,Box w T 167 (lR A n a B m b c M (dE c.ents) cl top)/\aV prog 169 jU kok w M k f/\gK w f c.ents
theorem d_.below{w w':Wv}{T:Nat}{c:Col}{cl:Value}{top:Int}(h:d_ w T c cl top)(hb:By w w'):d_ w' T c cl top:=by
 obtain⟨A,n,a,B,m,b,M,k,f,d,e,g⟩:=h.ex;exact⟨A,n,a,B,m,b,M,k,f,bb d hb,e.below hb,g.below hb⟩
def rH(c:Col)(w:Wv)(e:Ending)(w':Wv):Prop:=∃T,e=.returned (.pointer (Z ⟨T,0,N⟩))/\w.heap.size<=T/\d_ w' T c (H N 0 0) 0/\By w w'
theorem pF{base:Int}{es:List Ent}{p:Option Ent}(h:eD base es p=0):∀x∈es,cA base x=0:=by
 induction es generalizing p with
 |nil=>intro x hx;cases hx
 |cons y r ih=>
  intro x hx;unfold eD at h;by_cases h1:cA base y=0
  ·rcases List.mem_cons.1 hx with rfl|hx
   ·exact h1
   simp only[h1,ne_eq,not_true_eq_false,if_false]at h;cases p with
   |none=>exact ih h x hx
   |some z=>
    simp only at h;split at h
    ·cases h
    exact ih h x hx
  rw[if_pos h1]at h;exact absurd h h1
theorem mT{base:Int}{x:Ent}(h:cA base x=0):1<=x.codes.length/\x.codes.length<=8/\x.elems.length<=16/\∀z∈x.codes,0<=z/\z<=1114111:=by
 unfold cA at h;split at h
 ·cases h
 next h1=>
 split at h
 ·cases h
 next h2=>
 refine⟨O,O,O,λz hz=>?_⟩;simp at h2;exact h2 z hz
theorem fC{c:Col}(h:aK c=0):eD c.base c.ents N=0:=by
 unfold aK at h;split at h
 ·cases h
 split at h
 ·next h1=>exact absurd h h1
 exact h
theorem MB{base:Int}{x:Ent}(h:cA base x=0):kok x.codes:=by
 obtain⟨_,a,_,hz⟩:=mT h;exact⟨a,λz hz'=>by have:=hz z hz';exact qJ O O⟩
theorem MA{c:Col}(h:aK c=0){i:Nat}(hi:i<c.ents.length):kok c.ents[i].codes/\1<=c.ents[i].codes.length/\c.ents[i].codes.length<=8:=by
 have:=pF (fC h) _ (List.getElem_mem hi);exact⟨MB this,(mT this).1,(mT this).2.1⟩
theorem RT(A:Oa)(n a:Nat)(B:Oa)(m b:Nat)(c:Col)(w:Wv)(h:aO w A n B m c)(hz:aQ c)(he:aK c=0):
  Calls prog 60 #[aJ A n a B m b c] w (rH c w):=by
 have B0:By w (w.alloc (.cells #[H A n a,H B m b,I J c.base,I J c.second,I J c.third] 32)):=ba _ _;have s0:(w.alloc (.cells #[H A n a,H B m b,I J c.base,I J c.second,I J c.third] 32)).heap.size=w.heap.size+1:=L;have k0:(w.alloc (.cells #[H A n a,H B m b,I J c.base,I J c.second,I J c.third] 32)).cell? ⟨w.heap.size,0,N⟩=Z (H A n a):=L;have k1:(w.alloc (.cells #[H A n a,H B m b,I J c.base,I J c.second,I J c.third] 32)).cell? ⟨w.heap.size,1,N⟩=Z (H B m b):=L;have k2:(w.alloc (.cells #[H A n a,H B m b,I J c.base,I J c.second,I J c.third] 32)).cell? ⟨w.heap.size,2,N⟩=Z (I J c.base):=L;have k3:(w.alloc (.cells #[H A n a,H B m b,I J c.base,I J c.second,I J c.third] 32)).cell? ⟨w.heap.size,3,N⟩=Z (I J c.second):=L;have k4:(w.alloc (.cells #[H A n a,H B m b,I J c.base,I J c.second,I J c.third] 32)).cell? ⟨w.heap.size,4,N⟩=Z (I J c.third):=L;have a1:∃W0,w.alloc (.cells #[H A n a,H B m b,I J c.base,I J c.second,I J c.third] 32)=W0:=⟨_,rfl⟩;have CK:=G (λW(hb:By w W)=>rV A n a B m b c W (h.below hb) hz);have HE:=G h.ents;have hn:=h.hn;have cf:=hz.n;have aq:=G (λi hi=>MA he (i:=i) hi);have ar:=G he;have LB:=G (λi=>tO (es:=c.ents.take i) (k:=8) (λx hx=>(mT (pF (fC he) x (List.mem_of_mem_take hx))).2.1));have be:=@run_makeMap prog;clear h hz he;unfold aJ at *;subst hn;go_enter func60,ntmps60;go_wp2_with fail;obtain⟨W0,ab⟩:=a1;rw[ab]at B0 s0 k0 k1 k2 k3 k4|-;clear ab;have r:w.heap.size<W0.heap.size:=O;refine(CK.o W0 B0).mono ?_
 rw[ar.o];rintro e g ⟨rfl,l⟩;clear CK;have af:=tb B0 l;have f0:=(l.cell (p:=⟨w.heap.size,0,N⟩) r).trans k0;have f1:=(l.cell (p:=⟨w.heap.size,1,N⟩) r).trans k1;have f2:=(l.cell (p:=⟨w.heap.size,2,N⟩) r).trans k2;have f3:=(l.cell (p:=⟨w.heap.size,3,N⟩) r).trans k3;have f4:=(l.cell (p:=⟨w.heap.size,4,N⟩) r).trans k4;have cg:w.heap.size<g.heap.size:=by have:=l.size;omega
 have ch:¬w.heap.size=g.heap.size:=O;have ci:¬w.heap.size=g.heap.size+1:=O;have KC:=G (And.intro f0 (And.intro f1 (And.intro f2 (And.intro f3 f4))));clear k0 k1 k2 k3 k4;have B2:By g ((g.alloc (.map #[] 0)).alloc (.cells #[H A c.ents.length a,H B m b,I J c.base,I J c.second,I J c.third,.map (Z g.heap.size),I J 0,H N 0 0,I J 0] 167)):=(ba _ _).alloc L _;have X2:Box ((g.alloc (.map #[] 0)).alloc (.cells #[H A c.ents.length a,H B m b,I J c.base,I J c.second,I J c.third,.map (Z g.heap.size),I J 0,H N 0 0,I J 0] 167)) (g.heap.size+1) 167 (lR A c.ents.length a B m b c g.heap.size (0) (H N 0 0) 0):=Box.new _ _ _ L;have M2:aV prog 169 jU kok ((g.alloc (.map #[] 0)).alloc (.cells #[H A c.ents.length a,H B m b,I J c.base,I J c.second,I J c.third,.map (Z g.heap.size),I J 0,H N 0 0,I J 0] 167)) g.heap.size 0 (λ_=>N):=(aV.made prog _ jU kok g).alloc _;have s2:((g.alloc (.map #[] 0)).alloc (.cells #[H A c.ents.length a,H B m b,I J c.base,I J c.second,I J c.third,.map (Z g.heap.size),I J 0,H N 0 0,I J 0] 167)).heap.size=g.heap.size+2:=L;have a2:∃W2,(g.alloc (.map #[] 0)).alloc (.cells #[H A c.ents.length a,H B m b,I J c.base,I J c.second,I J c.third,.map (Z g.heap.size),I J 0,H N 0 0,I J 0] 167)=W2:=⟨_,rfl⟩;go_wp2_with fail;obtain⟨W2,ad⟩:=a2;rw[ad]at B2 X2 M2 s2|-;clear ad f0 f1 f2 f3 f4;have T:=G X2;have Q:=G M2;clear X2 M2 be;have L0:=U (dE (c.ents.take 0)=0) rfl;go_loopw [5,17] (λ_ u wr=>∃(i:Nat)(f:Li->Option Value),i<=c.ents.length/\u=I J i/\Box wr (g.heap.size+1) 167 (lR A c.ents.length a B m b c g.heap.size (dE (c.ents.take i)) (H N 0 0) 0)/\aV prog 169 jU kok wr g.heap.size i f/\gK g f (c.ents.take i)/\By g wr) (λ_ u _=>c.ents.length-(intOf u).toNat)
 case atStart=>exact⟨0,λ_=>N,Nat.zero_le _,rfl,T.o,Q.o,by rw[List.take_zero];exact gK.nil _,B2⟩
 obtain⟨i,f,hi,rfl,hX,hM,hT,o⟩:=hrel;have HX:=G hX;have HM:=G hM;have HT:=G hT;have a9:=hX.lt;clear hX hM hT T Q L0;by_cases hlt:i<c.ents.length
 ·obtain⟨b1,o1,rfl,M,q⟩:=(HE.o.below af).at hlt
  obtain⟨C,cc,E,dd,Y,aa,hC,hE⟩:=q i hlt;obtain⟨z,bc,bd⟩:=aq.o i hlt;have c1:=(o.cell (p:=⟨b1,o1+i*2,N⟩) M).trans Y;have c2:=(o.cell (p:=⟨b1,o1+i*2+1,N⟩) M).trans aa;have D:=G z;have P:=G (λW(hb:By g W)=>hC.below hb);have LS:=G (RM hlt);have lb:=LB.o i;have cj:=LB.o (i+1);have TP:=G (HT.o.put hlt (E:=E) (d:=dd) hE);have b4:b1<wr.heap.size:=Nat.lt_of_lt_of_le M o.size;have ce:¬b1=wr.heap.size:=O;clear q z hC hE Y aa HT;generalize c.ents[i].codes=cds at *;generalize c.ents[i].elems=els at *;have Ba:By wr (wr.alloc (.cells #[H C cds.length cc,H E els.length dd] 75)):=ba _ _;have Xa:Box (wr.alloc (.cells #[H C cds.length cc,H E els.length dd] 75)) wr.heap.size 75 [H C cds.length cc,H E els.length dd]:=Box.new _ _ _ rfl;have sa:(wr.alloc (.cells #[H C cds.length cc,H E els.length dd] 75)).heap.size=wr.heap.size+1:=L;have a3:∃t,wr.alloc (.cells #[H C cds.length cc,H E els.length dd] 75)=t:=⟨_,rfl⟩;go_wp2_with fail;obtain⟨t,ae⟩:=a3;rw[ae]at Ba Xa sa|-;clear ae c1 c2;have XT:=HX.o.below Ba a9;have t5:=XT.cell (i:=5) (v:=.map (Z g.heap.size)) rfl;obtain⟨e0,e1⟩:=Xa.k2;have X:=G XT;have V:=G Xa;have ag:=tb o Ba
  have KY:=G ((y_ C cds.length cc cds t.drew (P.o _ ag.drew) rfl bc bd).mono (R':=λe w'=>e=.returned (lL cds)/\(w'.cell? ⟨g.heap.size+1,5,N⟩=Z (.map (Z g.heap.size))/\w'.cell? ⟨wr.heap.size,0,N⟩=Z (H C cds.length cc)/\w'.cell? ⟨wr.heap.size,1,N⟩=Z (H E els.length dd))/\By t w') (λe w'⟨he,hb⟩=>by
   have s:By t w':=((Below.refl _ t).drew).trans hb
   exact⟨he,⟨(s.cell (p:=⟨g.heap.size+1,5,N⟩) (show g.heap.size+1<_ by omega)).trans t5,(s.cell (p:=⟨wr.heap.size,0,N⟩) (show wr.heap.size<_ by omega)).trans e0,(s.cell (p:=⟨wr.heap.size,1,N⟩) (show wr.heap.size<_ by omega)).trans e1⟩,s⟩))
  clear XT Xa;refine wp_region_held_drew (S:=λW'=>W'.cell? ⟨g.heap.size+1,5,N⟩=Z (.map (Z g.heap.size))/\W'.cell? ⟨wr.heap.size,0,N⟩=Z (H C cds.length cc)/\W'.cell? ⟨wr.heap.size,1,N⟩=Z (H E els.length dd)) oK_ ⟨t5,e0,e1⟩ (λj=>?_);refine tK 0 21 ?_;refine tK 1 22 ?_;refine tK 2 23 ?_;refine tK 3 24 ?_;refine tK 4 25 ?_;refine tK 5 26 ?_;refine tK 7 28 ?_;refine tK 8 29 ?_;refine lZ (R:=λW'=>By t W') (i:=6) (Z 27) rfl rfl oK_ oR_ oS_ KY.o (λw6 hS6 hR6=>?_);clear j KY;have j:=hS6;clear hS6;try simp only[Act.put,sA,sB,sC]
  have bg:=tb Ba hR6;refine IX (val:=H E els.length dd) (i:=9) N rfl rfl oK_ oR_ _ _ _ _ rfl (HM.o.below bg) tM underlying165 (by unfold maxLen;omega) rfl rfl rfl D.o (pO D.o) (λy hy e=>QS hy D.o e) (λw' hg=>?_) (λw7 hM7 hg7=>?_)
  ·have h6:=hR6.size
   exact⟨(World.cell?_of_block (hg.block (g.heap.size+1) O L)).trans j.1,(World.cell?_of_block (hg.block wr.heap.size O oU_)).trans j.2.1,(World.cell?_of_block (hg.block wr.heap.size O oU_)).trans j.2.2⟩
  refine wpAnyH_done oK_ ?_ _;have h6:=hR6.size;have bb:=lA (ag.trans (hR6.mono (by omega:g.heap.size<=t.heap.size))) hg7 (Nat.le_refl _) O;have X7:=(X.o.below hR6 O).grown hg7 L;have Y7:=(V.o.below hR6 O).grown hg7 oU_;have ay:=G X7;have av:=G hM7;have t6:=X7.cell (i:=6) (v:=I J (dE (c.ents.take i))) rfl;have z6:=X7.free 6;have u0:=Y7.c 0 rfl;have g7:=hg7.size;clear X7 Y7 hM7 hg7 HM HX X V j t5 e0 e1;generalize dE (c.ents.take i)=l0 at *;obtain⟨mx,ah⟩:=exQ (max l0 (cds.length:Int));have bf:(if l0<(cds.length:Int)then(cds.length:Int)else l0)=mx:=by rw[<-ah];split<;>omega
  have aw:=G bf;go_wp2_with fail;go_region
  all_goals
   go_wp2;go_roundw
   case rel=>
    have e:mx=dE (c.ents.take (i+1)):=by rw[LS.o,<-aw.o];split<;>omega
    refine⟨i+1,_,O,oN_,?_,(av.o.kept (bR _ _ _) L).below ((Below.refl _ _).drew),TP.o,(bb.setCell (p:=⟨g.heap.size+1,6,N⟩) (by show g.heap.size<=g.heap.size+1;omega) _).drew⟩;rw[e];exact ay.o.set 6 _
   exact oI_
 obtain rfl:i=c.ents.length:=O;have K:=HX.o;have F:=HT.o;rw[List.take_length]at K F;have az:=G K;have ax:=G F;clear K F HT HX;go_wp2;go_ret;exact⟨g.heap.size+1,rfl,O,⟨A,c.ents.length,a,B,m,b,g.heap.size,_,_,az.o,HM.o,ax.o.below o⟩,tb af o⟩
def qX(r:Option (List Elt))(w:Wv)(e:Ending)(w':Wv):Prop:=∃E d,e=.returned (.tuple #[H E (r.getD []).length d,.bool r.isSome])/\cM w' E (r.getD [])/\By w w'
theorem zAz(w:Wv):(zeroValue 54).run prog w=.ok (H N 0 0) w:=oK_
theorem gK.at{w:Wv}{f:Li->Option Value}{es:List Ent}(h:gK w f es){zs:Li}(hz:kok zs):
  ∃E d,(f zs).getD (H N 0 0)=H E ((aF es zs).getD []).length d/\(f zs).isSome=(aF es zs).isSome/\cM w E ((aF es zs).getD []):=by
 have:=h zs hz;cases hl:aF es zs with
 |none=>rw[hl]at this;simp only at this;rw[this];exact⟨N,0,rfl,rfl,Sl.nil _ _⟩
 |some e=>
  rw[hl]at this;obtain⟨E,d,a,b⟩:=this;rw[a];exact⟨E,d,rfl,rfl,b⟩
theorem QX{es:List Ent}(h:∀x∈es,1<=x.codes.length):aF es []=N:=by
 cases hl:aF es []with
 |none=>rfl
 |some e=>
  obtain⟨x,hx,a,_⟩:=lM hl;have:=h x hx;rw[a]at this;simp at this
theorem zB{es:List Ent}{zs:Li}(h:dE es<(zs.length:Int)):aF es zs=N:=by
 cases hl:aF es zs with
 |none=>rfl
 |some e=>
  obtain⟨x,hx,a,_⟩:=lM hl;have:=RK hx;rw[a]at this;omega
theorem zAn(T:Nat)(c:Col)(cl:Value)(top:Int)(C:Oa)(n cc:Nat)(zs:Li)(w:Wv)(hT:d_ w T c cl top)(hC:aA w C zs)(hn:zs.length=n)(hn2:n<=1048576)
  (hE:∀x∈c.ents,1<=x.codes.length/\x.codes.length<=8) (hw:∀z∈zs,(Lit.int .i64 z).wf=true) :
  Calls prog 61 #[.pointer (Z ⟨T,0,N⟩),H C n cc] w (qX (aF c.ents zs) w):=by
 obtain⟨A,n',a,B,m,b,M,k,f,L,X,s⟩:=hT.ex;subst hn;have Y:=L.cell (i:=5) (v:=.map (Z M)) rfl;have t6:=L.cell (i:=6) (v:=.int .i64 (dE c.ents)) rfl;have R:=L.lt;have LB:=tO (k:=8) (λx hx=>(hE x hx).2);have F:=G (QX (λx hx=>(hE x hx).1));have K:=G (zB (es:=c.ents) (zs:=zs));have l:=G (λhk=>s.at (zs:=zs) hk);have HM:=G X;have D:=G (λW(hb:By w W)h1 h8=>y_ C zs.length cc zs W (hC.below hb) rfl h1 h8);have y:=G hw;clear L s X hT hw hE;by_cases h0:zs.length=0
 ·have hz:zs=[]:=List.length_eq_zero_iff.1 h0
  subst hz;rw[F.o];clear F K l D y;go_enter func61,ntmps61;go_wp2_with fail;go_ret2;exact⟨N,0,rfl,Sl.nil _ _,Below.refl _ _⟩
 by_cases h1:dE c.ents<(zs.length:Int)
 ·rw[K.o h1]
  clear F K l D y;have q0:((zs.length:Int)==0)=false:=by rw[beq_eq_false_iff_ne];omega
  have q1:decide (dE c.ents<(zs.length:Int))=true:=by simpa using h1
  generalize dE c.ents=lg at *;go_enter func61,ntmps61;go_wp2_with fail;go_ret2;exact⟨N,0,rfl,Sl.nil _ _,Below.refl _ _⟩
 have q0:((zs.length:Int)==0)=false:=by rw[beq_eq_false_iff_ne];omega
 have q1:decide (dE c.ents<(zs.length:Int))=false:=by simpa using h1
 have j:kok zs:=⟨O,y.o⟩;obtain⟨E,d,v1,v2,q⟩:=l.o j;have P:=G q;have V:=G (And.intro v1 v2);have o:=G j
 have Q:=G (λW(hb:By w W)=>(D.o W hb O O).mono (R':=λe w'=>e=.returned (lL zs)/\(w'.cell? ⟨T,5,N⟩=Z (.map (Z M))/\By w w')) (λe w'⟨he,hb'⟩=>by
  have t:=tb hb hb'
  exact⟨he,(t.cell (p:=⟨T,5,N⟩) R).trans Y,t⟩))
 clear F K l D y j v1 v2 q;generalize dE c.ents=lg at *;generalize aF c.ents zs=r at *;go_enter func61,ntmps61;go_wp2_with fail;refine wp_region_held_drew (S:=λW'=>W'.cell? ⟨T,5,N⟩=Z (.map (Z M))/\By w W') oK_ ⟨Y,(Below.refl _ _).drew⟩ (λg=>?_);refine tK 0 21 ?_;refine tK 1 22 ?_;refine tK 2 23 ?_;refine tK 3 24 ?_;refine tK 4 25 ?_;refine qK 5 26 (Q.o _ g.2) ?_;clear g;intro w6 g;refine IW (v:=.tuple #[H E (r.getD []).length d,.bool r.isSome]) (i:=6) (Z 27) rfl rfl oK_ oK_ oK_ (λ_ _ _ h=>h) oR_ oA_ _ _ _ rfl (λw' hS'=>HM.o.below hS'.2) tM underlying165 zAz rfl rfl o.o (pO o.o) (by rw[V.o.1,V.o.2]) ?_;try simp only[Act.put,sA,sB,sC]
 refine tK 7 20 ?_;refine tK 8 28 ?_;refine tK 9 29 ?_;refine tK 10 6 ?_;refine tK 11 7 ?_;refine wpAnyH_done oK_ ?_ _;go_wp2_with fail;go_ret2;exact⟨E,d,rfl,P.o.below g.2,g.2⟩
theorem FW{c:Col}(h:aK c=0):∀x∈c.ents,1<=x.codes.length/\x.codes.length<=8:=λx hx=>by
 have:=mT (pF (fC h) x hx);exact⟨this.1,this.2.1⟩
theorem RA{c:Col}(h:aK c=0)(zs:Li):((aF c.ents zs).getD []).length<=16:=by
 cases hl:aF c.ents zs with
 |none=>simp
 |some e=>
  obtain⟨x,hx,_,a⟩:=lM hl;have:=(mT (pF (fC h) x hx)).2.2.1;rw[a]at this;exact this
theorem d_.cl{w:Wv}{T:Nat}{c:Col}{cl:Value}{top:Int}(h:d_ w T c cl top):w.cell? ⟨T,7,N⟩=Z cl/\T<w.heap.size:=by
 obtain⟨A,n,a,B,m,b,M,k,f,d,_⟩:=h.ex;exact⟨d.c 7 rfl,d.lt⟩
theorem zAk(bt bc T:Nat)(A:Oa)(k:Nat)(cs:List Spn)(c:Int)(i:Nat)(W:Wv)(hS:bG W A cs)(hi:i<cs.length)(ht:W.cell? ⟨bt,0,N⟩=Z (.pointer (Z ⟨T,0,N⟩)))(hc:W.cell? ⟨bc,0,N⟩=Z (I J c))(h7:W.cell? ⟨T,7,N⟩=Z (H A cs.length k)):
  Calls prog 172 #[I J i,.pointer (Z ⟨bt,0,N⟩),.pointer (Z ⟨bc,0,N⟩)] W (c_ (decide (c<=cs[i].hi)) W):=by
 obtain⟨b,o,rfl,_,a⟩:=hS.at hi;obtain⟨d,e,f⟩:=a i hi;clear a;generalize cs[i].hi=hh at *;generalize cs[i].lo=ll at *;generalize cs[i].val=vv at *;go_enter func172,ntmps172;go_wp2;go_quiet(fail);go_wp2;go_ret;exact⟨rfl,fW _ _⟩
theorem zAl(T:Nat)(A:Oa)(k:Nat)(cs:List Spn)(c:Int)(w:Wv)(hS:bG w A cs)(hbig:cs.length<=1099511627776)(hasc:Asc cs)(hT:T<w.heap.size)(h7:w.cell? ⟨T,7,N⟩=Z (H A cs.length k)):
  Calls prog 127 #[.pointer (Z ⟨T,0,N⟩),I J c] w (aU (cls cs c) w):=by
 have l:By w ((w.alloc (.cells #[.pointer (Z ⟨T,0,N⟩)] 104)).alloc (.cells #[I J c] 3)):=(ba _ _).alloc L _;have v:Box ((w.alloc (.cells #[.pointer (Z ⟨T,0,N⟩)] 104)).alloc (.cells #[I J c] 3)) w.heap.size 104 [.pointer (Z ⟨T,0,N⟩)]:=(Box.new w _ [.pointer (Z ⟨T,0,N⟩)] rfl).below (B:=w.heap.size+1) ((Below.refl _ _).alloc L _) O;have x:Box ((w.alloc (.cells #[.pointer (Z ⟨T,0,N⟩)] 104)).alloc (.cells #[I J c] 3)) (w.heap.size+1) 3 [I J c]:=Box.new _ _ _ L;have z:∃n,((w.alloc (.cells #[.pointer (Z ⟨T,0,N⟩)] 104)).alloc (.cells #[I J c] 3))=n:=⟨_,rfl⟩;have M:=G hS;have d:=G hasc;clear hS hasc;go_enter func127,ntmps127;go_wp2_with fail;obtain⟨n,p⟩:=z;try rw[p]at l v x|-
 clear p;have D:=v.c 0 rfl;have E:=x.c 0 rfl;have F:n.cell? ⟨T,7,N⟩=Z (H A cs.length k):=(l.cell hT).trans h7;have R:=v.lt;have S:=x.lt;have K:=G (λ(i:Nat) (W:Wv) (hi:i<cs.length) (hb:By n W)=>zAk w.heap.size (w.heap.size+1) T A k cs c i W (M.o.below (tb l hb)) hi ((hb.cell R).trans D) ((hb.cell S).trans E) ((hb.cell (by have:=l.size;simp;omega)).trans F))
 have P:=G (YK 172 #[.pointer (Z ⟨w.heap.size,0,N⟩),.pointer (Z ⟨w.heap.size+1,0,N⟩)] cs.length (λi=>decide (c<=(cs.getD i ⟨0,0,0⟩).hi)) n (enters_of func172 oK_ rfl) hbig
  (λi W hi hb=>by
   have h:=K.o i W hi hb
   have e:(cs.getD i ⟨0,0,0⟩)=cs[i]:=by simp[List.getD,hi]
   rw[e]
   exact h)
  (λa b hab hb h=>by
   have Y:(cs.getD a ⟨0,0,0⟩)=cs[a]' O:=by simp[List.getD,show a<cs.length by omega]
   have e2:(cs.getD b ⟨0,0,0⟩)=cs[b]:=by simp[List.getD,hb]
   simp only[Y,e2,decide_eq_true_eq]at h|-
   by_cases e:a=b
   ·subst e;exact h
   ·have:=(d.o a b O hb).2 O
    have:=(d.o b b hb hb).1
    omega))
 go_wp2_with fail;refine P.o.mono ?_
 rintro e W1 ⟨i,rfl,C,g⟩;have j:=tb l g;have p0:=(g.cell R).trans D;have p1:=(g.cell S).trans E;have p7:=(g.cell (by have:=l.size;simp;omega)).trans F;have ad:=C.le;have m:=G C;clear P K v x D E F C;by_cases hi:i<cs.length
 ·obtain⟨b,o,rfl,_,f⟩:=(M.o.below j).at hi
  obtain⟨c1,c2,c3⟩:=f i hi;clear f;have q:c<=cs[i].hi:=by
   have:=m.o.hi i (Nat.le_refl _) hi;simpa[List.getD,hi]using this
  have s:=U (cls cs c=if cs[i].lo<=c then cs[i].val else 0) (by
   by_cases hl:cs[i].lo<=c
   ·rw[if_pos hl];exact wU cs c i hi d.o hl q
   ·rw[if_neg hl]
    refine rY cs c λt ht=>?_
    rintro⟨Q,g2⟩
    by_cases hti:t<i
    ·have:=m.o.lo t hti
     simp[List.getD,ht]at this
     omega
    ·by_cases e:t=i
     ·subst e;exact hl Q
     ·have:=(d.o i t hi ht).2 O
      omega)
  clear q m;generalize cls cs c=r at *;generalize cs[i].hi=hh at *;generalize cs[i].lo=ll at *;generalize cs[i].val=vv at *;have V:decide ((i:Int)<(cs.length:Int))=true:=by simpa using hi
  by_cases hl:ll<=c
  ·have X:decide (ll<=c)=true:=by simpa using hl
   have y:=G (s.o.trans (if_pos hl));go_wp2;go_quiet(fail);go_wp2;go_ret;exact⟨by rw[y.o];rfl,j.trans ((fW _ _).mono j.size)⟩
  have X:decide (ll<=c)=false:=by simpa using hl
  have y:=G (s.o.trans (if_neg hl));go_wp2;go_quiet(fail);go_wp2;go_ret;exact⟨by rw[y.o];rfl,j.trans ((fW _ _).mono j.size)⟩
 ·have s:=U (cls cs c=0) (rY cs c λt ht=>by
   rintro⟨Q,g2⟩
   have:=m.o.lo t O
   simp[List.getD,ht]at this
   omega)
  have V:decide ((i:Int)<(cs.length:Int))=false:=by simpa using hi
  clear m
  generalize cls cs c=r at *
  go_wp2
  go_quiet(fail)
  go_wp2
  go_ret
  exact⟨by rw[s.o];rfl,j.trans ((fW _ _).mono j.size)⟩
def fD(ms:List Mp)(compat:Bool)(c:Int):Int:=match aD ms compat c with|some i=>(i:Int)|none=>-1
def gE(compat:Bool)(c:Int)(m:Mp):Bool:=decide (m.frm=c)&&(compat||decide (m.tag.size=0))
theorem OR{ms:List Mp}{compat:Bool}{c:Int}{i:Nat}(hi:i<ms.length)(h:gE compat c ms[i]=true)(hno:∀t,(ht:t<ms.length)->t<i->gE compat c ms[t]=false):fD ms compat c=i:=by
 have:aD ms compat c=Z i:=by
  unfold aD;rw[List.findIdx?_eq_some_iff_getElem];exact⟨hi,h,λj hj=>by have:=hno j O hj;unfold gE at this;rw[Bool.not_eq_true];exact this⟩
 unfold fD;rw[this]
theorem OT{ms:List Mp}{compat:Bool}{c:Int}(hno:∀t,(ht:t<ms.length)->gE compat c ms[t]=false):fD ms compat c=-1:=by
 have:aD ms compat c=N:=by
  unfold aD;rw[List.findIdx?_eq_none_iff];intro m hm;obtain⟨i,hi,rfl⟩:=List.getElem_of_mem hm;exact hno i hi
 unfold fD;rw[this]
theorem pG(A:Oa)(n k:Nat)(ms:List Mp)(c:Int)(compat:Bool)(w:Wv)(hA:Mps w A ms)(hn:ms.length=n)(hbig:n<=1048576):
  Calls prog 99 #[H A n k,I J c,.bool compat] w λe w'=>e=.returned (I J (fD ms compat c))/\w=w':=by
 subst hn;have r:=G (λi(hi:i<ms.length)h b=>OR (ms:=ms) (compat:=compat) (c:=c) hi h b);have q:=G (OT (ms:=ms) (compat:=compat) (c:=c));generalize fD ms compat c=R at *;have j:=G hA;clear hA;go_enter func99,ntmps99;go_wp2;go_loop [7] (λu=>∃i:Nat,i<=ms.length/\u=I J i/\(∀t,(ht:t<ms.length)->t<i->gE compat c ms[t]=false)) (λu=>ms.length-(intOf u).toNat)
 case atStart=>exact⟨0,Nat.zero_le _,rfl,λt _ h=>absurd h (Nat.not_lt_zero _)⟩
 obtain⟨i,hi,rfl,b⟩:=hrel;have d:=G b;clear b;by_cases hlt:i<ms.length
 ·obtain⟨B,L,rfl,z,a⟩:=j.o.at hlt
  obtain⟨C,cc,D,E,F,_,_⟩:=a i hlt;have l:=G (λh=>r.o i hlt h d.o);have o:=G (λh=>dI (P:=λm=>gE compat c m=false) hlt d.o h);clear a j;generalize ms[i]=mi at *;have s:=G (λ(h:¬mi.frm=c)=>show gE compat c mi=false from by simp[gE,h]);have v:=G (λ(h:mi.frm=c) (h2:compat=true)=>show gE compat c mi=true from by simp[gE,h,h2]);have x:=G (λ(h:mi.frm=c) (h2:mi.tag.size=0)=>show gE compat c mi=true from by simp[gE,h,h2]);have y:=G (λ(h:compat=false) (h2:¬mi.tag.size=0)=>show gE compat c mi=false from by simp[gE,h,h2]);generalize gE compat c mi=hb at *;obtain⟨mf,mt,mg⟩:=mi;dsimp only at *;by_cases hf:mf=c
  ·cases compat with
   |true=>
    have f:=G (l.o (v.o hf rfl));subst hf;go_wp2;go_ret;exact⟨aH f.o.symm,rfl⟩
   |false=>
    by_cases hg:mg.size=0
    ·have p:mg.toList=[]:=iH hg
     have f:=G (l.o (x.o hf hg));subst hf;go_wp2;go_ret;exact⟨aH f.o.symm,rfl⟩
    have p:¬mg.toList=[]:=iG hg;have K:mg.toList.isEmpty=false:=by simpa using p
    have g:=G (o.o (y.o rfl hg));subst hf;go_wp2;go_round
    case rel=>exact⟨i+1,O,oN_,g.o⟩
    exact oI_
  have g:=G (o.o (s.o hf));go_wp2;go_round
  case rel=>exact⟨i+1,O,oN_,g.o⟩
  exact oI_
 have f:=G (q.o (λt ht=>d.o t ht O));go_wp2;go_ret;exact⟨aH f.o.symm,rfl⟩
theorem PP:(prog.info? 4).map (λi=>(i.zero,i.size,i.bytes))=Z (Z (.bool false),1,1):=oK_
def eE(n:Nat)(v:Value):Lv:=List.replicate n v
theorem tP(v:Value)(hv:v.cells=#[v])(n:Nat):madeCells v.cells n=(eE n v).toArray:=by
 rw[hv];unfold eE;apply Array.ext
 ·simp[madeCells]
 intro i a b;simp[madeCells,Nat.mod_one]
theorem SS(n:Nat)(hn:n<=1048576)(W:Wv):(Instr.makeSlice 156 (I J n) (I J n)).run prog W=.ok (H (Z ⟨W.heap.size,0,N⟩) n n) (W.alloc (.cells (eE n (Value.bool false)).toArray 4)):=by
 obtain⟨i,hi,hz,b,a⟩:=info_parts PP;have:=run_make (P:=prog) W 156 4 i (.bool false) underlying156 hi hz .i64 .i64 n n O O (by rw[a];omega) O;rw[this,b];simp only[Int.toNat_natCast,Nat.mul_one,tP (.bool false) rfl]
theorem SU(n:Nat)(hn:n<=1048576)(W:Wv):(Instr.makeSlice 33 (I J n) (I J n)).run prog W=.ok (H (Z ⟨W.heap.size,0,N⟩) n n) (W.alloc (.cells (eE n (Value.int .i64 0)).toArray 3)):=by
 obtain⟨i,hi,hz,b,a⟩:=info_parts cU;have:=run_make (P:=prog) W 33 3 i (I J 0) underlying33 hi hz .i64 .i64 n n O O (by rw[a];omega) O;rw[this,b];simp only[Int.toNat_natCast,Nat.mul_one,tP (I J 0) rfl]
def GQ(T:List Bool)(w:Wv)(e:Ending)(w':Wv):Prop:=∃A c,e=.returned (H A T.length c)/\T.length<=c/\Sl w' A (T.map Value.bool)/\By w w'
theorem Box.sl{w:Wv}{b:Nat}{t:TypeId}{cs:Lv}(h:Box w b t cs):Sl w (Z ⟨b,0,N⟩) cs:=λ_=>⟨b,0,rfl,λj u hu=>by rw[Nat.zero_add];exact h.cell hu⟩
theorem NK(toq:Nat->Li)(fnd:Int->Option Nat)(s:List Nat):∀T:List Bool,(s.foldl (aR toq fnd) T).length=T.length:=by
 induction s with
 |nil=>intro T;rfl
 |cons x s ih=>intro T;exact(ih _).trans (by simp[aR])
theorem NI{toq:Li}{fnd:Int->Option Nat}{T:List Bool}{k:Nat}(hk:k<toq.length):(toq.take (k+1)).all (λe=>match fnd e with|none=>true|some m=>T.getD m false)=((toq.take k).all (λe=>match fnd e with|none=>true|some m=>T.getD m false)&&(match fnd toq[k]with|none=>true|some m=>T.getD m false)):=by
 rw[List.take_succ_eq_append_getElem hk,List.all_append];simp
end
end Go.Proofs.YtkhmjidaeliccaaGreatDoor
