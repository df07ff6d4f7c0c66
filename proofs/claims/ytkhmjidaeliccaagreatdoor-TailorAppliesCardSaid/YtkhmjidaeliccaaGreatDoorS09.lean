import Derived.Test.YtkhmjidaeliccaaGreatDoorS08
set_option maxRecDepth 100000
set_option maxHeartbeats 51200000
namespace Go.Proofs.YtkhmjidaeliccaaGreatDoor
open Option renaming none->N,some->Z
open Value renaming int->I,slice->H
open IntKind renaming i64->J
open Go.Proofs.Tryz
section
open Go.RowKit Go.Maps Go.WideMaps
section
variable {base:Int}{x:Ent}
theorem OA{α:Type}{f:α->Int}{l:List α}{k:Nat}(hk:k<l.length)(h0:∀t,(ht:t<l.length)->t<k->f l[t]=0)(h:f l[k]≠0):jC (l.map f)=f l[k]:=by
 induction l generalizing k with
 |nil=>simp at hk
 |cons a r ih=>
  cases k with
  |zero=>
   simp only[List.getElem_cons_zero]at *;simp[jC,h]
  |succ k=>
   have:=h0 0 L O;simp only[List.getElem_cons_zero]at this;simp only[List.map_cons,jC,this,if_true,List.getElem_cons_succ];exact ih (by simpa using hk) (λt ht h9=>by have:=h0 (t+1) (by simpa using ht) O;simpa using this) (by simpa using h)
theorem yE{α:Type}{f:α->Int}{l:List α}(h0:∀t,(ht:t<l.length)->f l[t]=0):jC (l.map f)=0:=by
 induction l with
 |nil=>rfl
 |cons a r ih=>
  have:=h0 0 L;simp only[List.getElem_cons_zero]at this;simp only[List.map_cons,jC,this,if_true];exact ih λt ht=>by have:=h0 (t+1) (by simpa using ht);simpa using this
def iY(x:Ent):Prop:=x.codes.length<1\/8<x.codes.length\/16<x.elems.length
theorem sL(h:iY x):cA base x=2:=by unfold iY at h;unfold cA;rw[if_pos h]
theorem xO(h:¬iY x){k:Nat}(hk:k<x.codes.length)(hc:inR 0 1114111 x.codes[k]=false):cA base x=1:=by
 unfold iY at h;unfold cA;rw[if_neg h,if_pos (iP hk (by simpa using lJ.1 hc))]
theorem sE(h:∀t,(ht:t<x.codes.length)->inR 0 1114111 x.codes[t]=true):x.codes.any (λc=>decide (c<0\/1114111<c))=false:=fV λt ht=>by
 have:=iU.1 (h t ht);simp;omega
theorem xP(h:¬iY x)(hc:∀t,(ht:t<x.codes.length)->inR 0 1114111 x.codes[t]=true){k:Nat}(hk:k<x.elems.length)(h0:∀t,(ht:t<x.elems.length)->t<k->dP x.elems[t]=0)(he:dP x.elems[k]≠0):cA base x=dP x.elems[k]:=by
 unfold iY at h;unfold cA;rw[if_neg h,if_neg (by rw[sE hc];simp),OA hk h0 he,if_pos he]
theorem xU(h:¬iY x)(hc:∀t,(ht:t<x.codes.length)->inR 0 1114111 x.codes[t]=true)(h0:∀t,(ht:t<x.elems.length)->dP x.elems[t]=0){k:Nat}(hk:k<x.elems.length)(he:base<=x.elems[k].p):cA base x=1:=by
 unfold iY at h;unfold cA;rw[if_neg h,if_neg (by rw[sE hc];simp),yE h0,if_neg L,if_pos (iP hk (by simpa using he))]
theorem xN(h:¬iY x)(hc:∀t,(ht:t<x.codes.length)->inR 0 1114111 x.codes[t]=true)(h0:∀t,(ht:t<x.elems.length)->dP x.elems[t]=0)(he:∀t,(ht:t<x.elems.length)->¬base<=x.elems[t].p):cA base x=0:=by
 unfold iY at h;unfold cA;rw[if_neg h,if_neg (by rw[sE hc];simp),yE h0,if_neg L,if_neg (by rw[fV λt ht=>by simpa using he t ht];simp)]
end
theorem LA(C:Oa)(c:Nat)(E:Oa)(d:Nat)(x:Ent)(base:Int)(w:Wv)(hC:aA w C x.codes)(hE:cM w E x.elems)(h1:x.codes.length<=1048576)(h2:x.elems.length<=1048576):
  Calls prog 69 #[.agg #[H C x.codes.length c,H E x.elems.length d],I J base] w (aU (cA base x) w):=by
 have n:=U (iY x ↔ (x.codes.length<1\/8<x.codes.length\/16<x.elems.length)) Iff.rfl;have HC:=G hC;have HE:=G hE;have j:By w (w.alloc (.cells #[H C x.codes.length c,H E x.elems.length d] 75)):=ba _ _;clear hC hE;by_cases g:x.codes.length<1\/8<x.codes.length\/16<x.elems.length
 ·have b:=G (sL (base:=base) (n.o.2 g))
  generalize cA base x=R at *;obtain g|⟨B,g⟩|⟨B,T,g⟩:x.codes.length<1\/(¬x.codes.length<1/\8<x.codes.length)\/(¬x.codes.length<1/\¬8<x.codes.length/\16<x.elems.length):=O
  all_goals
   go_enter func69,ntmps69;go_wp2;go_ret;exact⟨aH b.o.symm,j⟩
 have f:=G (λh=>g (n.o.1 h));have z1:¬x.codes.length<1:=O;have z2:¬8<x.codes.length:=O;have z3:¬16<x.elems.length:=O;clear g n;go_enter func69,ntmps69;go_wp2;have s0:(w.alloc (.cells #[H C x.codes.length c,H E x.elems.length d] 75)).heap.size=w.heap.size+1:=L;have Y:(w.alloc (.cells #[H C x.codes.length c,H E x.elems.length d] 75)).cell? ⟨w.heap.size,1,N⟩=Z (H E x.elems.length d):=L;obtain⟨M,r⟩:=exQ (w.alloc (.cells #[H C x.codes.length c,H E x.elems.length d] 75));rw[r]at j s0 Y|-;clear r;have F:=G (HC.o.below j);have q:=G (HE.o.below j);have K:=G Y;have X:w.heap.size<M.heap.size:=O;clear HC HE Y s0;go_loop [6,31] (λ_ u=>∃i:Nat,i<=x.codes.length/\u=I J i/\(∀t,(ht:t<x.codes.length)->t<i->inR 0 1114111 x.codes[t]=true)) (λ_ u=>x.codes.length-(intOf u).toNat)
 case atStart=>exact⟨0,Nat.zero_le _,rfl,λt _ h=>O⟩
 obtain⟨i,hi,rfl,B⟩:=hrel;have D:=G B;clear B;by_cases hlt:i<x.codes.length
 ·obtain⟨b1,o1,rfl,a⟩:=F.o.at hlt
  have Q:=a i hlt;have k:=G (λh=>xO (base:=base) f.o hlt h);have l:=G (λh=>dI (P:=λc=>inR 0 1114111 c=true) hlt D.o h);clear a;generalize x.codes[i]=cd at *;go_wp2_with fail;refine(jS cd _).mono ?_;rintro e w1 ⟨rfl,rfl⟩;cases hv:inR 0 1114111 cd
  ·have b:=G (k.o hv)
   go_wp2;go_ret;exact⟨aH b.o.symm,j⟩
  have b:=G (l.o hv);go_wp2;go_round
  case rel=>exact⟨i+1,O,oN_,b.o⟩
  exact oI_
 have m:=G (λt(ht:t<x.codes.length)=>D.o t ht O);clear D;have S:=K.o;go_wp2;clear S;go_loopw [8,9,42] (λ_ _ u wr=>∃i:Nat,i<=x.elems.length/\u=I J i/\(∀t,(ht:t<x.elems.length)->t<i->dP x.elems[t]=0)/\By M wr) (λ_ _ u _=>x.elems.length-(intOf u).toNat)
 case atStart=>exact⟨0,Nat.zero_le _,rfl,λt _ h=>O,Below.refl _ _⟩
 obtain⟨i,hi,rfl,T,hb⟩:=hrel;have A:=G T;clear T;by_cases hlt:i<x.elems.length
 ·obtain⟨b1,o1,rfl,V,a⟩:=(q.o.below hb).at hlt
  obtain⟨Q,c2,c3,c4⟩:=a i hlt;have k:=G (λh=>xP (base:=base) f.o m.o hlt A.o h);have l:=G (λh=>dI (P:=λe=>dP e=0) hlt A.o h);have CE:=G (λW=>NG x.elems[i] W);clear a;generalize dP x.elems[i]=ev at *;generalize x.elems[i].p=p at *;generalize x.elems[i].s=s at *;generalize x.elems[i].t=t at *;generalize x.elems[i].v=v at *;go_wp2_with fail;refine(CE.o _).mono ?_;rintro e w1 ⟨rfl,y⟩;have z:=(hb.alloc hb.size (.cells #[I J p,I J s,I J t,.bool v] 77)).trans (y.mono (by have:=hb.size;simp;omega));clear y Q c2 c3 c4;by_cases hz:ev=0
  ·have q1:(ev !=0)=false:=by simpa using hz
   have b:=G (l.o hz);clear hz k l;go_wp2;go_roundw
   case rel=>exact⟨i+1,O,oN_,b.o,z⟩
   exact oI_
  have q1:(ev !=0)=true:=by simpa using hz
  have b:=G (k.o hz);clear hz k l;go_wp2;go_ret;exact⟨aH b.o.symm,tb j z⟩
 have o:=G (λt(ht:t<x.elems.length)=>A.o t ht O);clear A;have S:=(hb.cell (p:=⟨w.heap.size,1,N⟩) X).trans K.o;go_wp2;clear S;go_loopw [11,55] (λ_ u wr=>∃i:Nat,i<=x.elems.length/\u=I J i/\(∀t,(ht:t<x.elems.length)->t<i->¬base<=x.elems[t].p)/\By M wr) (λ_ u _=>x.elems.length-(intOf u).toNat)
 case atStart=>exact⟨0,Nat.zero_le _,rfl,λt _ h=>O,hb⟩
 obtain⟨i,hi,rfl,g3,hb⟩:=hrel;have G3:=G g3;clear g3;by_cases hlt:i<x.elems.length
 ·obtain⟨b1,o1,rfl,V,a⟩:=(q.o.below hb).at hlt
  obtain⟨Q,c2,c3,c4⟩:=a i hlt;have k:=G (λh=>xU (base:=base) f.o m.o o.o hlt h);have l:=G (λh=>dI (P:=λe=>¬base<=e.p) hlt G3.o h);clear a;generalize x.elems[i].p=p at *;generalize x.elems[i].s=s at *;generalize x.elems[i].t=t at *;generalize x.elems[i].v=v at *;by_cases hz:base<=p
  ·have b:=G (k.o hz)
   clear k l;go_wp2;go_ret;exact⟨aH b.o.symm,j.trans ((hb.alloc hb.size _).mono j.size)⟩
  have b:=G (l.o hz);clear k l;go_wp2;go_roundw
  case rel=>exact⟨i+1,O,oN_,b.o,hb.alloc hb.size _⟩
  exact oI_
 have b:=G (xN (base:=base) f.o m.o o.o (λt ht=>G3.o t ht O));go_wp2;go_ret;exact⟨aH b.o.symm,tb j hb⟩
end
section
open Go.RowKit
theorem qP(A B:Oa)(n m c d:Nat)(xs ys:Li)(w:Wv)(hA:aA w A xs)(hB:aA w B ys)(hn:xs.length=n)(hm:ys.length=m)
  (hn':n<=9223372036854775807) (hm':m<=9223372036854775807) :
  Calls prog 26 #[H A n c,H B m d] w λe w'=>e=.returned (I J (aE xs ys))/\Qt w w':=by
 subst hn hm;go_enter func26,ntmps26;go_wp2;go_loopw [5] (λi wr=>∃k:Nat,k<=xs.length/\k<=ys.length/\i=I J k/\Qt w wr/\aE xs ys=aE (xs.drop k) (ys.drop k)) (λi _=>xs.length-(intOf i).toNat)
 case atStart=>exact⟨0,Nat.zero_le _,Nat.zero_le _,rfl,Qt.refl _,rfl⟩
 obtain⟨k,h,j,rfl,⟨q,rfl⟩,a⟩:=hrel;have f:=G a;clear a;by_cases h1:k<xs.length
 ·by_cases h2:k<ys.length
  ·obtain⟨b,o,rfl,hc⟩:=hA.at h1
   obtain⟨r,s,rfl,g⟩:=hB.at h2;have hx:=hc k h1;have hy:=g k h2;have p:=G (r_ xs ys k h1 h2);clear hc g;generalize xs[k]=x at *;generalize ys[k]=y at *;by_cases hxy:x<y
   ·go_wp2
    go_quiet(fail);go_wp2;go_ret;exact⟨aH (Eq.symm (by rw[f.o,p.o,if_pos hxy])),by repeat(first|exact Qt.refl _|refine Qt.drewN ?_ _)⟩
   by_cases hyx:y<x
   ·go_wp2
    go_quiet(fail);go_wp2;go_quiet(fail);go_wp2;go_ret;exact⟨aH (Eq.symm (by rw[f.o,p.o,if_neg (show¬x<y by omega),if_pos hyx])),by repeat(first|exact Qt.refl _|refine Qt.drewN ?_ _)⟩
   go_wp2;go_quiet(fail);go_wp2;go_quiet(fail);go_wp2;go_roundw
   case rel=>exact⟨k+1,O,O,oN_,by repeat(first|exact Qt.refl _|refine Qt.drewN ?_ _),by rw[f.o,p.o,if_neg (show¬x<y by omega),if_neg (show¬y<x by omega)]⟩
   exact oI_
  have l:=G (sD xs ys k O h j);have hl:ys.length<xs.length:=O;go_wp2;go_ret;exact⟨aH (Eq.symm (by rw[f.o,l.o,if_neg O,if_pos hl])),by repeat(first|exact Qt.refl _|refine Qt.drewN ?_ _)⟩
 have l:=G (sD xs ys k O h j);by_cases h2:k<ys.length
 ·go_wp2
  go_ret;exact⟨aH (Eq.symm (by rw[f.o,l.o,if_pos O])),by repeat(first|exact Qt.refl _|refine Qt.drewN ?_ _)⟩
 go_wp2;go_ret;exact⟨aH (Eq.symm (by rw[f.o,l.o,if_neg O,if_neg O])),by repeat(first|exact Qt.refl _|refine Qt.drewN ?_ _)⟩
theorem GK(A B:Oa)(n m c d:Nat)(xs ys:Li)(w:Wv)(hA:aA w A xs)(hB:aA w B ys)(hn:xs.length=n)(hm:ys.length=m)
  (hn':n<=9223372036854775807) (hm':m<=9223372036854775807) :
  Calls prog 80 #[H A n c,H B m d] w λe w'=>e=.returned (.bool (decide (xs=ys)))/\Qt w w':=by
 have hd:decide (xs=ys)=(aE xs ys==0):=by
  rw[Bool.eq_iff_iff];simp[mP]
 rw[hd];clear hd;have a:=G (qP A B n m c d xs ys w hA hB hn hm hn' hm');clear hA hB hn hm;go_enter func80,ntmps80;go_wp2_with(go_at_call 26;refine a.o.mono ?_;rintro e w' ⟨rfl,q,rfl⟩);go_ret;exact⟨rfl,by repeat(first|exact Qt.refl _|refine Qt.drewN ?_ _)⟩
end
section
open Go.RowKit Go.Maps Go.WideMaps
def jH(es:List Ent):Nat->Option Ent
 |0=>N
 |j+1=>es[j]?
def eC(base:Int)(es:List Ent)(i:Nat):Int:=
 match es[i]? with
 |none=>0
 |some x=>if cA base x≠0 then cA base x else match jH es i with
  |none=>0
  |some y=>if 0<=aE y.codes x.codes then 4 else 0
theorem xY(base:Int)(es:List Ent)(i:Nat)(hi:i<es.length):
  eD base (es.drop i) (jH es i)=if eC base es i≠0 then eC base es i else eD base (es.drop (i+1)) (jH es (i+1)):=by
 rw[List.drop_eq_getElem_cons hi];unfold eC;rw[List.getElem?_eq_getElem hi];have hp:jH es (i+1)=Z es[i]:=List.getElem?_eq_getElem hi;rw[hp];simp only[eD];by_cases h1:cA base es[i]=0
 ·simp only[h1,ne_eq,not_true_eq_false,if_false]
  cases jH es i with
  |none=>simp
  |some y=>
   simp only;by_cases h2:0<=aE y.codes es[i].codes
   ·simp[h2]
   simp[h2]
 simp[h1]
theorem xV(base:Int)(es:List Ent)(i:Nat)(hi:es.length<=i):eD base (es.drop i) (jH es i)=0:=by
 rw[List.drop_eq_nil_of_le hi];rfl
section
variable {base:Int}{es:List Ent}{i:Nat}
theorem xR(hi:i<es.length)(h:cA base es[i]≠0):eC base es i=cA base es[i]:=by
 unfold eC;rw[List.getElem?_eq_getElem hi];simp[h]
theorem xQ(hi:0<es.length)(h:cA base es[0]=0):eC base es 0=0:=by
 unfold eC;rw[List.getElem?_eq_getElem hi];simp[h,jH]
theorem xS(hi:i+1<es.length)(h:cA base es[i+1]=0)(h4:0<=aE es[i].codes es[i+1].codes):eC base es (i+1)=4:=by
 unfold eC;rw[List.getElem?_eq_getElem hi];simp[h,jH,List.getElem?_eq_getElem (show i<es.length by omega),h4]
theorem xT(hi:i+1<es.length)(h:cA base es[i+1]=0)(h4:¬0<=aE es[i].codes es[i+1].codes):eC base es (i+1)=0:=by
 unfold eC;rw[List.getElem?_eq_getElem hi];simp[h,jH,List.getElem?_eq_getElem (show i<es.length by omega),h4]
end
structure aQ(c:Col):Prop where
 e:∀i,(hi:i<c.ents.length)->c.ents[i].codes.length<=1048576/\c.ents[i].elems.length<=1048576
 n:c.ents.length<=1048576
 m:c.grps.length<=1048576
section
variable {c:Col}
theorem wZ(h:c.base<1\/65502<c.base\/inR 1 65535 c.second=false\/inR 1 65535 c.third=false):aK c=1:=by unfold aK;rw[if_pos h]
theorem xA(h:¬(c.base<1\/65502<c.base\/inR 1 65535 c.second=false\/inR 1 65535 c.third=false))(hg:cC c.base c.grps≠0):aK c=cC c.base c.grps:=by
 unfold aK;rw[if_neg h,if_pos hg]
theorem w_(h:¬(c.base<1\/65502<c.base\/inR 1 65535 c.second=false\/inR 1 65535 c.third=false))(hg:cC c.base c.grps=0):aK c=eD c.base c.ents N:=by
 unfold aK;rw[if_neg h,if_neg (by simpa using hg)]
end
theorem rV(A:Oa)(n a:Nat)(B:Oa)(m b:Nat)(c:Col)(w:Wv)(h:aO w A n B m c)(hz:aQ c):
  Calls prog 23 #[aJ A n a B m b c] w (aU (aK c) w):=by
 have l:By w (w.alloc (.cells #[H A n a,H B m b,I J c.base,I J c.second,I J c.third] 32)):=ba _ _;have X:=G (wZ (c:=c));have HG:=G (xA (c:=c));have HE:=G (w_ (c:=c));have CG:=G (λW(hb:By w W)(h65:c.base<=65502)=>LH A n a B m b c W (h.below hb) h65 (by rw[<-h.hm];exact hz.m));obtain⟨es,gs,base,second,third⟩:=c;dsimp only at *;unfold aJ at *;dsimp only at *;have V:=G P_;have Y:=G h.ents;have af:=h.hn;have P:=G hz;dsimp only at af;subst af;clear h hz;by_cases q1:base<1
 ·have k:=G (X.o (.inl q1))
  go_enter func23,ntmps23;go_wp2;go_ret;exact⟨aH k.o.symm,l⟩
 by_cases q2:65502<base
 ·have k:=G (X.o (.inr (.inl q2)))
  go_enter func23,ntmps23;go_wp2;go_ret;exact⟨aH k.o.symm,l⟩
 cases q3:inR 1 65535 second
 ·have k:=G (X.o (.inr (.inr (.inl q3))))
  go_enter func23,ntmps23;go_wp2_with fail;refine(V.o second _).mono ?_;rw[q3];rintro e w' ⟨rfl,rfl⟩;go_wp2;go_ret;exact⟨aH k.o.symm,l⟩
 cases q4:inR 1 65535 third
 ·have k:=G (X.o (.inr (.inr (.inr q4))))
  go_enter func23,ntmps23;go_wp2_with fail;refine(V.o second _).mono ?_;rw[q3];rintro e w' ⟨rfl,rfl⟩;go_wp2_with fail;refine(V.o third _).mono ?_;rw[q4];rintro e w' ⟨rfl,rfl⟩;go_wp2;go_ret;exact⟨aH k.o.symm,l⟩
 have T:¬(base<1\/65502<base\/inR 1 65535 second=false\/inR 1 65535 third=false):=by rw[q3,q4];simp;omega
 have M:=G (HG.o T);have F:=G (HE.o T);clear HG HE X T;go_enter func23,ntmps23;go_wp2_with fail;refine(V.o second _).mono ?_;rw[q3];rintro e w' ⟨rfl,rfl⟩;go_wp2_with fail;refine(V.o third _).mono ?_;rw[q4];rintro e w' ⟨rfl,rfl⟩;go_wp2_with fail;have s0:(w.alloc (.cells #[H A es.length a,H B m b,I J base,I J second,I J third] 32)).heap.size=w.heap.size+1:=L;have k0:(w.alloc (.cells #[H A es.length a,H B m b,I J base,I J second,I J third] 32)).cell? ⟨w.heap.size,0,N⟩=Z (H A es.length a):=L;have k2:(w.alloc (.cells #[H A es.length a,H B m b,I J base,I J second,I J third] 32)).cell? ⟨w.heap.size,2,N⟩=Z (I J base):=L;obtain⟨W0,ab⟩:=exQ (w.alloc (.cells #[H A es.length a,H B m b,I J base,I J second,I J third] 32));rw[ab]at l s0 k0 k2|-;clear ab;have aa:=G (Y.o.below l);have K:=G (And.intro k0 k2);have y:w.heap.size<W0.heap.size:=O;clear Y k0 k2 s0 q3 q4 V;refine(CG.o W0 l O).mono ?_;rintro e W1 ⟨rfl,v⟩;clear CG;by_cases hgz:cC base gs=0
 ·have g1:(cC base gs !=0)=false:=by simpa using hgz
  have k:=G (F.o hgz);clear hgz M F;generalize cC base gs=ge at *;generalize aK ⟨es,gs,base,second,third⟩=R at *;have f0:=(v.cell (p:=⟨w.heap.size,0,N⟩) y).trans K.o.1;go_wp2_with fail;clear f0;go_loopw [4,5,6,35] (λ_ _ _ u wr=>∃i:Nat,i<=es.length/\u=I J i/\eD base es N=eD base (es.drop i) (jH es i)/\By W0 wr) (λ_ _ _ u _=>es.length-(intOf u).toNat)
  case atStart=>exact⟨0,Nat.zero_le _,rfl,rfl,v⟩
  obtain⟨i,hi,rfl,ae,hb⟩:=hrel;have o:=G ae;clear ae v;by_cases hlt:i<es.length
  ·obtain⟨b1,o1,rfl,bh,f⟩:=(aa.o.below hb).at hlt
   obtain⟨C,cc,E,d,c1,c2,hC,hE⟩:=f i hlt;obtain⟨z1,z2⟩:=P.o.e i hlt;dsimp only at z1 z2;have f2:=(hb.cell (p:=⟨w.heap.size,2,N⟩) y).trans K.o.2;have f0:=(hb.cell (p:=⟨w.heap.size,0,N⟩) y).trans K.o.1;have bk:w.heap.size<wr.heap.size:=by have:=hb.size;omega
   have bi:es.length<=1048576:=P.o.n;have ST:=G (xY base es i hlt);have E1:=G (λh=>xR (base:=base) hlt h)
   have t:=U (0<i->∃D dd,wr.cell? ⟨b1,o1+(i-1)*2,N⟩=Z (H D (es[i-1]' O).codes.length dd)/\aA wr D (es[i-1]' O).codes/\(es[i-1]' O).codes.length<=1048576/\(cA base es[i]=0->(0<=aE (es[i-1]' O).codes es[i].codes->eC base es i=4)/\(¬0<=aE (es[i-1]' O).codes es[i].codes->eC base es i=0))) (λhp=>by
    obtain⟨j,rfl⟩:∃j,i=j+1:=⟨i-1,O⟩
    obtain⟨D,dd,_,_,e1,_,e3,_⟩:=f j O
    exact⟨D,dd,e1,e3,(P.o.e j (show j<es.length by omega)).1,λhz=>⟨λh=>xS hlt hz h,λh=>xT hlt hz h⟩⟩)
   have s:=G (show¬0<i->cA base es[i]=0->eC base es i=0 from λhp hz=>by
    obtain rfl:i=0:=O
    exact xQ hlt hz)
   have CE:=G (λW(hb':By wr W)=>LA C cc E d es[i] base W (hC.below hb') (hE.below hb') z1 z2);clear f hE;generalize cA base es[i]=ev at *;generalize es[i].elems=els at *;generalize es[i].codes=cds at *;generalize eC base es i=ei at *;have ad:By wr (wr.alloc (.cells #[H C cds.length cc,H E els.length d] 75)):=ba _ _;have m0:(wr.alloc (.cells #[H C cds.length cc,H E els.length d] 75)).cell? ⟨wr.heap.size,0,N⟩=Z (H C cds.length cc):=L;have r:=G (And.intro ad m0);clear ad m0;go_wp2_with fail;refine(CE.o _ r.o.1).mono ?_;rintro e w3 ⟨rfl,S⟩;have x:=r.o.1.trans (S.mono L);have q:=tb hb x;have m1:=(S.cell (p:=⟨wr.heap.size,0,N⟩) L).trans r.o.2;have be:=(q.cell (p:=⟨w.heap.size,0,N⟩) y).trans K.o.1;clear r S CE c1 c2 f0 f2;by_cases hev:ev=0
   ·have e1:(ev !=0)=false:=by simpa using hev
    by_cases hp:0<i
    ·obtain⟨D,dd,d1,hD,z3,z⟩:=t.o hp
     have g:=G (z hev);have bc:=(x.cell (p:=⟨b1,o1+(i-1)*2,N⟩) (World.block_lt_of_cell? wr _ d1)).trans d1;have CC:=G (λn=>xD D C _ _ dd cc _ cds (w3.drewN n) (Sl.drewN (hD.below x) n) (Sl.drewN (hC.below x) n) rfl rfl O O);clear z hev E1 t s hD d1;generalize (es[i-1]' O).codes=pcs at *;generalize aE pcs cds=cv at *;have i1:(0:Int)<=(i:Int)-1:=O;have i2:(i:Int)-1<(es.length:Int):=O;have i3:((i:Int)-1).toNat=i-1:=O;have w1:IntKind.i64.wrap ((i:Int)-1)=(i:Int)-1:=IntWalk.i64_in _ O;by_cases hcv:0<=cv
     ·have q9:decide (0<=cv)=true:=by simpa using hcv
      have Q:=G (g.o.1 O);clear hcv g;go_wp2;go_quiet((go_at_call 70;exact oF (CC.o _)));clear i3 w1;go_wp2;go_ret;exact⟨aH (by rw[k.o,o.o,ST.o,Q.o];rfl),l.trans ((bU q _).mono l.size)⟩
     have q9:decide (0<=cv)=false:=by simpa using hcv
     have Q:=G (g.o.2 O);clear hcv g;go_wp2;go_quiet((go_at_call 70;exact oF (CC.o _)));clear i3 w1;go_wp2;go_roundw
     case rel=>exact⟨i+1,O,oN_,by rw[o.o,ST.o,Q.o];rfl,bU q _⟩
     exact oI_
    have bj:decide ((0:Int)<(i:Int))=false:=oU_;have Q:=G (s.o hp hev);clear hev E1 t s;go_wp2;go_quiet(fail);go_wp2;go_roundw
    case rel=>exact⟨i+1,O,oN_,by rw[o.o,ST.o,Q.o];rfl,bU q _⟩
    exact oI_
   have e1:(ev !=0)=true:=by simpa using hev
   have Q:=G (E1.o hev);have HZ:=G hev;clear hev E1 t s;go_wp2;go_ret;exact⟨aH (by rw[k.o,o.o,ST.o,Q.o,if_pos HZ.o]),tb l q⟩
  have HF:=G (xV base es i O);go_wp2;go_ret;exact⟨aH (by rw[k.o,o.o,HF.o]),tb l hb⟩
 have g1:(cC base gs !=0)=true:=by simpa using hgz
 have k:=G (M.o hgz);clear hgz M F;generalize cC base gs=ge at *;go_wp2;go_ret;exact⟨aH k.o.symm,tb l v⟩
end
namespace Tl
open Go.RowKit
structure Tlr where
 anc:Li
 cds:Li
 lvl:Int
 bef:Bool
def kndT(t:Tlr):Bool:=decide (0<=t.lvl)&&decide (t.lvl<=3)&&(decide (0<t.lvl)||!t.bef)
def rngT(zs:Li):Bool:=!zs.isEmpty&&zs.all (λc=>decide (0<=c)&&decide (c<=1114111))
end Tl
namespace Tl
open Go.RowKit
def wt(k:Int)(e:Elt):Int:=if k=1 then e.p else if k=2 then e.s else e.t
def setW(k:Int)(e:Elt)(x:Int):Elt:=if k=1 then⟨x,e.s,e.t,e.v⟩else if k=2 then⟨e.p,x,e.t,e.v⟩else if k=3 then⟨e.p,e.s,x,e.v⟩else e
def mvd(l x:Int):Int:=if l<=x then x+1 else x
def rsE(k l:Int)(e:Elt):Elt:=setW k e (mvd l (wt k e))
def rsEnt(k l:Int)(x:Ent):Ent:=⟨x.codes,x.elems.map (rsE k l)⟩
def rsG(k w:Int)(g:Grp):Grp:=if k=1 then⟨g.name,mvd (w+1) g.lo,mvd w g.hi⟩else g
def roomC(k w l:Int)(c:Col):Col:=⟨c.ents.map (rsEnt k l),c.grps.map (rsG k w),if k=1 then mvd l c.base else c.base,if k=2 then mvd l c.second else c.second,if k=3 then mvd l c.third else c.third⟩
def putE(es:List Ent)(x:Ent):List Ent:=es.filter (λy=>decide (aE y.codes x.codes<0))++x::es.filter (λy=>decide (0<aE y.codes x.codes))
def lstK(k:Int)(es:List Elt):Nat->Nat
 |0=>0
 |n+1=>if wt k (es.getD n ⟨0,0,0,false⟩)≠0 then n+1 else lstK k es n
def lst(w:Int)(b:Bool):Int:=if b=true then w else w+1
def newE(k l:Int)(c:Col)(e:Elt):Elt:=if k=1 then⟨l,c.second,c.third,e.v⟩else if k=2 then⟨e.p,l,c.third,e.v⟩else⟨e.p,e.s,l,e.v⟩
def bigE(e:Elt):Bool:=decide (65535<e.p)||decide (65535<e.s)||decide (65535<e.t)
def overC(c:Col):Bool:=c.ents.any (λx=>x.elems.any bigE)||(decide (65502<c.base)||decide (65535<c.second)||decide (65535<c.third))
def atE(k:Int)(es:List Elt):Elt:=es.getD (lstK k es es.length-1) ⟨0,0,0,false⟩
def atW(k:Int)(es:List Elt):Int:=wt k (atE k es)
def roomT(t:Tlr)(es:List Elt)(c:Col):Col:=roomC t.lvl (atW t.lvl es) (lst (atW t.lvl es) t.bef) c
def newL(t:Tlr)(es:List Elt)(c:Col):List Elt:=(es.take (lstK t.lvl es es.length-1)).map (rsE t.lvl (lst (atW t.lvl es) t.bef))++[newE t.lvl (lst (atW t.lvl es) t.bef) (roomT t es c) (atE t.lvl es)]
def col0:Col:=⟨[],[],0,0,0⟩
def stepB(d:Li)(kn:Bool)(es:List Elt)(c:Col)(t:Tlr):Int×Col:=
 if 8<d.length then(2,col0)
 else if kn=false\/(0<t.lvl/\lstK t.lvl es es.length=0)then(7,col0)
 else if t.lvl=0 then(if 16<es.length then(2,col0)else(0,{ c with ents:=putE c.ents ⟨d,es⟩ }))
 else if 16<lstK t.lvl es es.length then(2,col0)
 else if overC (roomT t es c)=true\/(newL t es c).any bigE=true then(13,col0)
 else(0,{ roomT t es c with ents:=putE (roomT t es c).ents ⟨d,newL t es c⟩ })
theorem mvd_nn{l x:Int}(h:0<=x):0<=mvd l x/\x<=mvd l x/\mvd l x<=x+1:=by unfold mvd;split<;>omega
theorem mvd_zero{l x:Int}(hl:1<=l):mvd l x=0 ↔ x=0\/(x=-1/\l<=-1):=by unfold mvd;split<;>omega
theorem mvd_lt{l x y:Int}:mvd l x<mvd l y ↔ x<y:=by unfold mvd;split<;>split<;>omega
theorem mvd_z{l:Int}(hl:1<=l):mvd l 0=0:=by unfold mvd;rw[if_neg O]
theorem mvd_pos{l x:Int}(h:1<=x):1<=mvd l x:=by unfold mvd;split<;>omega
theorem rsE_0{k l:Int}(h:¬(k=1\/k=2\/k=3))(e:Elt):rsE k l e=e:=by
 unfold rsE setW;rw[if_neg (λg=>h (.inl g)),if_neg (λg=>h (.inr (.inl g))),if_neg (λg=>h (.inr (.inr g)))]
theorem rsE_p(k l:Int)(e:Elt):(rsE k l e).p=if k=1 then mvd l e.p else e.p:=by
 unfold rsE setW wt;by_cases h1:k=1
 ·simp[h1]
 by_cases h2:k=2
 ·simp[h2]
 by_cases h3:k=3
 ·simp[h3]
 simp[h1,h2,h3]
theorem rsE_s(k l:Int)(e:Elt):(rsE k l e).s=if k=2 then mvd l e.s else e.s:=by
 unfold rsE setW wt;by_cases h1:k=1
 ·simp[h1]
 by_cases h2:k=2
 ·simp[h2]
 by_cases h3:k=3
 ·simp[h3]
 simp[h1,h2,h3]
theorem rsE_t(k l:Int)(e:Elt):(rsE k l e).t=if k=3 then mvd l e.t else e.t:=by
 unfold rsE setW wt;by_cases h1:k=1
 ·simp[h1]
 by_cases h2:k=2
 ·simp[h2]
 by_cases h3:k=3
 ·simp[h3]
 simp[h1,h2,h3]
theorem rsE_v(k l:Int)(e:Elt):(rsE k l e).v=e.v:=by
 unfold rsE setW wt;by_cases h1:k=1
 ·simp[h1]
 by_cases h2:k=2
 ·simp[h2]
 by_cases h3:k=3
 ·simp[h3]
 simp[h1,h2,h3]
structure EOk(e:Elt):Prop where
 p0:0<=e.p
 p1:e.p<=65535
 s0:0<=e.s
 s1:e.s<=65535
 t0:0<=e.t
 t1:e.t<=65535
 ps:e.p≠0->e.s≠0
 st:e.s≠0->e.t≠0
 vp:e.v=true->e.p≠0
theorem eok_iff(e:Elt):dP e=0 ↔ EOk e:=by
 unfold dP;constructor
 ·intro h
  split at h
  ·cases h
  next h1=>
  split at h
  ·cases h
  next h2=>
  refine⟨O,O,O,O,O,O,λg=>?_,λg=>?_,λg=>?_⟩
  ·intro b;exact h2 (.inl ⟨g,.inl b⟩)
  ·intro b;exact h2 (.inr (.inl ⟨g,b⟩))
  intro b;exact h2 (.inr (.inr ⟨g,b⟩))
 intro h;have:=h.p0;have:=h.p1;have:=h.s0;have:=h.s1;have:=h.t0;have:=h.t1;rw[if_neg O,if_neg];rintro(⟨g,a|a⟩|⟨g,a⟩|⟨g,a⟩)
 ·exact h.ps g a
 ·exact h.st (h.ps g) a
 ·exact h.st g a
 exact h.vp g a
theorem bigE_false{e:Elt}(h:bigE e=false):e.p<=65535/\e.s<=65535/\e.t<=65535:=by
 unfold bigE at h;simp at h;omega
theorem rsE_ok{k l:Int}(hl:1<=l){e:Elt}(h:EOk e)(hb:bigE (rsE k l e)=false):EOk (rsE k l e):=by
 obtain⟨c,d,f⟩:=bigE_false hb;have hp:=h.p0;have hs:=h.s0;have ht:=h.t0;have a:(rsE k l e).p=0 ↔ e.p=0:=by rw[rsE_p];split;(rw[mvd_zero hl];omega);exact Iff.rfl
 have b:(rsE k l e).s=0 ↔ e.s=0:=by rw[rsE_s];split;(rw[mvd_zero hl];omega);exact Iff.rfl
 have i:(rsE k l e).t=0 ↔ e.t=0:=by rw[rsE_t];split;(rw[mvd_zero hl];omega);exact Iff.rfl
 refine⟨?_,c,?_,d,?_,f,λg=>?_,λg=>?_,λg=>?_⟩
 ·rw[rsE_p];split;exact(mvd_nn hp).1;exact hp
 ·rw[rsE_s];split;exact(mvd_nn hs).1;exact hs
 ·rw[rsE_t];split;exact(mvd_nn ht).1;exact ht
 ·rw[Ne,b];exact h.ps (by rw[Ne,a]at g;exact g)
 ·rw[Ne,i];exact h.st (by rw[Ne,b]at g;exact g)
 rw[rsE_v]at g;rw[Ne,a];exact h.vp g
theorem lstK_le(k:Int)(es:List Elt):∀n,lstK k es n<=n
 |0=>Nat.le_refl _
 |n+1=>by unfold lstK;split;exact Nat.le_refl _;exact Nat.le_succ_of_le (lstK_le k es n)
theorem lstK_at{k:Int}{es:List Elt}:∀{n},0<lstK k es n->wt k (es.getD (lstK k es n-1) ⟨0,0,0,false⟩)≠0
 |0,h=>by simp[lstK]at h
 |n+1,h=>by
  unfold lstK at h|-;split
  ·next h1=>exact h1
  next h1=>rw[if_neg h1]at h;exact lstK_at h
end Tl
section
open Go.RowKit
section
variable {P:Program}{ops:Array Oper}{Q:Exit->Act->Wv->Prop}{md:Region.Mode}{S:Wv->Prop}
theorem dJ{i:Nat}{oi:Oper}{fuel:Nat}{listed:Array Bool}{a:Act}{w w':Wv}(d:Option Tmp)(hi:ops[i]?=Z oi)(hd:oi.dst=d)
  (hr:Region.ready md ops listed=[i]) (hw:Region.wanted oi (yielded ops a.tmps)=true) (he:(execOp a.eval oi).run P w=.ok .skip w') (hS:S w')
  (h:wpAnyH P md ops Q S fuel (listed.setIfInBounds i true) (a.put d undef) w'):wpAnyH P md ops Q S (fuel+1) listed a w:=by
 subst hd;refine nO hi hr hw (λK hK=>?_);unfold Oper.wp;rw[he];simp only[Oper.upon];exact hK.out _ _ hS (λ_=>h)
theorem gM{i:Nat}{oi:Oper}{fuel:Nat}{listed:Array Bool}{a:Act}{w:Wv}(d:Option Tmp)(hi:ops[i]?=Z oi)(hd:oi.dst=d)
  (hr:Region.ready md ops listed=[i]) (hw:Region.wanted oi (yielded ops a.tmps)=true) (s x:Operand) (t e:TypeId) (z:Value) (size bytes:Nat)
  (ho:oi.op=.call { callee:=.builtin .append,args:=#[s,x],argTypes:=#[t,t] }) (ht:P.underlying t=Z (.slice e))
  (hinfo:(P.info? e).map (λi=>(i.zero,i.size,i.bytes))=Z (Z z,size,bytes)) (hzs:z.cells.size=size) (hsz:0<size) (hby:0<bytes)
  {base:Nat} {A:Oa} {n c:Nat} {xs:Lv} (hs:a.eval s=H A n c) (hown:w.ownsRow base e size (H A n c) n xs)
  {A':Oa} {m c':Nat} {news:Lv} (hx:a.eval x=H A' m c') (hrow:Sl w A' news) (hl:news.length=m*size) (h1:∀u∈news,u.oneCell'=true)
  (hlim:(n+m)*bytes<=140737488355328) (hbase:base<=w.heap.size)
  (h:∀B k w',w'.ownsRow base e size (H B (n+m) k) (n+m) (xs++news)->n+m<=k->Below base w w'->w.grownBy w' (Value.ownBlock (H A n c))->(B=A\/B=Z ⟨w.heap.size,0,N⟩)->
   S w'/\wpAnyH P md ops Q S fuel (listed.setIfInBounds i true) (a.put d (H B (n+m) k)) w'):wpAnyH P md ops Q S (fuel+1) listed a w:=by
 subst hd
 refine nO hi hr hw (λK hK=>?_)
 obtain⟨B,k,w',b,f,g,j,l,o⟩:=qB (P:=P) t oi.type e z size bytes ht hinfo hzs hsz hby hown (c':=c') hrow hl h1 hlim hbase
 unfold Oper.wp execOp
 simp only[ho,resolve,invoke,builtin,Sem.run_bind,Sem.run_pure,Result.andThen_ok,List.map_toArray,List.map_cons,List.map_nil,hs,hx,b]
 have:=h B k w' f g j l o
 exact hK.out _ _ this.1 (λ_=>this.2)
end
section
variable {P:Program}{w:Wv}
end
end
section
open Go.RowKit Go.Maps Go.WideMaps Tl
theorem QW(A:Oa)(na ca:Nat)(B:Oa)(nb cb:Nat)(t:Tlr)(w:Wv):
  Calls prog 74 #[.agg #[H A na ca,H B nb cb,I J t.lvl,.bool t.bef]] w (aU (if kndT t=true then 0 else 8) w):=by
 obtain⟨an,cd,lvl,bef⟩:=t;have f:=U (kndT ⟨an,cd,lvl,bef⟩=(decide (0<=lvl)&&decide (lvl<=3)&&(decide (0<lvl)||!bef))) rfl;have e:By w (w.alloc (.cells #[H A na ca,H B nb cb,I J lvl,.bool bef] 35)):=ba _ _;obtain⟨r,hr⟩:∃r:Int,(if kndT ⟨an,cd,lvl,bef⟩=true then 0 else 8)=r:=⟨_,rfl⟩;have d:=U (∀b,(decide (0<=lvl)&&decide (lvl<=3)&&(decide (0<lvl)||!bef))=b->r=if b=true then 0 else 8) (λb hb=>by rw[<-hr,f.o,hb]);rw[hr];clear hr f;dsimp only;by_cases h1:lvl<0
 ·have g:decide (lvl<0)=true:=by simpa using h1
  have c:=U (r=8) (d.o false (by rw[decide_eq_false (by omega:¬0<=lvl)];rfl));clear d;go_enter func74,ntmps74;go_wp2;go_ret;rw[c.o];exact⟨rfl,e⟩
 have g:decide (lvl<0)=false:=by simpa using h1
 by_cases h2:3<lvl
 ·have h:decide (3<lvl)=true:=by simpa using h2
  have c:=U (r=8) (d.o false (by rw[decide_eq_false (by omega:¬lvl<=3),Bool.and_false];rfl));clear d;go_enter func74,ntmps74;go_wp2;go_ret;rw[c.o];exact⟨rfl,e⟩
 have h:decide (3<lvl)=false:=by simpa using h2
 have a:=U (∀b,(decide (0<lvl)||!bef)=b->r=if b=true then 0 else 8) (λb hb=>d.o b (by rw[decide_eq_true (by omega:0<=lvl),decide_eq_true (by omega:lvl<=3)];exact hb));clear d;cases bef with
 |false=>
  have c:=U (r=0) (a.o true L);clear a;go_enter func74,ntmps74;go_wp2;go_ret;rw[c.o];exact⟨rfl,e⟩
 |true=>
  by_cases h3:lvl=0
  ·have i:(lvl==0)=true:=by simpa using h3
   have c:=U (r=8) (a.o false (by rw[decide_eq_false (by omega:¬0<lvl)];rfl));clear a h3;go_enter func74,ntmps74;go_wp2;go_ret;rw[c.o];exact⟨rfl,e⟩
  have i:(lvl==0)=false:=by simpa using h3
  have c:=U (r=0) (a.o true (by rw[decide_eq_true (by omega:0<lvl)];rfl));clear a;go_enter func74,ntmps74;go_wp2;go_ret;rw[c.o];exact⟨rfl,e⟩
theorem zAx(e:Elt)(k:Int)(hk:k=1\/k=2\/k=3)(w:Wv):
  Calls prog 39 #[.agg #[I J e.p,I J e.s,I J e.t,.bool e.v],I J k] w (aU (wt k e) w):=by
 obtain⟨p,s,t,v⟩:=e;have b:=λW=>(mX (I J p) (I J s) (I J t) W).1
 have c:=λW=>(mX (I J p) (I J s) (I J t) W).2.1
 have d:=λW=>(mX (I J p) (I J s) (I J t) W).2.2
 have a:=G ((Below.refl w.heap.size w).alloc (Nat.le_refl _) (.cells #[I J p,I J s,I J t,.bool v] 77));dsimp only;rcases hk with rfl|rfl|rfl
 ·go_enter func39,ntmps39
  go_wp2;go_ret;exact⟨rfl,a.o⟩
 ·go_enter func39,ntmps39
  go_wp2;go_ret;exact⟨rfl,a.o⟩
 go_enter func39,ntmps39;go_wp2;go_ret;exact⟨rfl,a.o⟩
theorem nC(z:Int)(b:Bool)(x:Int)(w:Wv)(hx:0<=x/\x<=1000000):Calls prog 92 #[.agg #[I J z,.bool b],I J x] w (aU (mvd (lst z b) x) w):=by
 have a:=G ((Below.refl w.heap.size w).alloc (Nat.le_refl _) (.cells #[I J z,.bool b] 85));obtain⟨g,h⟩:=hx;obtain⟨r,hr⟩:=exQ (mvd (lst z b) x);have c:=U (r=if lst z b<=x then x+1 else x) hr.symm;rw[hr];clear hr;by_cases h1:z<x
 ·have e:decide (z<x)=true:=by simpa using h1
  have d:=U (r=x+1) (by rw[c.o,if_pos (by unfold lst;split<;>omega)]);clear c;go_enter func92,ntmps92;go_wp2;go_ret;rw[d.o];exact⟨rfl,a.o⟩
 have e:decide (z<x)=false:=by simpa using h1
 cases b with
 |false=>
  have d:=U (r=x) (by rw[c.o,if_neg (by unfold lst;rw[if_neg V];omega)]);clear c;go_enter func92,ntmps92;go_wp2;go_ret;rw[d.o];exact⟨rfl,a.o⟩
 |true=>
  by_cases h2:x=z
  ·have f:(x==z)=true:=by simpa using h2
   have d:=U (r=x+1) (by rw[c.o,if_pos (by unfold lst;rw[if_pos rfl];omega)]);clear c h2;go_enter func92,ntmps92;go_wp2;go_ret;rw[d.o];exact⟨rfl,a.o⟩
  have f:(x==z)=false:=by simpa using h2
  have d:=U (r=x) (by rw[c.o,if_neg (by unfold lst;rw[if_pos rfl];omega)]);clear c;go_enter func92,ntmps92;go_wp2;go_ret;rw[d.o];exact⟨rfl,a.o⟩
theorem uA(z:Int)(b:Bool)(w:Wv)(hx:0<=z/\z<=1000000):Calls prog 95 #[.agg #[I J z,.bool b]] w (aU (lst z b) w):=by
 have a:=G ((Below.refl w.heap.size w).alloc (Nat.le_refl _) (.cells #[I J z,.bool b] 85));obtain⟨c,d⟩:=hx;cases b with
 |false=>
  go_enter func95,ntmps95;go_wp2;go_ret;exact⟨rfl,a.o⟩
 |true=>
  go_enter func95,ntmps95;go_wp2;go_ret;exact⟨rfl,a.o⟩
theorem VK(z:Int)(b:Bool)(d o:Nat)(x:Int)(w:Wv)(hx:0<=x/\x<=1000000)(hc:w.cell? ⟨d,o,N⟩=Z (I J x))(hf:w.frozen? ⟨d,o,N⟩=false):
  Calls prog 91 #[.agg #[I J z,.bool b],.pointer (Z ⟨d,o,N⟩)] w λe w'=>e=.returned (.tuple #[])/\∃w1,By w w1/\w'=w1.setCell ⟨d,o,N⟩ (I J (mvd (lst z b) x)):=by
 have hd:d<w.heap.size:=World.block_lt_of_cell? w ⟨d,o,N⟩ hc;have c:By w (w.alloc (.cells #[I J z,.bool b] 85)):=ba _ _;have k:Box (w.alloc (.cells #[I J z,.bool b] 85)) w.heap.size 85 [I J z,.bool b]:=Box.new _ _ _ rfl;have l:∃g,(w.alloc (.cells #[I J z,.bool b] 85))=g:=⟨_,rfl⟩;have j:=G (λW=>nC z b x W hx);unfold aU at j;obtain⟨y,hy⟩:=exQ (mvd (lst z b) x);rw[hy]at j|-;clear hy hx;go_enter func91,ntmps91;go_upto_region 1 with(fail)
 obtain⟨g,h⟩:=l;try rw[h]at c k|-
 clear h;obtain⟨r,s⟩:=k.k2;have A:=k.lt;have n:=(c.cell (p:=⟨d,o,N⟩) hd).trans hc;have q:=(c.frozen (p:=⟨d,o,N⟩) hd).trans hf;have i:d<g.heap.size:=by have:=c.size;omega
 have f:=G (λW=>j.o W);clear hc hf k j;go_region_with (go_at_call 92;refine(f.o _).mono ?_;rintro e B ⟨rfl,a⟩;have t:=(a.cell (p:=⟨d,o,N⟩) i).trans n;have v:=(a.frozen (p:=⟨d,o,N⟩) i).trans q)
 all_goals(
  have m:=c.trans (((show By g g.drew from(Below.refl _ _).drew).trans a).mono c.size)
  clear a t v r s n q f
  go_wp2
  go_end0
  exact⟨rfl,_,m,rfl⟩)
theorem YL(z:Int)(b:Bool)(d o:Nat)(x:Int)(w:Wv)(hx:0<=x/\x<=1000000)(hc:w.cell? ⟨d,o+1,N⟩=Z (I J x))(hf:w.frozen? ⟨d,o+1,N⟩=false):
  Calls prog 93 #[.agg #[I J z,.bool b],.pointer (Z ⟨d,o,N⟩)] w λe w'=>e=.returned (.tuple #[])/\∃w1,By w w1/\w'=w1.setCell ⟨d,o+1,N⟩ (I J (mvd (lst z b) x)):=by
 have hd:d<w.heap.size:=World.block_lt_of_cell? w ⟨d,o+1,N⟩ hc;have c:By w (w.alloc (.cells #[I J z,.bool b] 85)):=ba _ _;have k:Box (w.alloc (.cells #[I J z,.bool b] 85)) w.heap.size 85 [I J z,.bool b]:=Box.new _ _ _ rfl;have l:∃g,(w.alloc (.cells #[I J z,.bool b] 85))=g:=⟨_,rfl⟩;have j:=G (λW=>nC z b x W hx);unfold aU at j;obtain⟨y,hy⟩:=exQ (mvd (lst z b) x);rw[hy]at j|-;clear hy hx;go_enter func93,ntmps93;go_upto_region 1 with(fail)
 obtain⟨g,h⟩:=l;try rw[h]at c k|-
 clear h;obtain⟨r,s⟩:=k.k2;have A:=k.lt;have n:=(c.cell (p:=⟨d,o+1,N⟩) hd).trans hc;have q:=(c.frozen (p:=⟨d,o+1,N⟩) hd).trans hf;have i:d<g.heap.size:=by have:=c.size;omega
 have f:=G (λW=>j.o W);clear hc hf k j;go_region_with (go_at_call 92;refine(f.o _).mono ?_;rintro e B ⟨rfl,a⟩;have t:=(a.cell (p:=⟨d,o+1,N⟩) i).trans n;have v:=(a.frozen (p:=⟨d,o+1,N⟩) i).trans q)
 all_goals(
  have m:=c.trans (((show By g g.drew from(Below.refl _ _).drew).trans a).mono c.size)
  clear a t v r s n q f
  go_wp2
  go_end0
  exact⟨rfl,_,m,rfl⟩)
theorem zAm(z:Int)(b:Bool)(d o:Nat)(x:Int)(w:Wv)(hx:0<=x/\x<=1000000)(hc:w.cell? ⟨d,o+2,N⟩=Z (I J x))(hf:w.frozen? ⟨d,o+2,N⟩=false):
  Calls prog 94 #[.agg #[I J z,.bool b],.pointer (Z ⟨d,o,N⟩)] w λe w'=>e=.returned (.tuple #[])/\∃w1,By w w1/\w'=w1.setCell ⟨d,o+2,N⟩ (I J (mvd (lst z b) x)):=by
 have hd:d<w.heap.size:=World.block_lt_of_cell? w ⟨d,o+2,N⟩ hc;have c:By w (w.alloc (.cells #[I J z,.bool b] 85)):=ba _ _;have k:Box (w.alloc (.cells #[I J z,.bool b] 85)) w.heap.size 85 [I J z,.bool b]:=Box.new _ _ _ rfl;have l:∃g,(w.alloc (.cells #[I J z,.bool b] 85))=g:=⟨_,rfl⟩;have j:=G (λW=>nC z b x W hx);unfold aU at j;obtain⟨y,hy⟩:=exQ (mvd (lst z b) x);rw[hy]at j|-;clear hy hx;go_enter func94,ntmps94;go_upto_region 1 with(fail)
 obtain⟨g,h⟩:=l;try rw[h]at c k|-
 clear h;obtain⟨r,s⟩:=k.k2;have A:=k.lt;have n:=(c.cell (p:=⟨d,o+2,N⟩) hd).trans hc;have q:=(c.frozen (p:=⟨d,o+2,N⟩) hd).trans hf;have i:d<g.heap.size:=by have:=c.size;omega
 have f:=G (λW=>j.o W);clear hc hf k j;go_region_with (go_at_call 92;refine(f.o _).mono ?_;rintro e B ⟨rfl,a⟩;have t:=(a.cell (p:=⟨d,o+2,N⟩) i).trans n;have v:=(a.frozen (p:=⟨d,o+2,N⟩) i).trans q)
 all_goals(
  have m:=c.trans (((show By g g.drew from(Below.refl _ _).drew).trans a).mono c.size)
  clear a t v r s n q f
  go_wp2
  go_end0
  exact⟨rfl,_,m,rfl⟩)
end
section
open Go.RowKit
def Blk(w:Wv)(b:Nat)(e:TypeId)(pre cs post:Lv):Prop:=w.heap[b]?=Z (.cells (pre++cs++post).toArray e (0,0))
def Row(w:Wv)(b off:Nat)(e:TypeId)(pre post:Lv)(d:Li):Prop:=pre.length=off/\Blk w b e pre (d.map (Value.int .i64)) post
section
variable {w w':Wv}{b off:Nat}{e:TypeId}{pre post:Lv}{d:Li}
theorem Blk.lt{cs:Lv}(h:Blk w b e pre cs post):b<w.heap.size:=(Array.getElem?_eq_some_iff.1 h).1
theorem Row.lt(h:Row w b off e pre post d):b<w.heap.size:=Blk.lt h.2
theorem Row.cell(h:Row w b off e pre post d){i:Nat}{x:Int}(hi:d[i]?=Z x):w.cell? ⟨b,off+i,N⟩=Z (I J x):=by
 rw[cell_of_row w b (off+i) _ e (0,0) h.2];have hl:i<d.length:=(List.getElem?_eq_some_iff.1 hi).1;rw[List.getElem?_toArray,List.append_assoc,List.getElem?_append_right (by have:=h.1;omega),List.getElem?_append_left (by simp;have:=h.1;omega),List.getElem?_map];rw[show off+i-pre.length=i by have:=h.1;omega,hi];rfl
theorem Row.frozen(h:Row w b off e pre post d)(i:Nat):w.frozen? ⟨b,i,N⟩=false:=by
 have a:=h.2;unfold Blk at a;simp[World.frozen?,a]
theorem Row.set(h:Row w b off e pre post d){i:Nat}(hi:i<d.length)(v:Int):Row (w.setCell ⟨b,off+i,N⟩ (I J v)) b off e pre post (d.set i v):=by
 refine⟨h.1,?_⟩;have a:=h.2;have c:=h.1;unfold Blk at a|-;simp only[World.setCell,Array.getElem?_modify,a];simp only[if_true,Option.map_some,Option.some.injEq,Obj.cells.injEq,and_true];apply Array.ext';simp only[Option.isSome_none,Bool.false_eq_true,if_false,Array.toList_setIfInBounds,List.map_set];rw[List.append_assoc,List.set_append_right _ _ O,List.set_append_left _ _ oU_,show off+i-pre.length=i by omega,<-List.append_assoc]
theorem Row.keep(h:Row w b off e pre post d)(hb:w'.heap[b]?=w.heap[b]?):Row w' b off e pre post d:=⟨h.1,hb.trans h.2⟩
theorem Row.drewN(h:Row w b off e pre post d)(n:Nat):Row (w.drewN n) b off e pre post d:=h
theorem Row.drew(h:Row w b off e pre post d):Row w.drew b off e pre post d:=h
theorem Row.below(h:Row w b off e pre post d)(hb:By w w'):Row w' b off e pre post d:=h.keep (hb.block b h.lt)
theorem aP(w:Wv)(r:Option Nat):w.grownBy w r:=⟨rfl,rfl,rfl,Nat.le_refl _,λ_ _ _=>rfl⟩
theorem bK{a c:Wv}{r:Option Nat}(h:a.grownBy w r)(g:w.grownBy c r):a.grownBy c r:=
 ⟨g.os.trans h.os,g.tape.trans h.tape,g.output.trans h.output,Nat.le_trans h.size g.size,λk hk hne=>(g.block k (Nat.lt_of_lt_of_le hk h.size) hne).trans (h.block k hk hne)⟩
theorem cT{a:Wv}{r:Option Nat}(h:a.grownBy w r)(g:By w w'):a.grownBy w' r:=
 bK h ⟨g.os,g.tape,g.output,g.size,λk hk _=>g.block k hk⟩
theorem O_{a:Wv}{r:Option Nat}(h:a.grownBy w r)(n:Nat):a.grownBy (w.drewN n) r:=cT h (fW w n)
theorem eP{a:Wv}{r:Option Nat}(h:a.grownBy w r):a.grownBy w.drew r:=cT h (fW w 1)
theorem lI{a:Wv}(h:a.grownBy w (Z b))(i:Nat)(v:Value):a.grownBy (w.setCell ⟨b,i,N⟩ v) (Z b):=
 bK h ⟨rfl,rfl,rfl,by simp[World.setCell],λk _ hne=>Below.heap_setCell _ _ _ _ (by rintro rfl;exact hne rfl)⟩
end
end
section
open Go.RowKit Go.Maps Go.WideMaps Tl
theorem uK{zs:Li}{k:Nat}(hk:k<zs.length)(h:¬(0<=zs[k]/\zs[k]<=1114111)):rngT zs=false:=by
 unfold rngT;rw[Bool.and_eq_false_iff];right;rw[List.all_eq_false];exact⟨zs[k],List.getElem_mem hk,by simpa using h⟩
theorem uL{zs:Li}(h0:0<zs.length)(h:∀k,(hk:k<zs.length)->0<=zs[k]/\zs[k]<=1114111):rngT zs=true:=by
 unfold rngT;rw[Bool.and_eq_true];refine⟨?_,?_⟩
 ·cases zs with
  |nil=>simp at h0
  |cons z r=>rfl
 rw[List.all_eq_true];intro z hz;obtain⟨k,hk,rfl⟩:=List.getElem_of_mem hz;simpa using h k hk
theorem VR(A:Oa)(na ca:Nat)(B:Oa)(nb cb:Nat)(t:Tlr)(w:Wv)(hA:aA w A t.anc)(hB:aA w B t.cds)(hna:t.anc.length=na)(hnb:t.cds.length=nb)(hba:na<=1048576)(hbb:nb<=1048576):
  Calls prog 73 #[.agg #[H A na ca,H B nb cb,I J t.lvl,.bool t.bef]] w (aU (if(rngT t.anc&&rngT t.cds)=true then 0 else 1) w):=by
 subst hna;subst hnb;obtain⟨r,hr⟩:∃r:Int,(if(rngT t.anc&&rngT t.cds)=true then 0 else 1)=r:=⟨_,rfl⟩;have o:=U (∀a b,rngT t.anc=a->rngT t.cds=b->r=if(a&&b)=true then 0 else 1) (λa b ha hb=>by rw[<-hr,ha,hb]);rw[hr];have s:By w ((w.alloc (.cells #[H A t.anc.length ca,H B t.cds.length cb,I J t.lvl,.bool t.bef] 35)).alloc (.cells #[H A t.anc.length ca,H B t.cds.length cb] 33)):=(ba _ _).alloc L _;have X:Box ((w.alloc (.cells #[H A t.anc.length ca,H B t.cds.length cb,I J t.lvl,.bool t.bef] 35)).alloc (.cells #[H A t.anc.length ca,H B t.cds.length cb] 33)) (w.heap.size+1) 33 [H A t.anc.length ca,H B t.cds.length cb]:=Box.new _ _ _ L;have S:∃p,((w.alloc (.cells #[H A t.anc.length ca,H B t.cds.length cb,I J t.lvl,.bool t.bef] 35)).alloc (.cells #[H A t.anc.length ca,H B t.cds.length cb] 33))=p:=⟨_,rfl⟩;have C:=G (λk(hk:k<t.anc.length)h=>uK (zs:=t.anc) hk h);have K:=G (λh0 h=>uL (zs:=t.anc) h0 h);have D:=G (λk(hk:k<t.cds.length)h=>uK (zs:=t.cds) hk h);have M:=G (λh0 h=>uL (zs:=t.cds) h0 h);have E:=G (λ(h:t.anc.length=0)=>show rngT t.anc=false from by rw[List.length_eq_zero_iff.1 h];rfl);have F:=G (λ(h:t.cds.length=0)=>show rngT t.cds=false from by rw[List.length_eq_zero_iff.1 h];rfl);have v:=G (λW(hb:By w W)=>hA.below hb);have x:=G (λW(hb:By w W)=>hB.below hb);generalize rngT t.anc=ra at *;generalize rngT t.cds=rb at *;clear hr hA hB;obtain⟨an,cd,lvl,bef⟩:=t;dsimp only at *;go_enter func73,ntmps73;go_upto_region 2 with(fail)
 obtain⟨p,y⟩:=S;try rw[y]at s X|-
 clear y;have IA:=G (v.o p s);have IB:=G (x.o p s);clear v x;have HX:=G X;have l:=G s;clear X s;go_wp2;go_loop [13] (λu=>∃i:Nat,i<=2/\u=I J i/\(0<i->ra=true)/\(1<i->rb=true)) (λu=>2-(intOf u).toNat)
 case atStart=>exact⟨0,V,rfl,λh=>absurd h V,λh=>absurd h V⟩
 obtain⟨i,hi,rfl,q,P⟩:=hrel;rcases show i=0\/i=1\/i=2 by omega with rfl|rfl|rfl
 ·have cx:=HX.o.c 0 rfl
  have H1:=G q;clear q P;by_cases h0:an.length=0
  ·have n:=U (r=1) (by rw[o.o false rb (E.o h0) rfl];rfl)
   have Y:((an.length:Int)==0)=true:=by rw[h0];rfl
   clear h0 o C K D M E F;go_wp2;go_ret;rw[n.o];exact⟨rfl,l.o⟩
  have Y:((an.length:Int)==0)=false:=by rw[beq_eq_false_iff_ne];omega
  go_wp2;go_loop [22] (λu=>∃k:Nat,k<=an.length/\u=I J k/\Hi (∀j,(hj:j<an.length)->j<k->0<=an[j]/\an[j]<=1114111)) (λu=>an.length-(intOf u).toNat)
  case atStart=>exact⟨0,Nat.zero_le _,rfl,G (λj _ h=>absurd h O)⟩
  obtain⟨k,hk,rfl,c⟩:=hrel;by_cases hlt:k<an.length
  ·obtain⟨b1,o1,rfl,d⟩:=IA.o.at hlt
   have cz:=d k hlt;have f:=G (λh=>C.o k hlt h)
   have g:=G (λ(h:0<=an[k]/\an[k]<=1114111)=>show ∀j,(hj:j<an.length)->j<k+1->0<=an[j]/\an[j]<=1114111 from λj hj hj2=>by
    by_cases e:j<k
    ·exact c.o j hj e
    ·obtain rfl:j=k:=O
     exact h)
   clear d c;generalize an[k]=z at *;by_cases hz:0<=z/\z<=1114111
   ·have R:=G (g.o hz)
    have m:=G (jS z p);have dz:inR 0 1114111 z=true:=f_ hz.1 hz.2;rw[dz]at m;clear hz dz f g;go_wp2_with fail;refine m.o.mono ?_
    rintro e T ⟨rfl,rfl⟩;go_wp2;go_round
    case rel=>exact⟨k+1,O,oN_,R⟩
    exact oI_
   have n:=U (r=1) (by rw[o.o false rb (f.o hz) rfl];rfl);have m:=G (jS z p);have dz:inR 0 1114111 z=false:=lJ.2 O;rw[dz]at m;clear hz dz f g;go_wp2_with fail;refine m.o.mono ?_
   rintro e T ⟨rfl,rfl⟩;go_wp2;go_ret;rw[n.o];exact⟨rfl,l.o⟩
  obtain rfl:k=an.length:=O;have Q:=G (K.o O (λj hj=>c.o j hj hj));clear c;go_wp2;go_round
  case rel=>exact⟨1,V,oN_,λ_=>Q.o,λh=>absurd h V⟩
  simp[intOf]
 ·have cx:=HX.o.c 1 rfl
  have H1:=G q;clear q P;by_cases h0:cd.length=0
  ·have n:=U (r=1) (by rw[o.o ra false rfl (F.o h0)];cases ra<;>rfl)
   have Y:((cd.length:Int)==0)=true:=by rw[h0];rfl
   clear h0 o C K D M E F;go_wp2;go_ret;rw[n.o];exact⟨rfl,l.o⟩
  have Y:((cd.length:Int)==0)=false:=by rw[beq_eq_false_iff_ne];omega
  go_wp2;go_loop [22] (λu=>∃k:Nat,k<=cd.length/\u=I J k/\Hi (∀j,(hj:j<cd.length)->j<k->0<=cd[j]/\cd[j]<=1114111)) (λu=>cd.length-(intOf u).toNat)
  case atStart=>exact⟨0,Nat.zero_le _,rfl,G (λj _ h=>absurd h O)⟩
  obtain⟨k,hk,rfl,c⟩:=hrel;by_cases hlt:k<cd.length
  ·obtain⟨b1,o1,rfl,d⟩:=IB.o.at hlt
   have cz:=d k hlt;have f:=G (λh=>D.o k hlt h)
   have g:=G (λ(h:0<=cd[k]/\cd[k]<=1114111)=>show ∀j,(hj:j<cd.length)->j<k+1->0<=cd[j]/\cd[j]<=1114111 from λj hj hj2=>by
    by_cases e:j<k
    ·exact c.o j hj e
    ·obtain rfl:j=k:=O
     exact h)
   clear d c;generalize cd[k]=z at *;by_cases hz:0<=z/\z<=1114111
   ·have R:=G (g.o hz)
    have m:=G (jS z p);have dz:inR 0 1114111 z=true:=f_ hz.1 hz.2;rw[dz]at m;clear hz dz f g;go_wp2_with fail;refine m.o.mono ?_
    rintro e T ⟨rfl,rfl⟩;go_wp2;go_round
    case rel=>exact⟨k+1,O,oN_,R⟩
    exact oI_
   have n:=U (r=1) (by rw[o.o ra false rfl (f.o hz)];cases ra<;>rfl);have m:=G (jS z p);have dz:inR 0 1114111 z=false:=lJ.2 O;rw[dz]at m;clear hz dz f g;go_wp2_with fail;refine m.o.mono ?_
   rintro e T ⟨rfl,rfl⟩;go_wp2;go_ret;rw[n.o];exact⟨rfl,l.o⟩
  obtain rfl:k=cd.length:=O;have Q:=G (M.o O (λj hj=>c.o j hj hj));clear c;go_wp2;go_round
  case rel=>exact⟨2,V,oN_,λ_=>H1.o V,λ_=>Q.o⟩
  simp[intOf]
 have n:=U (r=0) (by rw[o.o true true (q V) (P V)];rfl);clear q P o C K D M E F;go_wp2;go_ret;rw[n.o];exact⟨rfl,l.o⟩
def kM(x:Nrm)(c:Col)(t:Tlr):Int:=if bW x≠0 then bW x else if aK c≠0 then aK c else if kndT t=true then(if(rngT t.anc&&rngT t.cds)=true then 0 else 1)else 8
theorem KQ(A0:Oa)(n0 k0:Nat)(A1:Oa)(n1 k1:Nat)(A2:Oa)(n2 k2:Nat)(x:Nrm)(C:Oa)(n a:Nat)(B:Oa)(m b:Nat)(c:Col)(P:Oa)(pk:Nat)(Q:Oa)(qk:Nat)(t:Tlr)(w:Wv)(hN:cB w A0 n0 A1 n1 A2 n2 x)(hz:cZ x)(hL:dX w)(hC:aO w C n B m c)(hcz:aQ c)(hP:aA w P t.anc)(hQ:aA w Q t.cds)(hpl:t.anc.length<=1048576)(hql:t.cds.length<=1048576):
  Calls prog 34 #[.agg #[H A0 n0 k0,H A1 n1 k1,H A2 n2 k2],aJ C n a B m b c,.agg #[H P t.anc.length pk,H Q t.cds.length qk,I J t.lvl,.bool t.bef]] w (aU (kM x c t) w):=by
 have B0:By w (((w.alloc (.cells #[H A0 n0 k0,H A1 n1 k1,H A2 n2 k2] 28)).alloc (.cells #[H C n a,H B m b,I J c.base,I J c.second,I J c.third] 32)).alloc (.cells #[H P t.anc.length pk,H Q t.cds.length qk,I J t.lvl,.bool t.bef] 35)):=((ba _ _).alloc L _).alloc oU_ _;have M:Box (((w.alloc (.cells #[H A0 n0 k0,H A1 n1 k1,H A2 n2 k2] 28)).alloc (.cells #[H C n a,H B m b,I J c.base,I J c.second,I J c.third] 32)).alloc (.cells #[H P t.anc.length pk,H Q t.cds.length qk,I J t.lvl,.bool t.bef] 35)) w.heap.size 28 [H A0 n0 k0,H A1 n1 k1,H A2 n2 k2]:=((Box.new w 28 [H A0 n0 k0,H A1 n1 k1,H A2 n2 k2] rfl).below (ba _ _) L).below (ba _ _) oU_;have V:Box (((w.alloc (.cells #[H A0 n0 k0,H A1 n1 k1,H A2 n2 k2] 28)).alloc (.cells #[H C n a,H B m b,I J c.base,I J c.second,I J c.third] 32)).alloc (.cells #[H P t.anc.length pk,H Q t.cds.length qk,I J t.lvl,.bool t.bef] 35)) (w.heap.size+1) 32 [H C n a,H B m b,I J c.base,I J c.second,I J c.third]:=(Box.new (w.alloc (.cells #[H A0 n0 k0,H A1 n1 k1,H A2 n2 k2] 28)) 32 [H C n a,H B m b,I J c.base,I J c.second,I J c.third] L).below (ba _ _) L;have X:Box (((w.alloc (.cells #[H A0 n0 k0,H A1 n1 k1,H A2 n2 k2] 28)).alloc (.cells #[H C n a,H B m b,I J c.base,I J c.second,I J c.third] 32)).alloc (.cells #[H P t.anc.length pk,H Q t.cds.length qk,I J t.lvl,.bool t.bef] 35)) (w.heap.size+2) 35 [H P t.anc.length pk,H Q t.cds.length qk,I J t.lvl,.bool t.bef]:=Box.new ((w.alloc (.cells #[H A0 n0 k0,H A1 n1 k1,H A2 n2 k2] 28)).alloc (.cells #[H C n a,H B m b,I J c.base,I J c.second,I J c.third] 32)) 35 [H P t.anc.length pk,H Q t.cds.length qk,I J t.lvl,.bool t.bef] L;have ah:∃W0,(((w.alloc (.cells #[H A0 n0 k0,H A1 n1 k1,H A2 n2 k2] 28)).alloc (.cells #[H C n a,H B m b,I J c.base,I J c.second,I J c.third] 32)).alloc (.cells #[H P t.anc.length pk,H Q t.cds.length qk,I J t.lvl,.bool t.bef] 35))=W0:=⟨_,rfl⟩;have R:=G (λW(hb:By w W)=>sH A0 n0 k0 A1 n1 k1 A2 n2 k2 x W (hN.below hb) hz (hL.below hb));have K:=G (λW(hb:By w W)=>rV C n a B m b c W (hC.below hb) hcz);have S:=G (λW=>QW P t.anc.length pk Q t.cds.length qk t W);have T:=G (λW(hb:By w W)=>VR P t.anc.length pk Q t.cds.length qk t W (hP.below hb) (hQ.below hb) rfl rfl hpl hql);unfold aU at R K S T|-;unfold aJ at K|-;obtain⟨y,p⟩:=exQ (bW x);obtain⟨i,q⟩:=exQ (aK c);obtain⟨g,s⟩:∃e:Int,(if kndT t=true then 0 else 8)=e:=⟨_,rfl⟩;obtain⟨Y,v⟩:∃e:Int,(if(rngT t.anc&&rngT t.cds)=true then 0 else 1)=e:=⟨_,rfl⟩
 have HV:=U (kM x c t=if y≠0 then y else if i≠0 then i else if g≠0 then g else Y) (by
  unfold kM
  rw[p,q,v,<-s]
  cases kndT t<;>simp)
 rw[p]at R;rw[q]at K;rw[s]at S;rw[v]at T;generalize kM x c t=r at *;clear p q s v hN hz hL hC hcz hP hQ;generalize t.anc.length=pn at *;generalize t.cds.length=qn at *;generalize t.lvl=lv at *;generalize t.bef=bf at *;go_enter func34,ntmps34;go_upto_region 1 with(fail)
 obtain⟨W0,O⟩:=ah;try rw[O]at B0 M V X|-
 clear O;have l0:=M.lt;have l1:=V.lt;have l2:=X.lt;obtain⟨ai,aj,ak⟩:=M.k3;have z:=G B0;have a4:=G M;have ae:=G V;have af:=G X;clear M V X B0;have C1:=G (R.o W0 z.o);clear R;go_wp2_with fail;refine C1.o.mono ?_
 rintro e Wa ⟨rfl,d⟩;have j:=G (tb z.o d);have D:=G (ae.o.below d l1);have E:=G (af.o.below d l2);clear d ai aj ak C1;by_cases q1:y=0
 ·have d1:(y !=0)=false:=by simp[q1]
  have l:=U (r=if i≠0 then i else if g≠0 then g else Y) (by rw[HV.o,if_neg (by simp[q1])]);clear q1 HV;obtain⟨al,am,an,ao,ap⟩:=D.o.k5;have C2:=G (K.o Wa j.o);clear K;go_wp2_with fail;refine C2.o.mono ?_
  rintro e Wb ⟨rfl,d⟩;have A:=G (tb j.o d);have h:=G (bb E.o d);clear d C2 al am an ao ap;by_cases q2:i=0
  ·have d2:(i !=0)=false:=by simp[q2]
   have o:=U (r=if g≠0 then g else Y) (by rw[l.o,if_neg (by simp[q2])]);clear q2 l;obtain⟨aq,ar,au,av⟩:=h.o.k4;have C3:=G (S.o Wb);clear S;go_wp2_with fail;refine C3.o.mono ?_
   rintro e Wc ⟨rfl,d⟩;have k:=G (tb A.o d);have F:=G (bb h.o d);clear d C3 aq ar au av;by_cases q3:g=0
   ·have d3:(g !=0)=false:=by simp[q3]
    have f:=U (r=Y) (by rw[o.o,if_neg (by simp[q3])]);clear q3 o;obtain⟨aw,ax,ay,az⟩:=F.o.k4;have C4:=G (T.o Wc k.o);clear T;go_wp2_with fail;refine C4.o.mono ?_
    rintro e Wd ⟨rfl,d⟩;have ab:=G (tb k.o d);clear d C4 aw ax ay az;go_wp2;go_ret;exact⟨by rw[f.o]<;>rfl,ab.o⟩
   have d3:(g !=0)=true:=by simp[q3]
   have f:=U (r=g) (by rw[o.o,if_pos q3]);clear q3;go_wp2;go_ret;exact⟨by rw[f.o]<;>rfl,k.o⟩
  have d2:(i !=0)=true:=by simp[q2]
  have f:=U (r=i) (by rw[l.o,if_pos q2]);clear q2;go_wp2;go_ret;exact⟨by rw[f.o]<;>rfl,A.o⟩
 have d1:(y !=0)=true:=by simp[q1]
 have f:=U (r=y) (by rw[HV.o,if_pos q1]);clear q1;go_wp2;go_ret;exact⟨by rw[f.o]<;>rfl,j.o⟩
end
section
open Go.RowKit
structure Found(n:Nat)(p:Nat->Bool)(i:Nat):Prop where
 le:i<=n
 lo:∀t,t<i->p t=false
 hi:∀t,i<=t->t<n->p t=true
def GU(n:Nat)(p:Nat->Bool)(w:Wv)(e:Ending)(w':Wv):Prop:=∃i:Nat,e=.returned (I J i)/\Found n p i/\By w w'
theorem YK(g:FuncId)(cb:Array Value)(n:Nat)(p:Nat->Bool)(w:Wv)(eg:∀args W,(callFunc g args).run prog W=.ok (.enter g args) W)(hbig:n<=1099511627776)
  (hf:∀(i:Nat)(W:Wv),i<n->By w W->Calls prog g (#[I J i]++cb) W (c_ (p i) W)) (hm:∀a b,a<=b->b<n->p a=true->p b=true) :
  Calls prog 171 #[I J n,.func (.func g) #[] cb] w (GU n p w):=by
 have x:=G hf;have q:=G hm;clear hf hm;go_enter func171,ntmps171;go_wp2
 go_loopw [5,6] (λu v wr=>∃i j:Nat,i<=j/\j<=n/\u=I J i/\v=I J j/\(∀t,t<i->p t=false)/\(∀t,j<=t->t<n->p t=true)/\By w wr)
  (λu v _=>(intOf v).toNat-(intOf u).toNat)
 case atStart=>exact⟨0,n,Nat.zero_le _,Nat.le_refl _,rfl,rfl,λt h=>O,λt r y=>O,Below.refl _ _⟩
 obtain⟨i,j,z,hj,rfl,rfl,m,l,c⟩:=hrel;have k:=G m;have f:=G l;clear m l;by_cases hlt:i<j
 ·obtain⟨h,hh,r,y,s⟩:∃h:Nat,((i:Int)+(j:Int))/2=(h:Int)/\i<=h/\h<j/\h<n:=⟨(i+j)/2,O,O,O,O⟩
  have C:=G (x.o h wr s c);cases hp:p h with
  |true=>
   have o:=G hp;rw[hp]at C;clear hp;go_wp2_with(go_at_fn g;refine C.o.mono ?_;rintro e A ⟨rfl,d⟩);go_roundw
   case rel=>exact⟨i,h,r,O,rfl,rfl,k.o,λt g1 g2=>q.o h t g1 g2 o.o,tb c d⟩
   exact oI_
  |false=>
   have o:=G hp;rw[hp]at C;clear hp;go_wp2_with(go_at_fn g;refine C.o.mono ?_;rintro e A ⟨rfl,d⟩);go_roundw
   case rel=>
    refine⟨h+1,j,O,hj,oN_,rfl,λt g1=>?_,f.o,tb c d⟩;cases ht:p t with
    |false=>rfl
    |true=>have:=q.o t h O s ht;rw[o.o]at this;cases this
   exact oI_
 obtain rfl:i=j:=O;go_wp2;go_ret;exact⟨i,rfl,⟨hj,k.o,f.o⟩,c⟩
end
end Go.Proofs.YtkhmjidaeliccaaGreatDoor
