import Derived.Test.YtkhmjidaeliccaaGreatDoorS17
set_option maxRecDepth 100000
set_option maxHeartbeats 51200000
namespace Go.Proofs.YtkhmjidaeliccaaGreatDoor
open Option renaming none->N,some->Z
open Value renaming int->I,slice->H
open IntKind renaming i64->J
open Go.Proofs.Tryz
section
open Go.RowKit Go.Maps Go.WideMaps Tl
def kO(e:Elt):Value:=.agg #[I J e.p,I J e.s,I J e.t,.bool e.v]
theorem uJ(e:Elt)(k:Int)(w:Wv):Calls prog 51 #[kO e,I J k] w (aU (wt k e) w):=by
 obtain⟨p,s,t,v⟩:=e;have d:By w (w.alloc (.cells #[I J p,I J s,I J t,.bool v] 77)):=ba _ _;have a:=G (λ(h:k=1)=>show wt k ⟨p,s,t,v⟩=p from by unfold wt;rw[if_pos h]);have b:=G (λ(h:¬k=1) (h2:k=2)=>show wt k ⟨p,s,t,v⟩=s from by unfold wt;rw[if_neg h,if_pos h2]);have c:=G (λ(h:¬k=1) (h2:¬k=2)=>show wt k ⟨p,s,t,v⟩=t from by unfold wt;rw[if_neg h,if_neg h2]);unfold aU kO;generalize wt k ⟨p,s,t,v⟩=r at *;dsimp only;go_enter func51,ntmps51;by_cases h1:k=1
 ·obtain rfl:=a.o h1
  have f:(k==1)=true:=by simp[h1]
  clear a b c h1;go_wp2;go_ret;exact⟨rfl,d⟩
 have f:(k==1)=false:=by simp[h1]
 by_cases h2:k=2
 ·obtain rfl:=b.o h1 h2
  have g:(k==2)=true:=by simp[h2]
  clear a b c h1 h2;go_wp2;go_ret;exact⟨rfl,d⟩
 obtain rfl:=c.o h1 h2;have g:(k==2)=false:=by simp[h2]
 clear a b c h1 h2;go_wp2;go_ret;exact⟨rfl,d⟩
theorem p_{k:Nat}{fn:Func}(hr:fn.results=#[.cell k 77])(tmps:Array Value)(w:Wv){b:Nat}{v0 v1 v2 v3:Value}(ha:tmps.getD k undef=.pointer (Z ⟨b,0,N⟩))
  (c0:w.cell? ⟨b,0,N⟩=Z v0) (c1:w.cell? ⟨b,1,N⟩=Z v1) (c2:w.cell? ⟨b,2,N⟩=Z v2) (c3:w.cell? ⟨b,3,N⟩=Z v3) :
  (results fn tmps).run prog w=.ok (.agg #[v0,v1,v2,v3]) w:=by
 unfold results;rw[hr];simp only[ha,List.mapM_toArray,List.mapM_cons,List.mapM_nil,asAddr];go_simp
theorem C_(e:Elt)(k x:Int)(w:Wv):Calls prog 52 #[kO e,I J k,I J x] w (λen w'=>en=.returned (kO (setW k e x))/\By w w'):=by
 obtain⟨p,s,t,v⟩:=e;unfold kO;dsimp only;go_enter func52,ntmps52;by_cases h1:k=1
 ·have hs:setW k ⟨p,s,t,v⟩ x=⟨x,s,t,v⟩:=by unfold setW;rw[if_pos h1]
  rw[hs];have c:(k==1)=true:=by simp[h1]
  clear hs h1;have a:Box ((w.alloc (.cells #[I J (x),I J (s),I J (t),.bool v] 77)).alloc (.cells #[I J (x),I J (s),I J (t),.bool v] 77)) (w.heap.size+1) 77 [I J (x),I J (s),I J (t),.bool v]:=Box.new _ _ _ L;go_wp2_with fail;(try simp only[Exit.inBlock,Exit.then]);refine bodyPost_ret (p_ rfl _ _ (b:=w.heap.size+1) rfl (a.c 0 rfl) (a.c 1 rfl) (a.c 2 rfl) (a.c 3 rfl)) rfl ?_;exact⟨rfl,(ba _ _).alloc L _⟩
 by_cases h2:k=2
 ·have hs:setW k ⟨p,s,t,v⟩ x=⟨p,x,t,v⟩:=by unfold setW;rw[if_neg h1,if_pos h2]
  rw[hs];have c:(k==1)=false:=by simp[h1]
  have d:(k==2)=true:=by simp[h2]
  clear hs h1 h2;have a:Box ((w.alloc (.cells #[I J (p),I J (x),I J (t),.bool v] 77)).alloc (.cells #[I J (p),I J (x),I J (t),.bool v] 77)) (w.heap.size+1) 77 [I J (p),I J (x),I J (t),.bool v]:=Box.new _ _ _ L;go_wp2_with fail;(try simp only[Exit.inBlock,Exit.then]);refine bodyPost_ret (p_ rfl _ _ (b:=w.heap.size+1) rfl (a.c 0 rfl) (a.c 1 rfl) (a.c 2 rfl) (a.c 3 rfl)) rfl ?_;exact⟨rfl,(ba _ _).alloc L _⟩
 by_cases h3:k=3
 ·have hs:setW k ⟨p,s,t,v⟩ x=⟨p,s,x,v⟩:=by unfold setW;rw[if_neg h1,if_neg h2,if_pos h3]
  rw[hs];have c:(k==1)=false:=by simp[h1]
  have d:(k==2)=false:=by simp[h2]
  have f:(k==3)=true:=by simp[h3]
  clear hs h1 h2 h3;have a:Box ((w.alloc (.cells #[I J (p),I J (s),I J (x),.bool v] 77)).alloc (.cells #[I J (p),I J (s),I J (x),.bool v] 77)) (w.heap.size+1) 77 [I J (p),I J (s),I J (x),.bool v]:=Box.new _ _ _ L;go_wp2_with fail;(try simp only[Exit.inBlock,Exit.then]);refine bodyPost_ret (p_ rfl _ _ (b:=w.heap.size+1) rfl (a.c 0 rfl) (a.c 1 rfl) (a.c 2 rfl) (a.c 3 rfl)) rfl ?_;exact⟨rfl,(ba _ _).alloc L _⟩
 have hs:setW k ⟨p,s,t,v⟩ x=⟨p,s,t,v⟩:=by unfold setW;rw[if_neg h1,if_neg h2,if_neg h3]
 rw[hs];have c:(k==1)=false:=by simp[h1]
 have d:(k==2)=false:=by simp[h2]
 have f:(k==3)=false:=by simp[h3]
 clear hs h1 h2 h3;have a:Box ((w.alloc (.cells #[I J (p),I J (s),I J (t),.bool v] 77)).alloc (.cells #[I J (p),I J (s),I J (t),.bool v] 77)) (w.heap.size+1) 77 [I J (p),I J (s),I J (t),.bool v]:=Box.new _ _ _ L;go_wp2_with fail;(try simp only[Exit.inBlock,Exit.then]);refine bodyPost_ret (p_ rfl _ _ (b:=w.heap.size+1) rfl (a.c 0 rfl) (a.c 1 rfl) (a.c 2 rfl) (a.c 3 rfl)) rfl ?_;exact⟨rfl,(ba _ _).alloc L _⟩
theorem nD(x l:Int)(w:Wv)(h0:0<=x)(hx:x<=1099511627776):Calls prog 112 #[I J x,I J l] w (aU (mvd l x) w):=by
 have a:=G (λ(h:l<=x)=>show mvd l x=x+1 from by unfold mvd;rw[if_pos h]);have b:=G (λ(h:¬l<=x)=>show mvd l x=x from by unfold mvd;rw[if_neg h]);unfold aU;generalize mvd l x=r at *;go_enter func112,ntmps112;by_cases h1:l<=x
 ·obtain rfl:=a.o h1
  have c:decide (l<=x)=true:=decide_eq_true h1;go_wp2;go_ret;exact⟨oN_,Below.refl _ _⟩
 have c:decide (l<=x)=false:=decide_eq_false h1;rw[b.o h1];clear a b;go_wp2;go_ret;exact⟨rfl,Below.refl _ _⟩
theorem XH(A0:Oa)(n0 k0:Nat)(A1:Oa)(n1 k1:Nat)(A2:Oa)(n2 k2:Nat)(x:Nrm)(C:Oa)(n a:Nat)(B:Oa)(m b:Nat)(c:Col)(D:Oa)(dn dk:Nat)(t:Li)(w:Wv)(hN:cB w A0 n0 A1 n1 A2 n2 x)(hz:cZ x)(hC:aO w C n B m c)(hcz:aQ c)(hD:aA w D t)(hn:t.length=dn)(hbig:dn<=16384):
  Calls prog 48 #[.agg #[H A0 n0 k0,H A1 n1 k1,H A2 n2 k2],aJ C n a B m b c,H D dn dk] w (c_ (dO x c t) w):=by
 have h:By w ((w.alloc (.cells #[H A0 n0 k0,H A1 n1 k1,H A2 n2 k2] 28)).alloc (.cells #[H C n a,H B m b,I J c.base,I J c.second,I J c.third] 32)):=(ba _ _).alloc L _;have l:Box ((w.alloc (.cells #[H A0 n0 k0,H A1 n1 k1,H A2 n2 k2] 28)).alloc (.cells #[H C n a,H B m b,I J c.base,I J c.second,I J c.third] 32)) w.heap.size 28 [H A0 n0 k0,H A1 n1 k1,H A2 n2 k2]:=fB (Box.new w 28 [H A0 n0 k0,H A1 n1 k1,H A2 n2 k2] rfl) _;have o:Box ((w.alloc (.cells #[H A0 n0 k0,H A1 n1 k1,H A2 n2 k2] 28)).alloc (.cells #[H C n a,H B m b,I J c.base,I J c.second,I J c.third] 32)) (w.heap.size+1) 32 [H C n a,H B m b,I J c.base,I J c.second,I J c.third]:=Box.new _ _ _ L;have j:∃i,((w.alloc (.cells #[H A0 n0 k0,H A1 n1 k1,H A2 n2 k2] 28)).alloc (.cells #[H C n a,H B m b,I J c.base,I J c.second,I J c.third] 32))=i:=⟨_,rfl⟩;have k:=G (λW(hb:By w W)=>B_ A0 n0 k0 A1 n1 k1 A2 n2 k2 x C n a B m b c D dn dk t W (hN.below hb) hz (hC.below hb) hcz (hD.below hb) hn hbig);clear hN hz hC hcz hD hn;unfold aJ rI at *;unfold c_;generalize aT x c t=els at *;generalize dO x c t=kn at *;go_enter func48,ntmps48;go_upto_region 1 with(fail)
 obtain⟨i,f⟩:=j;try rw[f]at h l o|-
 clear f;obtain⟨q,r,s⟩:=l.k3;obtain⟨v,y,z,A,F⟩:=o.k5;go_wp2_with fail;refine(k.o i h).mono ?_
 rintro e K ⟨E,d,rfl,-,g⟩;have p:=G (tb h g);clear g k q r s v y z A F h;go_wp2;go_ret;exact⟨rfl,p.o⟩
theorem RQ{k:Int}{es:List Elt}{i:Nat}(hi:i<es.length):lstK k es (i+1)=if wt k es[i]≠0 then i+1 else lstK k es i:=by
 show(if wt k (es.getD i ⟨0,0,0,false⟩)≠0 then i+1 else lstK k es i)=_
 rw[List.getD_eq_getElem?_getD,List.getElem?_eq_getElem hi,Option.getD_some]
theorem XI(E:Oa)(ec:Nat)(es:List Elt)(k:Int)(w:Wv)(hE:cM w E es)(hn:es.length<=1048576):
  Calls prog 47 #[H E es.length ec,I J k] w (aU ((lstK k es es.length:Int)-1) w):=by
 have j:=G hE;have l:=G (λi(hi:i<es.length)=>RQ (k:=k) hi);have p:=G (λi=>lstK_le k es i);have m:=U (((lstK k es 0:Nat):Int)-1=-1) rfl;unfold aU;clear hE;go_enter func47,ntmps47;go_wp2;go_loopw [5,6] (λu v wr=>∃i:Nat,i<=es.length/\u=I J ((lstK k es i:Int)-1)/\v=I J i/\By w wr) (λ_ v _=>es.length-(intOf v).toNat)
 case atStart=>exact⟨0,Nat.zero_le _,by rw[m.o],rfl,Below.refl _ _⟩
 obtain⟨i,hi,rfl,rfl,hb⟩:=hrel;by_cases hlt:i<es.length
 ·obtain⟨r,A,rfl,n,a⟩:=(j.o.below hb).at hlt
  obtain⟨s,t,x,y⟩:=a i hlt;have B:(i:Int)<(es.length:Int):=O;have d:=G (l.o i hlt);have h:=G (λW=>uJ es[i] k W);have f:=G hb;unfold aU kO at h;clear a hb;generalize hl0:lstK k es i=l0 at *;clear hl0;generalize wt k es[i]=wv at *;generalize es[i]=e at *;go_wp2_with fail;refine(h.o _).mono ?_
  rintro z q ⟨rfl,c⟩;have b:=G (tb f.o c);clear c h;by_cases hw:wv=0
  ·have o:(wv !=0)=false:=by simp[hw]
   have g:=U (lstK k es (i+1)=l0) (by rw[d.o,if_neg (by simpa using hw)]);clear d;go_wp2;go_roundw
   case rel=>exact⟨i+1,O,by rw[g.o],oN_,b.o⟩
   exact oI_
  have o:(wv !=0)=true:=by simp[hw]
  have g:=U (lstK k es (i+1)=i+1) (by rw[d.o,if_pos hw]);clear d;go_wp2;go_roundw
  case rel=>exact⟨i+1,O,by rw[g.o];congr 1;omega,oN_,b.o⟩
  exact oI_
 obtain rfl:i=es.length:=O;have f:=G hb;clear hb;go_wp2;go_ret;exact⟨rfl,f.o⟩
theorem vT{α:Type}{f:α->Bool}{l:List α}{i:Nat}(hi:i<l.length)(h:f l[i]=true):l.any f=true:=List.any_eq_true.2 ⟨_,List.getElem_mem hi,h⟩
theorem vS{α:Type}{f:α->Bool}{l:List α}(h:∀j,(hj:j<l.length)->j<l.length->f l[j]=false):l.any f=false:=by
 rw[List.any_eq_false];intro x hx;obtain⟨j,hj,rfl⟩:=List.getElem_of_mem hx;simp[h j hj hj]
theorem vR{α:Type}{f:α->Bool}{l:List α}{i:Nat}(hi:i<l.length)(ha:∀j,(hj:j<l.length)->j<i->f l[j]=false)(h:f l[i]=false):∀j,(hj:j<l.length)->j<i+1->f l[j]=false:=λj hj hji=>by
 rcases Nat.lt_or_ge j i with g|g
 ·exact ha j hj g
 obtain rfl:j=i:=O;exact h
theorem CU(E:Oa)(ec:Nat)(es:List Elt)(w:Wv)(hE:cM w E es)(hn:es.length<=1048576):
  Calls prog 55 #[H E es.length ec] w (λe w'=>e=.returned (.bool (es.any bigE))/\w=w'):=by
 have x:=G hE;have q:=G (λi(hi:i<es.length)h=>vT (f:=bigE) hi h);have o:=G (λh=>vS (f:=bigE) (l:=es) h);clear hE;generalize es.any bigE=r at *;go_enter func55,ntmps55;go_wp2;go_loopw [3] (λv wr=>∃i:Nat,i<=es.length/\v=I J i/\Hi (∀j,(hj:j<es.length)->j<i->bigE es[j]=false)/\wr=w) (λv _=>es.length-(intOf v).toNat)
 case atStart=>exact⟨0,Nat.zero_le _,rfl,G (λj _ h=>absurd h O),rfl⟩
 obtain⟨i,hi,rfl,a,rfl⟩:=hrel;by_cases hlt:i<es.length
 ·obtain⟨A,K,rfl,z,b⟩:=x.o.at hlt
  obtain⟨B,C,D,F⟩:=b i hlt;have L:(i:Int)<(es.length:Int):=O;have d:=G (q.o i hlt);have g:=G (vR hlt a.o);have c:=U (bigE es[i]=(decide (65535<es[i].p)||decide (65535<es[i].s)||decide (65535<es[i].t))) rfl;clear b a;generalize bigE es[i]=be at *;generalize es[i]=e at *;obtain⟨p,s,t,v⟩:=e;dsimp only at *;by_cases h1:65535<p
  ·have k:decide (65535<p)=true:=decide_eq_true h1
   have hr:=d.o (by rw[c.o,k];rfl);subst hr;clear c g d;go_wp2;go_ret;exact⟨rfl,rfl⟩
  have k:decide (65535<p)=false:=decide_eq_false h1;by_cases h2:65535<s
  ·have m:decide (65535<s)=true:=decide_eq_true h2
   have hr:=d.o (by rw[c.o,k,m];rfl);subst hr;clear c g d;go_wp2;go_ret;exact⟨rfl,rfl⟩
  have m:decide (65535<s)=false:=decide_eq_false h2;by_cases h3:65535<t
  ·have n:decide (65535<t)=true:=decide_eq_true h3
   have hr:=d.o (by rw[c.o,k,m,n];rfl);subst hr;clear c g d;go_wp2;go_ret;exact⟨rfl,rfl⟩
  have n:decide (65535<t)=false:=decide_eq_false h3;have y:=G (g.o (by rw[c.o,k,m,n];rfl));clear c g d;go_wp2;go_roundw
  case rel=>exact⟨i+1,O,oN_,G y.o,oQ_⟩
  exact oI_
 obtain rfl:i=es.length:=O;have hr:=o.o (λj hj _=>a.o j hj hj);subst hr;clear a;go_wp2;go_ret;exact⟨rfl,rfl⟩
theorem XJ(A:Oa)(n a:Nat)(B:Oa)(m b:Nat)(c:Col)(w:Wv)(h:aO w A n B m c)(hz:aQ c):
  Calls prog 54 #[aJ A n a B m b c] w (c_ (overC c) w):=by
 have D:By w (w.alloc (.cells #[H A n a,H B m b,I J c.base,I J c.second,I J c.third] 32)):=ba _ _;have p:Box (w.alloc (.cells #[H A n a,H B m b,I J c.base,I J c.second,I J c.third] 32)) w.heap.size 32 [H A n a,H B m b,I J c.base,I J c.second,I J c.third]:=Box.new _ _ _ rfl;have K:∃F,(w.alloc (.cells #[H A n a,H B m b,I J c.base,I J c.second,I J c.third] 32))=F:=⟨_,rfl⟩;have S:=G h.ents;have V:=G hz.e;have Y:=hz.n;have hn:=h.hn;have s:=U (overC c=(c.ents.any (λx=>x.elems.any bigE)||(decide (65502<c.base)||decide (65535<c.second)||decide (65535<c.third)))) rfl;unfold aJ c_;generalize overC c=r at *;obtain⟨es,gs,cb,cs,ct⟩:=c;dsimp only at *;subst hn;have R:=G (λi(hi:i<es.length)h=>vT (f:=λx:Ent=>x.elems.any bigE) hi h);have Q:=G (λh=>vS (f:=λx:Ent=>x.elems.any bigE) (l:=es) h);clear h hz;go_enter func54,ntmps54;go_upto_region 1 with(fail)
 obtain⟨F,q⟩:=K;try rw[q]at D p|-
 clear q;have k0:=p.c 0 rfl;have k2:=p.c 2 rfl;have k3:=p.c 3 rfl;have k4:=p.c 4 rfl;have g:=G D;clear p D;go_wp2;go_loopw [3] (λv wr=>∃i:Nat,i<=es.length/\v=I J i/\Hi (∀j,(hj:j<es.length)->j<i->(λx:Ent=>x.elems.any bigE) es[j]=false)/\wr=F) (λv _=>es.length-(intOf v).toNat)
 case atStart=>exact⟨0,Nat.zero_le _,rfl,G (λj _ h=>absurd h O),rfl⟩
 obtain⟨i,hi,rfl,e,rfl⟩:=hrel;by_cases hlt:i<es.length
 ·obtain⟨b1,o1,rfl,X,k⟩:=(S.o.below g.o).at hlt
  obtain⟨C,cc,E,dd,c1,c2,W,P⟩:=k i hlt;have q2:(i:Int)<(es.length:Int):=O;have y:=G (R.o i hlt);have t:=G (vR (f:=λx:Ent=>x.elems.any bigE) hlt e.o);have M:=G (CU E dd es[i].elems wr P (V.o i hlt).2);clear k e W P;(try dsimp only at y);(try dsimp only at t);generalize es[i].elems.any bigE=be at *;generalize es[i].elems.length=el at *;go_wp2_with fail;refine M.o.mono ?_
  rintro e2 W1 ⟨rfl,rfl⟩;clear M;cases be with
  |true=>
   have hr:=y.o rfl;have d:r=true:=by rw[s.o,hr];rfl
   subst d;clear hr t y s;go_wp2;go_ret;exact⟨rfl,g.o⟩
  |false=>
   have T:=G (t.o rfl);clear t y;go_wp2;go_roundw
   case rel=>exact⟨i+1,O,oN_,G T.o,oQ_⟩
   exact oI_
 obtain rfl:i=es.length:=O;have hr:=Q.o (λj hj _=>e.o j hj hj);have ho:=s.o;rw[hr,Bool.false_or]at ho;have o:=G ho;clear e hr ho s;by_cases h1:65502<cb
 ·have z:decide (65502<cb)=true:=decide_eq_true h1
  have d:r=true:=by rw[o.o,z];rfl
  subst d;go_wp2;go_ret;exact⟨rfl,g.o⟩
 have z:decide (65502<cb)=false:=decide_eq_false h1;by_cases h2:65535<cs
 ·have L:decide (65535<cs)=true:=decide_eq_true h2
  have d:r=true:=by rw[o.o,z,L];rfl
  subst d;go_wp2;go_ret;exact⟨rfl,g.o⟩
 have L:decide (65535<cs)=false:=decide_eq_false h2;have d:r=decide (65535<ct):=by rw[o.o,z,L];rfl
 subst d;go_wp2;go_ret;exact⟨rfl,g.o⟩
theorem SJ{α β:Type}(f:α->β){l:List α}{i:Nat}(hi:i<l.length):(l.take (i+1)).map f=(l.take i).map f++[f l[i]]:=by
 rw[List.take_add_one,List.getElem?_eq_getElem hi,List.map_append];rfl
theorem CR(E:Oa)(ec:Nat)(es:List Elt)(k l:Int)(w:Wv)(hE:cM w E es)(hn:es.length<=1048576)(hw:∀e∈es,0<=wt k e/\wt k e<=1048576):
  Calls prog 53 #[H E es.length ec,I J k,I J l] w (jO (es.map (rsE k l)) w):=by
 have HE:=G hE;have HW:=G (λi(hi:i<es.length)=>hw _ (List.getElem_mem hi));have MS:=G (λi(hi:i<es.length)=>SJ (rsE k l) hi);have y:=U (w.ownsRow w.heap.size 77 4 (H N 0 0) 0 ([]:Lv)) (World.ownsRow_nil _ _ _ _);unfold jO;rw[List.length_map];clear hE hw;go_enter func53,ntmps53;go_wp2;go_loopw [7,8] (λu v wr=>∃(i:Nat)(S:Oa)(c:Nat),i<=es.length/\v=I J i/\u=H S i c/\wr.ownsRow w.heap.size 77 4 (H S i c) i (aB Elt.cells ((es.take i).map (rsE k l)))/\By w wr) (λ_ v _=>es.length-(intOf v).toNat)
 case atStart=>exact⟨0,N,0,Nat.zero_le _,rfl,rfl,y.o,Below.refl _ _⟩
 obtain⟨i,S,c,hi,rfl,rfl,o,g⟩:=hrel;have f:=G o;clear o;by_cases hlt:i<es.length
 ·obtain⟨b,d,rfl,n,j⟩:=HE.o.at hlt
  obtain⟨c0,c1,c2,M⟩:=j i hlt;have q2:(i:Int)<(es.length:Int):=O;have HM:=G (MS.o i hlt);obtain⟨F,ad⟩:=HW.o i hlt;have T:=G (λW=>uJ es[i] k W);have KM:=G (λW=>nD (wt k es[i]) l W F O);have R:=G (λW=>C_ es[i] k (mvd l (wt k es[i])) W);rw[show setW k es[i] (mvd l (wt k es[i]))=rsE k l es[i]from rfl]at R;unfold aU at T KM;unfold kO at T R;clear j F ad;generalize rsE k l es[i]=re at *;generalize mvd l (wt k es[i])=mv at *;generalize wt k es[i]=wv at *;generalize es[i]=e at *;obtain⟨p,s,t,v⟩:=e;obtain⟨rp,rs,rt,rv⟩:=re;dsimp only at *;have r:=G (λW'(hb':By w W')=>show W'.cell? ⟨b,d+i*4,N⟩=Z (I J p)/\W'.cell? ⟨b,d+i*4+1,N⟩=Z (I J s)/\W'.cell? ⟨b,d+i*4+2,N⟩=Z (I J t)/\W'.cell? ⟨b,d+i*4+3,N⟩=Z (.bool v)/\By w W' from⟨(hb'.cell (p:=⟨b,_,N⟩) n).trans c0,(hb'.cell (p:=⟨b,_,N⟩) n).trans c1,(hb'.cell (p:=⟨b,_,N⟩) n).trans c2,(hb'.cell (p:=⟨b,_,N⟩) n).trans M,hb'⟩);clear c0 c1 c2 M;go_wp2_with fail;refine wp_region_held_drew (S:=λW'=>W'.cell? ⟨b,d+i*4,N⟩=Z (I J p)/\W'.cell? ⟨b,d+i*4+1,N⟩=Z (I J s)/\W'.cell? ⟨b,d+i*4+2,N⟩=Z (I J t)/\W'.cell? ⟨b,d+i*4+3,N⟩=Z (.bool v)/\By w W') oK_ (r.o _ (g.drew)) (λa=>?_);refine tK 0 15 ?_;refine tK 1 16 ?_;refine tK 2 17 ?_;refine tK 3 18 ?_;refine tK 4 19 ?_;refine tK 5 20 ?_;refine tK 6 21 ?_;refine tK 7 22 ?_;refine tK 8 23 ?_;refine tK 9 24 ?_;refine tK 10 25 ?_;refine tK 12 27 ?_;refine qE 11 26 ((T.o _).mono (R':=λe W'=>∃vv,e=.returned vv/\(W'.cell? ⟨b,d+i*4,N⟩=Z (I J p)/\W'.cell? ⟨b,d+i*4+1,N⟩=Z (I J s)/\W'.cell? ⟨b,d+i*4+2,N⟩=Z (I J t)/\W'.cell? ⟨b,d+i*4+3,N⟩=Z (.bool v)/\By w W')/\(vv=(I J wv)/\Below (wr.drew).heap.size (wr.drew) W')) (λe W'⟨he,hb⟩=>⟨_,he,r.o W' ((a.2.2.2.2).trans (hb.mono (a.2.2.2.2).size)),rfl,hb⟩)) ?_;clear a;rintro _ W2 a ⟨rfl,B⟩;refine qE 13 28 ((KM.o _).mono (R':=λe W'=>∃vv,e=.returned vv/\(W'.cell? ⟨b,d+i*4,N⟩=Z (I J p)/\W'.cell? ⟨b,d+i*4+1,N⟩=Z (I J s)/\W'.cell? ⟨b,d+i*4+2,N⟩=Z (I J t)/\W'.cell? ⟨b,d+i*4+3,N⟩=Z (.bool v)/\By w W')/\(vv=(I J mv)/\Below (W2).heap.size (W2) W')) (λe W'⟨he,hb⟩=>⟨_,he,r.o W' ((a.2.2.2.2).trans (hb.mono (a.2.2.2.2).size)),rfl,hb⟩)) ?_;clear a;rintro _ W3 a ⟨rfl,Y⟩;refine qE 14 29 ((R.o _).mono (R':=λe W'=>∃vv,e=.returned vv/\(W'.cell? ⟨b,d+i*4,N⟩=Z (I J p)/\W'.cell? ⟨b,d+i*4+1,N⟩=Z (I J s)/\W'.cell? ⟨b,d+i*4+2,N⟩=Z (I J t)/\W'.cell? ⟨b,d+i*4+3,N⟩=Z (.bool v)/\By w W')/\(vv=(.agg #[I J rp,I J rs,I J rt,.bool rv])/\Below (W3).heap.size (W3) W')) (λe W'⟨he,hb⟩=>⟨_,he,r.o W' ((a.2.2.2.2).trans (hb.mono (a.2.2.2.2).size)),rfl,hb⟩)) ?_;clear a;rintro _ L a ⟨rfl,aa⟩;have C:=(Below.refl wr.heap.size wr).drew.trans ((B.trans ((tb Y aa).mono B.size)));have m:=C.alloc C.size (.cells #[I J rp,I J rs,I J rt,.bool rv] 77);have A:=G (aG f.o m);have z:=G (bI L [I J rp,I J rs,I J rt,.bool rv] 77 rfl);have D:=(tb g m).size;have h:=tb g m;refine fK (w':=L.alloc (.cells #[I J rp,I J rs,I J rt,.bool rv] 77)) (v:=H (Z ⟨L.heap.size,0,N⟩) 1 1) (i:=15) (Z 30) rfl rfl oK_ oR_ oS_ (r.o _ h) ?_;try simp only[Act.put,sA,sB,sC]
  obtain⟨wd,K⟩:=exQ (L.alloc (.cells #[I J rp,I J rs,I J rt,.bool rv] 77));rw[K]at m A z D h|-;clear K a;refine gM (i:=16) (Z 31) rfl rfl oK_ oR_ _ _ 54 77 (.agg #[I J 0,I J 0,I J 0,.bool false]) 4 32 rfl underlying54 gU rfl V V rfl A.o rfl z.o rfl (gX [⟨rp,rs,rt,rv⟩]) O D ?_;intro B3 M w3 q ar ab au aq;have Q:=G q;have x:=G (h.trans ab);have X:=r.o w3 x.o;refine⟨X,?_⟩;have a:=X;clear X;try simp only[Act.put,sA,sB,sC]
  refine tK 17 7 ?_;refine wpAnyH_done oK_ ?_ _;go_wp2;go_roundw
  case rel=>exact⟨i+1,B3,M,O,oN_,rfl,by rw[HM.o,iA];exact Q.o,x.o⟩
  exact oI_
 obtain rfl:i=es.length:=O;have HF:=U (wr.ownsRow w.heap.size 77 4 (H S es.length c) es.length (aB Elt.cells (es.map (rsE k l)))) (by have:=f.o;rw[List.take_length]at this;exact this);have P:=G g;clear f g;go_wp2;go_ret;exact⟨S,c,rfl,HF.o,P.o⟩
end
end Go.Proofs.YtkhmjidaeliccaaGreatDoor
