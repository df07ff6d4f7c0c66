import Derived.Test.YtkhmjidaeliccaaGreatDoorS18
set_option maxRecDepth 100000
set_option maxHeartbeats 51200000
namespace Go.Proofs.YtkhmjidaeliccaaGreatDoor
open Option renaming none->N,some->Z
open Value renaming int->I,slice->H
open IntKind renaming i64->J
open Go.Proofs.Tryz
section
open Go.RowKit Go.Maps Go.WideMaps
structure Chg(S:Nat->Prop)(w w':Wv):Prop where
 os:w'.os=w.os
 tape:w'.tape=w.tape
 output:w'.output=w.output
 size:w.heap.size<=w'.heap.size
 block:∀k,k<w.heap.size->¬S k->w'.heap[k]?=w.heap[k]?
theorem Chg.refl(S:Nat->Prop)(w:Wv):Chg S w w:=⟨rfl,rfl,rfl,Nat.le_refl _,λ_ _ _=>rfl⟩
theorem Chg.mono{S S':Nat->Prop}{w w':Wv}(h:Chg S w w')(hs:∀k,k<w.heap.size->S k->S' k):Chg S' w w':=⟨h.os,h.tape,h.output,h.size,λk hk hn=>h.block k hk (λq=>hn (hs k hk q))⟩
theorem Chg.trans{S:Nat->Prop}{a b c:Wv}(h:Chg S a b)(g:Chg S b c):Chg S a c:=
 ⟨g.os.trans h.os,g.tape.trans h.tape,g.output.trans h.output,Nat.le_trans h.size g.size,λk hk hn=>(g.block k (Nat.lt_of_lt_of_le hk h.size) hn).trans (h.block k hk hn)⟩
theorem Chg.trans'{S S':Nat->Prop}{a b c:Wv}(h:Chg S a b)(g:Chg S' b c)(hs:∀k,S' k->S k\/a.heap.size<=k):Chg S a c:=
 ⟨g.os.trans h.os,g.tape.trans h.tape,g.output.trans h.output,Nat.le_trans h.size g.size,λk hk hn=>(g.block k (Nat.lt_of_lt_of_le hk h.size) (λq=>by rcases hs k q with e|e;exact hn e;omega)).trans (h.block k hk hn)⟩
theorem Chg.of_below{S:Nat->Prop}{w w':Wv}(h:By w w'):Chg S w w':=⟨h.os,h.tape,h.output,h.size,λk hk _=>h.block k hk⟩
theorem Chg.of_grown{S:Nat->Prop}{w w':Wv}{r:Option Nat}(h:w.grownBy w' r)(hr:∀q,r=Z q->S q):Chg S w w':=⟨h.os,h.tape,h.output,h.size,λk hk hn=>h.block k hk (λe=>hn (hr k e.symm))⟩
theorem Chg.below{S:Nat->Prop}{w w':Wv}{n:Nat}(h:Chg S w w')(hn:n<=w.heap.size)(hs:∀k,S k->n<=k):Below n w w':=⟨h.os,h.tape,h.output,h.size,λk hk=>h.block k (Nat.lt_of_lt_of_le hk hn) (λq=>by have:=hs k q;omega)⟩
theorem Chg.sl{S:Nat->Prop}{w w':Wv}(h:Chg S w w'){A:Oa}{cs:Lv}(hA:Sl w A cs)(hn:cs≠[]->∀q,blk A=Z q->¬S q):Sl w' A cs:=λhne=>by
 obtain⟨b,o,rfl,hc⟩:=hA hne;have hb:b<w.heap.size:=kW hA hne rfl;refine⟨b,o,rfl,λj u hu=>?_⟩;rw[World.cell?_of_block (h.block b hb (hn hne b rfl))];exact hc j u hu
theorem Chg.box{S:Nat->Prop}{w w':Wv}(h:Chg S w w'){b:Nat}{t:TypeId}{cs:Lv}(hB:Box w b t cs)(hn:¬S b):Box w' b t cs:=(h.block b hB.lt hn).trans hB
theorem PE(gs:List Grp):∀u∈aB Grp.cells gs,u.oneCell'=true:=by
 intro u hu;obtain⟨g,_,hg⟩:=List.mem_flatMap.1 hu;simp only[Grp.cells,List.mem_cons,List.not_mem_nil,or_false]at hg;rcases hg with rfl|rfl|rfl<;>rfl
def iZ(w:Wv)(lo hi:Nat)(v:Value×Value)(x:Ent):Prop:=∃C c E d,v=(H C x.codes.length c,H E x.elems.length d)/\w.ownsRow lo 3 1 (H C x.codes.length c) x.codes.length (x.codes.map (Value.int .i64))/\w.ownsRow lo 77 4 (H E x.elems.length d) x.elems.length (aB Elt.cells x.elems)/\(∀q,blk C=Z q->q<hi)/\(∀q,blk E=Z q->q<hi)/\(∀q,blk C=Z q->blk E≠Z q)
structure CpE(w:Wv)(base z:Nat)(B:Oa)(cap:Nat)(xs:List Ent)(k top:Nat):Prop where
 ex:∃(vs:List (Value×Value))(m:Nat->Nat),vs.length=xs.length/\w.ownsRow base 75 2 (H B xs.length cap) xs.length (aB enC vs)/\
  (∀i,(hi:i<xs.length)->(hv:i<vs.length)->∃C c E d,vs[i]=(H C xs[i].codes.length c,H E xs[i].elems.length d)/\iK B z w C xs[i].codes/\jL B z w E xs[i].elems)/\
  (∀i,i<k->m i<=m (i+1))/\m k<=top/\top<=w.heap.size/\(∀q,blk B=Z q->q<m 0)/\z<m 0/\
  ∀i,i<k->(hi:i<xs.length)->(hv:i<vs.length)->iZ w (m i) (m (i+1)) vs[i] xs[i]
theorem jW{m:Nat->Nat}{k:Nat}(h:∀i,i<k->m i<=m (i+1)):∀i,i<=k->m 0<=m i
 |0,_=>Nat.le_refl _
 |i+1,hi=>Nat.le_trans (jW h i O) (h i O)
section
variable {w w':Wv}{base z lo hi:Nat}{B:Oa}{cap k top:Nat}{xs:List Ent}{v:Value×Value}{x:Ent}
theorem iZ.below(h:iZ w lo hi v x)(hb:By w w'):iZ w' lo hi v x:=by
 obtain⟨C,c,E,d,a,b,e,f⟩:=h;exact⟨C,c,E,d,a,aG b hb,aG e hb,f⟩
theorem iZ.set(h:iZ w lo hi v x){p:Addr}(hp:p.block<lo)(u:Value):iZ (w.setCell p u) lo hi v x:=by
 obtain⟨C,c,E,d,a,b,e,f⟩:=h;exact⟨C,c,E,d,a,ownsRow_setCell_below b hp u,ownsRow_setCell_below e hp u,f⟩
theorem eW.cp(h:eW w base z B cap xs)(hz:z<w.heap.size):CpE w base z B cap xs 0 w.heap.size:=by
 obtain⟨vs,b,a,c⟩:=h.ex;exact⟨vs,λ_=>w.heap.size,b,a,c,λi hi=>absurd hi O,Nat.le_refl _,Nat.le_refl _,λq hq=>(aN a hq).2,hz,λi hi=>absurd hi O⟩
theorem CpE.into(h:CpE w base z B cap xs k top):eW w base z B cap xs:=by
 obtain⟨vs,m,a,b,c,_⟩:=h.ex;exact⟨vs,a,b,c⟩
theorem CpE.top_le(h:CpE w base z B cap xs k top):top<=w.heap.size:=by
 obtain⟨vs,m,b,c,d,e,f,a,_⟩:=h.ex;exact a
theorem CpE.below(h:CpE w base z B cap xs k top)(hb:By w w'):CpE w' base z B cap xs k top:=by
 obtain⟨vs,m,g,j,l,n,o,a,p,q,r⟩:=h.ex;refine⟨vs,m,g,aG j hb,λi hi hv=>?_,n,o,Nat.le_trans a hb.size,p,q,λi hk hi hv=>(r i hk hi hv).below hb⟩;obtain⟨C,c,E,d,b,e,f⟩:=l i hi hv;exact⟨C,c,E,d,b,e.below hb,f.below hb⟩
theorem CpE.off(h:CpE w base z B cap xs k top)(hz:z<base)(p:Addr)(hp:p.block=z)(v:Value):CpE (w.setCell p v) base z B cap xs k top:=by
 obtain⟨vs,m,j,l,n,b,o,a,q,r,s⟩:=h.ex;refine⟨vs,m,j,uD l hz p hp v,λi hi hv=>?_,b,o,by simpa using a,q,r,λi hk hi hv=>(s i hk hi hv).set (by have:=jW b i O;omega) v⟩;obtain⟨C,c,E,d,e,f,g⟩:=n i hi hv;exact⟨C,c,E,d,e,f.stored p (.inr hp) v,g.stored p (.inr hp) v⟩
theorem CpE.put{g:Nat}(h:CpE w base z (Z ⟨g,0,N⟩) cap xs k top)(hk:k<xs.length){C:Oa}{c:Nat}{E:Oa}{d lo:Nat}(hlo:top<=lo)
  (hC:w.ownsRow lo 3 1 (H C xs[k].codes.length c) xs[k].codes.length (xs[k].codes.map (Value.int .i64))) (hE:w.ownsRow lo 77 4 (H E xs[k].elems.length d) xs[k].elems.length (aB Elt.cells xs[k].elems)) (hCE:∀q,blk C=Z q->blk E≠Z q) :
  CpE ((w.setCell ⟨g,k*2,N⟩ (H C xs[k].codes.length c)).setCell ⟨g,k*2+1,N⟩ (H E xs[k].elems.length d)) base z (Z ⟨g,0,N⟩) cap xs (k+1) w.heap.size:=by
 obtain⟨vs,m,v,x,y,r,h5,T,B,V,W⟩:=h.ex;have X:=jW r k (Nat.le_refl _);have hg:=B g rfl;have b:∀(A:Oa)(l:Nat),(∀q,blk A=Z q->lo<=q)->∀q,blk A=Z q->g≠q/\q≠z:=λA l hA q hq=>by have:=hA q hq;omega
 have Y:eW ((w.setCell ⟨g,k*2,N⟩ (H C xs[k].codes.length c)).setCell ⟨g,k*2+1,N⟩ (H E xs[k].elems.length d)) base z (Z ⟨g,0,N⟩) cap xs:=(eW.put ⟨vs,v,x,y⟩ hk (Sl.of_own hC) (λ_=>b C 0 (λq hq=>(aN hC hq).1)) (Sl.of_own hE) (λ_=>b E 0 (λq hq=>(aN hE hq).1)));have f:k<vs.length:=O;have o:∀(A:Oa)(n c1:Nat)(e:TypeId)(size:Nat)(cs:Lv)(l:Nat),g<l->w.ownsRow l e size (H A n c1) n cs->((w.setCell ⟨g,k*2,N⟩ (H C xs[k].codes.length c)).setCell ⟨g,k*2+1,N⟩ (H E xs[k].elems.length d)).ownsRow l e size (H A n c1) n cs:=λA n c1 e size cs l hl ho=>ownsRow_setCell_below (ownsRow_setCell_below ho (a:=⟨g,k*2,N⟩) hl _) (a:=⟨g,k*2+1,N⟩) hl _
 refine⟨vs.set k (H C xs[k].codes.length c,H E xs[k].elems.length d),λj=>if j<=k then m j else w.heap.size,by simpa using v,?_,?_,λi hi=>?_,?_,L,λq hq=>?_,?_,λi hi hix hiv=>?_⟩
 ·have D:=(x.stored (k*2+0) (H C xs[k].codes.length c)).1
  rw[jD enC 2 (λ_=>rfl) vs k 0 _ (H C xs[k].codes.length c,vs[k].2) f O rfl]at D;have F:=(D.stored (k*2+1) (H E xs[k].elems.length d)).1;rw[jD enC 2 (λ_=>rfl) (vs.set k (H C xs[k].codes.length c,vs[k].2)) k 1 _ (H C xs[k].codes.length c,H E xs[k].elems.length d) (by simpa using f) O (by rw[List.getElem_set_self];rfl),List.set_set]at F;exact F
 ·intro i hi hv
  have s:iK (Z ⟨g,0,N⟩) z w C xs[k].codes:=⟨Sl.of_own hC,λhne q hq=>⟨λe=>(b C 0 (λq hq=>(aN hC hq).1) q hq).1 (Option.some.inj (show Z g=Z q from e)),(b C 0 (λq hq=>(aN hC hq).1) q hq).2⟩⟩;have t:jL (Z ⟨g,0,N⟩) z w E xs[k].elems:=⟨Sl.of_own hE,λhne q hq=>⟨λe=>(b E 0 (λq hq=>(aN hE hq).1) q hq).1 (Option.some.inj (show Z g=Z q from e)),(b E 0 (λq hq=>(aN hE hq).1) q hq).2⟩⟩;by_cases e:k=i
  ·subst e
   exact⟨C,c,E,d,by rw[List.getElem_set_self],(s.stored ⟨g,k*2,N⟩ (.inl rfl) _).stored ⟨g,k*2+1,N⟩ (.inl rfl) _,(t.stored ⟨g,k*2,N⟩ (.inl rfl) _).stored ⟨g,k*2+1,N⟩ (.inl rfl) _⟩
  obtain⟨K,P,M,Q,o,R,S⟩:=y i hi (by simpa using hv);exact⟨K,P,M,Q,by rw[List.getElem_set_ne e,o],(R.stored ⟨g,k*2,N⟩ (.inl rfl) _).stored ⟨g,k*2+1,N⟩ (.inl rfl) _,(S.stored ⟨g,k*2,N⟩ (.inl rfl) _).stored ⟨g,k*2+1,N⟩ (.inl rfl) _⟩
 ·dsimp only
  rw[if_pos O];by_cases e:i=k
  ·subst e;rw[if_neg O];omega
  rw[if_pos O];exact r i O
 ·dsimp only
  rw[if_neg O];exact Nat.le_refl _
 ·dsimp only
  rw[if_pos O];exact B q hq
 ·dsimp only
  rw[if_pos O];exact V
 dsimp only;rw[if_pos O];by_cases e:i=k
 ·subst e
  rw[if_neg O,List.getElem_set_self];exact⟨C,c,E,d,rfl,o C _ _ _ _ _ _ O (eR hC O),o E _ _ _ _ _ _ O (eR hE O),λq hq=>(aN hC hq).2,λq hq=>(aN hE hq).2,hCE⟩
 rw[if_pos O,List.getElem_set_ne (λq=>e q.symm)];have:=jW r i O;exact((W i O hix O).set (p:=⟨g,k*2,N⟩) oD_ _).set (p:=⟨g,k*2+1,N⟩) oD_ _
end
def oO(c:Col)(w:Wv)(e:Ending)(w':Wv):Prop:=∃A a B b base z top,e=.returned (aJ A c.ents.length a B c.grps.length b c)/\CpE w' base z A a c.ents c.ents.length top/\w'.ownsRow w.heap.size 98 3 (H B c.grps.length b) c.grps.length (aB Grp.cells c.grps)/\(∀q,blk B=Z q->q<base)/\aO w' A c.ents.length B c.grps.length c/\w.heap.size<=z/\z<base/\By w w'
theorem WW{fn:Func}(hr:fn.results=#[.cell 2 32])(tmps:Array Value)(w:Wv){b:Nat}{v0 v1 v2 v3 v4:Value}(ha:tmps.getD 2 undef=.pointer (Z ⟨b,0,N⟩))
  (c0:w.cell? ⟨b,0,N⟩=Z v0) (c1:w.cell? ⟨b,1,N⟩=Z v1) (c2:w.cell? ⟨b,2,N⟩=Z v2) (c3:w.cell? ⟨b,3,N⟩=Z v3) (c4:w.cell? ⟨b,4,N⟩=Z v4) :
  (results fn tmps).run prog w=.ok (.agg #[v0,v1,v2,v3,v4]) w:=by
 unfold results;rw[hr];simp only[ha,List.mapM_toArray,List.mapM_cons,List.mapM_nil,asAddr];go_simp
theorem xB(A:Oa)(n a:Nat)(B:Oa)(m b:Nat)(c:Col)(w:Wv)(hC:aO w A n B m c)(hz:aQ c):
  Calls prog 38 #[aJ A n a B m b c] w (oO c w):=by
 obtain⟨hE,hG,rfl,rfl,hs⟩:=hC;unfold aJ oO;unfold aJ;have M:By w ((w.alloc (.cells #[H A c.ents.length a,H B c.grps.length b,I J c.base,I J c.second,I J c.third] 32)).alloc (.cells #[H N 0 0,H N 0 0,I J 0,I J 0,I J 0] 32)):=(ba _ _).alloc L _;have t:Box ((w.alloc (.cells #[H A c.ents.length a,H B c.grps.length b,I J c.base,I J c.second,I J c.third] 32)).alloc (.cells #[H N 0 0,H N 0 0,I J 0,I J 0,I J 0] 32)) w.heap.size 32 [H A c.ents.length a,H B c.grps.length b,I J c.base,I J c.second,I J c.third]:=fB (Box.new w 32 [H A c.ents.length a,H B c.grps.length b,I J c.base,I J c.second,I J c.third] rfl) _;have Q:Box ((w.alloc (.cells #[H A c.ents.length a,H B c.grps.length b,I J c.base,I J c.second,I J c.third] 32)).alloc (.cells #[H N 0 0,H N 0 0,I J 0,I J 0,I J 0] 32)) (w.heap.size+1) 32 [H N 0 0,H N 0 0,I J 0,I J 0,I J 0]:=Box.new _ _ _ L;have cf:∃W0,((w.alloc (.cells #[H A c.ents.length a,H B c.grps.length b,I J c.base,I J c.second,I J c.third] 32)).alloc (.cells #[H N 0 0,H N 0 0,I J 0,I J 0,I J 0] 32))=W0:=⟨_,rfl⟩;obtain⟨cl,bi,bn,a8,bm⟩:=NP hE;have z0:=hz.n;have z1:=hz.m;have C0:=G (λW(hb:By w W)=>LM B c.grps.length b (aB Grp.cells c.grps) W (Sl.below hG hb) (fY Grp.cells 3 (λ_=>rfl) c.grps) (PE _) O);have C1:=G (λW(hb:By w W)=>LL A c.ents.length a cl W (Sl.below bi hb) bn a8 O);have az:=G bm;have CI:=G (λi(hi:i<c.ents.length)C k W(hI:aA W C c.ents[i].codes)=>rX C c.ents[i].codes.length k c.ents[i].codes W hI rfl (hz.e i hi).1);have CE:=G (λi(hi:i<c.ents.length)C k W(hI:cM W C c.ents[i].elems)=>wT C c.ents[i].elems.length k c.ents[i].elems W hI rfl (hz.e i hi).2);have ax:=G (λA' B' W(h0:gH W A' c.ents)(h1:jM W B' c.grps)=>(⟨h0,h1,rfl,rfl,hs⟩:aO W A' c.ents.length B' c.grps.length c));have SZ:=G (λi(hi:i<c.ents.length)=>hz.e i hi);unfold rA at C0 C1;unfold fR at CI;unfold jO at CE;clear hE hG hs hz bi bn a8 bm;go_enter func38,ntmps38;go_upto_region 1 with(fail)
 obtain⟨W0,bf⟩:=cf;try rw[bf]at M t Q|-
 clear bf;have F:=t.lt;have s1:=Q.lt;have d0:=t.c 1 rfl;go_wp2_with fail;refine(C0.o W0 M).mono ?_
 rintro e l ⟨s,y,rfl,Y,j⟩;have f0:=(t.below j F).free 1;have g0:=(t.below j F).c 1 rfl;have Y0:Box (l.setCell ⟨w.heap.size,1,N⟩ (H s c.grps.length y)) w.heap.size 32 [H A c.ents.length a,H s c.grps.length y,I J c.base,I J c.second,I J c.third]:=(t.below j F).set 1 _;have Y1:Box (l.setCell ⟨w.heap.size,1,N⟩ (H s c.grps.length y)) (w.heap.size+1) 32 [H N 0 0,H N 0 0,I J 0,I J 0,I J 0]:=dS (Q.below j s1) _ L _;have Bb:By w (l.setCell ⟨w.heap.size,1,N⟩ (H s c.grps.length y)):=(tb M j).setCell (Nat.le_refl _) _;have x:=ownsRow_setCell_below Y (a:=⟨w.heap.size,1,N⟩) F (H s c.grps.length y);have z:W0.heap.size<=(l.setCell ⟨w.heap.size,1,N⟩ (H s c.grps.length y)).heap.size:=by have:=j.size;simpa using this
 have aq:Below W0.heap.size w (l.setCell ⟨w.heap.size,1,N⟩ (H s c.grps.length y))->True:=λ_=>trivial
 have WE:∃W,(l.setCell ⟨w.heap.size,1,N⟩ (H s c.grps.length y))=W:=⟨_,rfl⟩;clear Y d0 t Q j M aq;go_upto_region 2 with(fail)
 obtain⟨P,hW⟩:=WE;try rw[hW]at Bb Y0 Y1 z x|-
 clear hW f0 g0 C0;have Y:=x;clear x;have t:=Y0;have Q:=Y1;have M:=Bb;have d3:=z;have dx:=s1;clear Y0 Y1 Bb z s1;have dv:=F;clear F;have F:=t.lt;have s1:=Q.lt;have Q1:=G (λq(hq:blk s=Z q)=>aN Y hq);have d0:=t.c 0 rfl;go_wp2_with fail;refine(C1.o P M).mono ?_
 rintro e Wb ⟨o,r,rfl,O0,j⟩;have f0:=(t.below j F).free 0;have g0:=(t.below j F).c 0 rfl;have Y0:Box (Wb.setCell ⟨w.heap.size,0,N⟩ (H o c.ents.length r)) w.heap.size 32 [H o c.ents.length r,H s c.grps.length y,I J c.base,I J c.second,I J c.third]:=(t.below j F).set 0 _;have Y1:Box (Wb.setCell ⟨w.heap.size,0,N⟩ (H o c.ents.length r)) (w.heap.size+1) 32 [H N 0 0,H N 0 0,I J 0,I J 0,I J 0]:=dS (Q.below j s1) _ L _;have Bb:By w (Wb.setCell ⟨w.heap.size,0,N⟩ (H o c.ents.length r)):=(tb M j).setCell (Nat.le_refl _) _;have a2:=ownsRow_setCell_below O0 (a:=⟨w.heap.size,0,N⟩) F (H o c.ents.length r);have x:=ownsRow_setCell_below (aG Y j) (a:=⟨w.heap.size,0,N⟩) O (H o c.ents.length r);have z:P.heap.size<=(Wb.setCell ⟨w.heap.size,0,N⟩ (H o c.ents.length r)).heap.size:=by have:=j.size;simpa using this
 have aq:Below P.heap.size w (Wb.setCell ⟨w.heap.size,0,N⟩ (H o c.ents.length r))->True:=λ_=>trivial
 have WE:∃W,(Wb.setCell ⟨w.heap.size,0,N⟩ (H o c.ents.length r))=W:=⟨_,rfl⟩;have HM:=az.o P.heap.size (w.heap.size+1) o r _ Bb M.size O a2;clear a2 O0 Y d0 t Q j M aq az;go_upto_region 3 with(fail)
 obtain⟨W2,hW⟩:=WE;try rw[hW]at Bb Y0 Y1 z HM x|-
 clear hW f0 g0 C1;have Y:=x;clear x;have t:=Y0;have Q:=Y1;have M:=Bb;have d4:=z;have dy:=s1;clear Y0 Y1 Bb z s1;have dw:=F;clear F;have F:=t.lt;have s1:=Q.lt;have a1:=G Y;have b9:=G t;have ca:=G Q;have b4:=G M;have b7:=G HM
 have R:=G (λq(hq:blk o=Z q)=>show P.heap.size<=q from by
  obtain⟨vs,_,h2,_⟩:=HM.ex
  exact(aN h2 hq).1)
 have bo:w.heap.size+1<P.heap.size:=O;have dt:P.heap.size<=W2.heap.size:=O;have q1:=t.c 0 rfl;clear Y t Q M HM F s1;go_wp2;go_loopw [16] (λu wr=>∃i V:Nat,i<=c.ents.length/\u=I J i/\CpE wr P.heap.size (w.heap.size+1) o r c.ents i V/\W2.grownBy wr (blk o)) (λu _=>c.ents.length-(intOf u).toNat)
 case atStart=>exact⟨0,W2.heap.size,Nat.zero_le _,rfl,b7.o.cp O,aP _ _⟩
 obtain⟨i,V,hi,rfl,hm,hg⟩:=hrel;have ds:=hg.size;have HW:=G hg;have n0:Z w.heap.size≠blk o:=λe=>by have:=R.o _ e.symm;omega
 have n1:Z (w.heap.size+1)≠blk o:=λe=>by have:=R.o _ e.symm;omega
 have X:=G (b9.o.grown hg n0);have aj:=G (ca.o.grown hg n1);clear n0 n1;by_cases hlt:i<c.ents.length
 ·obtain⟨g,C,cc,E,ec,cr,dn,dp,c0,c1,f0,f1,hC,bc⟩:=hm.into.at hlt
  subst cr;have a0:=G hm;have da:=hm.top_le;have a3:=G (λ(K:Oa) (k:Nat) (D:Oa) (d lo:Nat) (W:Wv) (h:CpE W P.heap.size (w.heap.size+1) (Z ⟨g,0,N⟩) r c.ents i V) hlo hK hD hKD=>h.put (C:=K) (c:=k) (E:=D) (d:=d) (lo:=lo) hlt hlo hK hD hKD);have b2:=G (CI.o i hlt);have b0:=G (CE.o i hlt);have HC:=G hC;have b5:=G bc;clear hm hg hC bc;have c9:=SZ.o i hlt;generalize c.ents[i]=en at *;obtain⟨cd,el⟩:=en;dsimp only at *;have dr:¬g=wr.heap.size:=O;have ck:wr.cell? ⟨g,0+i*2,N⟩=Z (H C cd.length cc):=by rw[Nat.zero_add];exact c0
  have BA:By wr (wr.alloc (.cells #[H C cd.length cc,H E el.length ec] 75)):=ba _ _;have XA:Box (wr.alloc (.cells #[H C cd.length cc,H E el.length ec] 75)) wr.heap.size 75 [H C cd.length cc,H E el.length ec]:=Box.new wr 75 [H C cd.length cc,H E el.length ec] rfl;have ci:∃l,(wr.alloc (.cells #[H C cd.length cc,H E el.length ec] 75))=l:=⟨_,rfl⟩;go_upto_region 6 with(fail)
  obtain⟨l,bg⟩:=ci;try rw[bg]at BA XA|-
  clear bg c0 c1 ck;have sa:=XA.lt;have ak:=bb X.o BA;have sw:=ak.lt;have dq:g<l.heap.size:=O;have cs:g≠w.heap.size:=O;have bk:g≠wr.heap.size:=O;have k1:=ak.c 0 rfl;obtain⟨k2,k3⟩:=XA.k2;have SH:=G (λW'(hg':l.grownBy W' (Z g))=>show W'.cell? ⟨w.heap.size,0,N⟩=Z (H (Z ⟨g,0,N⟩) c.ents.length r)/\W'.cell? ⟨wr.heap.size,0,N⟩=Z (H C cd.length cc)/\W'.cell? ⟨wr.heap.size,1,N⟩=Z (H E el.length ec)/\l.grownBy W' (Z g)from⟨(World.cell?_of_block (hg'.block _ sw (λe=>cs (by injection e with e;exact e.symm)))).trans k1,(World.cell?_of_block (hg'.block _ sa (λe=>bk (by injection e with e;exact e.symm)))).trans k2,(World.cell?_of_block (hg'.block _ sa (λe=>bk (by injection e with e;exact e.symm)))).trans k3,hg'⟩);have ai:=G (CpE.below a0.o BA);have TI:=G (λW(hb':By l W)(hg':l.grownBy W (Z g))=>(b2.o C cc W ((HC.o.below BA).below hb')).mono (R':=λe' W'=>∃v,e'=.returned v/\(W'.cell? ⟨w.heap.size,0,N⟩=Z (H (Z ⟨g,0,N⟩) c.ents.length r)/\W'.cell? ⟨wr.heap.size,0,N⟩=Z (H C cd.length cc)/\W'.cell? ⟨wr.heap.size,1,N⟩=Z (H E el.length ec)/\l.grownBy W' (Z g))/\(∃K k,v=H K cd.length k/\W'.ownsRow l.heap.size 3 1 (H K cd.length k) cd.length (cd.map (Value.int .i64))/\By l W')) (λe' W'⟨K,k,he,g1,g2⟩=>⟨_,he,SH.o W' (cT hg' g2),K,k,rfl,eR g1 hb'.size,tb hb' g2⟩));have TE:=G (λW(hb':By l W)(hg':l.grownBy W (Z g))=>(b0.o E ec W ((b5.o.below BA).below hb')).mono (R':=λe' W'=>∃v,e'=.returned v/\(W'.cell? ⟨w.heap.size,0,N⟩=Z (H (Z ⟨g,0,N⟩) c.ents.length r)/\W'.cell? ⟨wr.heap.size,0,N⟩=Z (H C cd.length cc)/\W'.cell? ⟨wr.heap.size,1,N⟩=Z (H E el.length ec)/\l.grownBy W' (Z g))/\(∃K k,v=H K el.length k/\W'.ownsRow W.heap.size 77 4 (H K el.length k) el.length (aB Elt.cells el)/\By l W'/\By W W')) (λe' W'⟨K,k,he,g1,g2⟩=>⟨_,he,SH.o W' (cT hg' g2),K,k,rfl,g1,tb hb' g2,g2⟩));have aw:=G BA;clear k1 k2 k3 BA;go_wp2_with fail;refine wp_region_held_drew (S:=λW'=>W'.cell? ⟨w.heap.size,0,N⟩=Z (H (Z ⟨g,0,N⟩) c.ents.length r)/\W'.cell? ⟨wr.heap.size,0,N⟩=Z (H C cd.length cc)/\W'.cell? ⟨wr.heap.size,1,N⟩=Z (H E el.length ec)/\l.grownBy W' (Z g)) oK_ (SH.o _ (eP (aP l _))) (λf=>?_);refine tK 0 21 ?_;refine tK 1 22 ?_;refine tK 2 23 ?_;refine tK 3 24 ?_;refine tK 4 25 ?_;refine tK 6 27 ?_;refine tK 7 28 ?_;refine qE 5 26 (TI.o _ (Below.refl _ _).drew (eP (aP l _))) ?_;clear f;rintro _ W5 f ⟨K,k,rfl,hK,ao⟩;refine qE 8 29 (TE.o _ ao f.2.2.2) ?_;clear f;rintro _ W6 f ⟨D,dd,rfl,hD,ap,af⟩;refine tK 9 30 ?_;refine tK 10 31 ?_;obtain⟨g',_,_,_,_,ab,_,_,cn,co,cp,a7,_⟩:=(ai.o.below ap).into.at hlt;obtain rfl:g=g':=by injection ab with ab;injection ab
  clear ab;have cq:(W6.setCell ⟨g,i*2,N⟩ (H K cd.length k)).frozen? ⟨g,i*2+1,N⟩=false:=by simpa using a7
  refine dJ (w':=(W6.setCell ⟨g,i*2,N⟩ (H K cd.length k)).setCell ⟨g,i*2+1,N⟩ (H D el.length dd)) (i:=11) N rfl rfl oK_ oR_ oS_ (SH.o _ (aC (p:=⟨g,i*2+1,N⟩) (aC (p:=⟨g,i*2,N⟩) (f.2.2.2) _) _)) ?_;try simp only[Act.put]
  refine wpAnyH_done oK_ ?_ _;have bl:=bK (cT HW.o aw.o) f.2.2.2
  have ag:=a3.o K k D dd l.heap.size W6 (ai.o.below ap) O (aG hK af) (eR hD ao.size) (λq hq e=>by
   have h1:=(aN hK hq).2
   have h2:=(aN hD e).1
   omega)
  have b6:=G bl;have b8:=G ag;clear f SH TI TE ai cn co cp a7 cq bl ag hK hD ao ap af a3 a0 aw XA ak X aj;go_wp2;go_roundw
  case rel=>exact⟨i+1,W6.heap.size,O,oN_,b8.o,aC (p:=⟨g,i*2+1,N⟩) (aC (p:=⟨g,i*2,N⟩) b6.o _) _⟩
  exact oI_
 obtain rfl:i=c.ents.length:=O;have a5:=X.o;obtain⟨c0,c1,c2,c3,c4⟩:=a5.k5;have aa:=aj.o;obtain⟨f0,f1,f2,f3,f4⟩:=aa.f5;obtain⟨g0,g1,g2,g3,g4⟩:=aa.k5;have T:w.heap.size+1<P.heap.size:=bo;have MF:CpE (((((wr.setCell ⟨w.heap.size+1,0,N⟩ (H o c.ents.length r)).setCell ⟨w.heap.size+1,1,N⟩ (H s c.grps.length y)).setCell ⟨w.heap.size+1,2,N⟩ (I J c.base)).setCell ⟨w.heap.size+1,3,N⟩ (I J c.second)).setCell ⟨w.heap.size+1,4,N⟩ (I J c.third)) P.heap.size (w.heap.size+1) o r c.ents c.ents.length V:=((((hm.off T ⟨w.heap.size+1,0,N⟩ rfl _).off T ⟨w.heap.size+1,1,N⟩ rfl _).off T ⟨w.heap.size+1,2,N⟩ rfl _).off T ⟨w.heap.size+1,3,N⟩ rfl _).off T ⟨w.heap.size+1,4,N⟩ rfl _;have ZF:Box (((((wr.setCell ⟨w.heap.size+1,0,N⟩ (H o c.ents.length r)).setCell ⟨w.heap.size+1,1,N⟩ (H s c.grps.length y)).setCell ⟨w.heap.size+1,2,N⟩ (I J c.base)).setCell ⟨w.heap.size+1,3,N⟩ (I J c.second)).setCell ⟨w.heap.size+1,4,N⟩ (I J c.third)) (w.heap.size+1) 32 [H o c.ents.length r,H s c.grps.length y,I J c.base,I J c.second,I J c.third]:=((((aa.set 0 _).set 1 _).set 2 _).set 3 _).set 4 _;have GF:wr.grownBy (((((wr.setCell ⟨w.heap.size+1,0,N⟩ (H o c.ents.length r)).setCell ⟨w.heap.size+1,1,N⟩ (H s c.grps.length y)).setCell ⟨w.heap.size+1,2,N⟩ (I J c.base)).setCell ⟨w.heap.size+1,3,N⟩ (I J c.second)).setCell ⟨w.heap.size+1,4,N⟩ (I J c.third)) (Z (w.heap.size+1)):=aC (p:=⟨w.heap.size+1,4,N⟩) (aC (p:=⟨w.heap.size+1,3,N⟩) (aC (p:=⟨w.heap.size+1,2,N⟩) (aC (p:=⟨w.heap.size+1,1,N⟩) (bR wr ⟨w.heap.size+1,0,N⟩ _) _) _) _) _;have ch:∃Wf,(((((wr.setCell ⟨w.heap.size+1,0,N⟩ (H o c.ents.length r)).setCell ⟨w.heap.size+1,1,N⟩ (H s c.grps.length y)).setCell ⟨w.heap.size+1,2,N⟩ (I J c.base)).setCell ⟨w.heap.size+1,3,N⟩ (I J c.second)).setCell ⟨w.heap.size+1,4,N⟩ (I J c.third))=Wf:=⟨_,rfl⟩;have ay:=G hg;clear hm hg a5 aa X aj;go_wp2_with fail;obtain⟨Wf,bh⟩:=ch;try rw[bh]at MF ZF GF|-
 clear bh;obtain⟨z0,ct,z2,z3,z4⟩:=ZF.k5;(try simp only[Exit.inBlock,Exit.then]);refine bodyPost_ret (WW rfl _ _ (b:=w.heap.size+1) rfl z0 ct z2 z3 z4) rfl ?_;have bj:Chg (λq=>blk o=Z q\/q=w.heap.size+1) W2 Wf:=(Chg.of_grown ay.o (λq e=>.inl e)).trans (Chg.of_grown GF (λq e=>.inr (by injection e with e;exact e.symm)))
 have h1:jM Wf s c.grps:=bj.sl (Sl.of_own a1.o) (λ_ q hq hS=>by
  have b1:=Q1.o q hq
  rcases hS with g|g
  ·have:=R.o q g;omega
  ·omega)
 have bel:By w Wf:=b4.o.trans (bj.below (n:=w.heap.size) O (λk hk=>by
  rcases hk with g|g
  ·have:=R.o k g;omega
  ·omega))
 have o1:=a1.o.kept ay.o (by
  rw[bH]
  cases hq:blk s with
  |none=>exact .inl rfl
  | some q=>exact .inr (λe=>by have:=Q1.o q hq;have:=R.o q e.symm;omega))
 have ce:=eR (o1.kept GF (by
  rw[bH]
  cases hq:blk s with
  |none=>exact .inl rfl
  | some q=>exact .inr (λe=>by have:=Q1.o q hq;injection e with e;omega))) (show w.heap.size<=W0.heap.size by omega)
 exact⟨o,r,s,y,P.heap.size,w.heap.size+1,V,rfl,MF,ce,λq hq=>(Q1.o q hq).2,ax.o o s Wf MF.into.is h1,O,bo,bel⟩
end
section
open Go.RowKit Go.Maps Go.WideMaps Tl
def aI{α:Type}(f:α->α)(xs:List α)(i:Nat):List α:=(xs.take i).map f++xs.drop i
section
variable {α:Type}(f:α->α)(xs:List α)
theorem kE:aI f xs 0=xs:=by unfold aI;simp
theorem gF(i:Nat):(aI f xs i).length=xs.length:=by unfold aI;simp;omega
theorem mK{i:Nat}(h:xs.length<=i):aI f xs i=xs.map f:=by unfold aI;rw[List.take_of_length_le h,List.drop_of_length_le h,List.append_nil]
theorem iI{i:Nat}(h:i<xs.length)(h':i<(aI f xs i).length):(aI f xs i)[i]=xs[i]:=by
 have e:(aI f xs i)[i]?=xs[i]?:=by
  unfold aI;rw[List.getElem?_append_right oU_];simp[Nat.min_eq_left (Nat.le_of_lt h)]
 rw[List.getElem?_eq_getElem h,List.getElem?_eq_getElem h']at e;exact Option.some.inj e
theorem kF{i:Nat}(h:i<xs.length):(aI f xs i).set i (f xs[i])=aI f xs (i+1):=by
 unfold aI;rw[List.set_append,if_neg oU_,List.take_add_one,List.map_append,List.append_assoc,List.getElem?_eq_getElem h];have:i-(List.map f (List.take i xs)).length=0:=oU_;rw[this,List.drop_eq_getElem_cons h];rfl
end
theorem uV{α:Type}(f:α->α)(xs:List α)(n:Nat)(h:xs.length=n+1)(x:α):(aI f xs n).set n x=(xs.take n).map f++[x]:=by
 unfold aI;rw[List.set_append,if_neg oU_];have b:n-(List.map f (List.take n xs)).length=0:=oU_;have a:(xs.drop n).length=1:=by rw[List.length_drop];omega
 rw[b];match hd:xs.drop n with
 | []=>rw[hd]at a;simp at a
 | [y]=>rfl
 |_::_::_=>rw[hd]at a;simp at a
theorem oE{w:Wv}{base:Nat}{e:TypeId}{size n c:Nat}{A:Oa}{xs:Lv}(h:w.ownsRow base e size (H A n c) n xs):n<=c:=by
 rcases h.2 with⟨a,f⟩|⟨g,b,d,a,_,_,i,_⟩
 ·omega
 injection a with _ _ h4;omega
theorem iZ.kept{w w':Wv}{lo hi q:Nat}{v:Value×Value}{x:Ent}(h:iZ w lo hi v x)(hg:w.grownBy w' (Z q))(hq:q<lo\/hi<=q):iZ w' lo hi v x:=by
 obtain⟨C,c,E,d,i,a,b,f,g,j⟩:=h;refine⟨C,c,E,d,i,a.kept hg ?_,b.kept hg ?_,f,g,j⟩
 ·rw[bH]
  cases hc:blk C with
  |none=>exact .inl rfl
  |some p=>exact .inr (λe=>by have:=(aN a hc).1;have:=f p hc;injection e with e;omega)
 rw[bH];cases hc:blk E with
 |none=>exact .inl rfl
 |some p=>exact .inr (λe=>by have:=(aN b hc).1;have:=g p hc;injection e with e;omega)
structure OpV(w:Wv)(base z:Nat)(B:Oa)(cap:Nat)(vs:List (Value×Value))(m:Nat->Nat)(top:Nat)(xs:List Ent):Prop where
 len:vs.length=xs.length
 row:w.ownsRow base 75 2 (H B xs.length cap) xs.length (aB enC vs)
 mono:∀i,i<xs.length->m i<=m (i+1)
 mt:m xs.length<=top
 tw:top<=w.heap.size
 bm:∀q,blk B=Z q->q<m 0
 zm:z<m 0
 rows:∀i,(hi:i<xs.length)->(hv:i<vs.length)->iZ w (m i) (m (i+1)) vs[i] xs[i]
section
variable {w w':Wv}{base z:Nat}{B:Oa}{cap:Nat}{vs:List (Value×Value)}{m:Nat->Nat}{top:Nat}{xs:List Ent}
theorem CpE.open(h:CpE w base z B cap xs xs.length top):∃vs m,OpV w base z B cap vs m top xs:=by
 obtain⟨vs,m,b,c,k,d,e,a,f,g,j⟩:=h.ex;exact⟨vs,m,b,c,d,e,a,f,g,λi hi hv=>j i hi hi hv⟩
theorem OpV.close(h:OpV w base z B cap vs m top xs):CpE w base z B cap xs xs.length top:=by
 refine⟨vs,m,h.len,h.row,λi hi hv=>?_,h.mono,h.mt,h.tw,h.bm,h.zm,λi _ hi hv=>h.rows i hi hv⟩;obtain⟨C,c,E,d,f,a,b,g,j,k⟩:=h.rows i hi hv;have hm:=jW h.mono i O;have hz:=h.zm;refine⟨C,c,E,d,f,⟨Sl.of_own a,λ_ q hq=>⟨λe=>?_,?_⟩⟩,⟨Sl.of_own b,λ_ q hq=>⟨λe=>?_,?_⟩⟩⟩
 ·have:=h.bm q e;have:=(aN a hq).1;omega
 ·have:=(aN a hq).1;omega
 ·have:=h.bm q e;have:=(aN b hq).1;omega
 have:=(aN b hq).1;omega
theorem OpV.below(h:OpV w base z B cap vs m top xs)(hb:By w w'):OpV w' base z B cap vs m top xs:=
 ⟨h.len,aG h.row hb,h.mono,h.mt,Nat.le_trans h.tw hb.size,h.bm,h.zm,λi hi hv=>(h.rows i hi hv).below hb⟩
theorem OpV.low(h:OpV w base z B cap vs m top xs){p:Addr}(hp:p.block<base)(v:Value):OpV (w.setCell p v) base z B cap vs m top xs:=by
 refine⟨h.len,ownsRow_setCell_below h.row hp v,h.mono,h.mt,by simpa using h.tw,h.bm,h.zm,λi hi hv=>(h.rows i hi hv).set ?_ v⟩;obtain⟨g,rfl,hg,_⟩:=jF h.row O;have:=h.bm g rfl;have:=jW h.mono i O;omega
theorem OpV.at(h:OpV w base z B cap vs m top xs){i:Nat}(hi:i<xs.length)(hv:i<vs.length):∃g C c E d,B=Z ⟨g,0,N⟩/\base<=g/\g<m 0/\vs[i]=(H C xs[i].codes.length c,H E xs[i].elems.length d)/\w.cell? ⟨g,i*2,N⟩=Z (H C xs[i].codes.length c)/\w.cell? ⟨g,i*2+1,N⟩=Z (H E xs[i].elems.length d):=by
 obtain⟨g,rfl,b,e⟩:=jF h.row O;obtain⟨C,c,E,d,a,_⟩:=h.rows i hi hv;have gt:=λj(hj:j<2)=>(h.row.cellAt (i*2+j) O).trans (gR enC 2 (λ_=>rfl) vs i j hv hj)
 exact⟨g,C,c,E,d,rfl,b,h.bm g rfl,a,(gt 0 O).trans (by rw[a];rfl),(gt 1 O).trans (by rw[a];rfl)⟩
theorem OpV.elt(h:OpV w base z B cap vs m top xs){i:Nat}(hi:i<xs.length)(hv:i<vs.length){C:Oa}{n c:Nat}{E:Oa}{l d:Nat}(hvi:vs[i]=(H C n c,H E l d)){j:Nat}(hj:j<xs[i].elems.length):
  ∃q,E=Z ⟨q,0,N⟩/\base<=q/\m 0<=q/\q<top/\(∀f,f<4->w.cell? ⟨q,j*4+f,N⟩=xs[i].elems[j].cells[f]?)/\(∀o,w.frozen? ⟨q,o,N⟩=false)/\
   ∀f v e',f<4->Elt.cells e'=(Elt.cells xs[i].elems[j]).set f v->OpV (w.setCell ⟨q,j*4+f,N⟩ v) base z B cap vs m top (xs.set i ⟨xs[i].codes,xs[i].elems.set j e'⟩):=by
 obtain⟨y,M,E',P,A,Q,r,R,D,F⟩:=h.rows i hi hv;rw[hvi]at A;obtain⟨s,t⟩:=Prod.mk.inj A;injection t with e1b1 e1b2 e1b3;subst e1b1;obtain⟨q,rfl,X,Y⟩:=jF r O;have aa:=D q rfl;have W:=jW h.mono i O
 have ab:∀k,i+k<=xs.length->m i<=m (i+k):=λk=>by
  induction k with
  |zero=>intro _;exact Nat.le_refl _
  |succ k ih=>intro hk;exact Nat.le_trans (ih O) (h.mono (i+k) O)
 have a:∀k,i+1+k<=xs.length->m (i+1)<=m (i+1+k):=λk=>by
  induction k with
  |zero=>intro _;exact Nat.le_refl _
  |succ k ih=>intro hk;exact Nat.le_trans (ih O) (h.mono (i+1+k) O)
 have x:m (i+1)<=top:=by
  have:=a (xs.length-(i+1)) O;rw[show i+1+(xs.length-(i+1))=xs.length by omega]at this;exact Nat.le_trans this h.mt
 obtain⟨g,rfl,S,T⟩:=jF h.row O;have V:=h.bm g rfl;refine⟨q,rfl,O,O,O,λf hf=>(r.cellAt (j*4+f) O).trans (gR Elt.cells 4 (λ_=>rfl) xs[i].elems j f hj hf),λo=>r.frozenAt _,λf v e' hf he'=>?_⟩;have b:w.grownBy (w.setCell ⟨q,j*4+f,N⟩ v) (Z q):=bR w ⟨q,j*4+f,N⟩ v;refine⟨by simpa using h.len,?_,by simpa using h.mono,by simpa using h.mt,by simpa using h.tw,h.bm,h.zm,λi' hi' hv'=>?_⟩
 ·have:=h.row.kept b (.inr (λe=>by have e:g=q:=Option.some.inj e;omega))
  simpa using this
 by_cases e:i=i'
 ·subst e
  rw[List.getElem_set_self];refine⟨y,M,Z ⟨q,0,N⟩,P,by rw[hvi,s];simp[e1b2,e1b3],?_,?_,R,D,F⟩
  ·refine Q.kept b ?_
   rw[bH];cases hc:blk y with
   |none=>exact .inl rfl
   |some p=>exact .inr (λe=>by injection e with e;exact F p hc (by rw[e];rfl))
  have L:=(r.stored (j*4+f) v).1;rw[jD Elt.cells 4 (λ_=>rfl) xs[i].elems j f v e' hj hf he']at L;simpa using L
 rw[List.getElem_set_ne e];refine(h.rows i' (by simpa using hi') hv').kept b ?_;by_cases hlt:i' < i
 ·right
  have:=jW (m:=λk=>m (i'+1+k)) (k:=i-(i'+1)) (λk hk=>h.mono (i'+1+k) O) (i-(i'+1)) (Nat.le_refl _);simp only[Nat.add_zero]at this;rw[show i'+1+(i-(i'+1))=i by omega]at this;omega
 left;have K:i' < xs.length:=by simpa using hi'
 have:=a (i' - (i+1)) O;rw[show i+1+(i' - (i+1))=i' by omega]at this;omega
end
section
variable {es:List Ent}{x:Ent}{i:Nat}{f:Bool}
theorem E_(h:nJ es x.codes i f):(es.take i).filter (λy=>decide (aE y.codes x.codes<0))=es.take i/\(es.take i).filter (λy=>decide (0<aE y.codes x.codes))=[]:=by
 have a:∀y∈es.take i,aE y.codes x.codes<0:=λy hy=>by
  obtain⟨t,ht,rfl⟩:=List.getElem_of_mem hy;rw[List.getElem_take];have:=h.le;rw[List.length_take]at ht;exact h.lo t O O
 exact⟨List.filter_eq_self.2 λy hy=>by simpa using a y hy,List.filter_eq_nil_iff.2 λy hy=>by have:=a y hy;simp;omega⟩
theorem xJ(h:nJ es x.codes i f):(es.drop i).filter (λy=>decide (aE y.codes x.codes<0))=[]:=by
 refine List.filter_eq_nil_iff.2 λy hy=>?_
 obtain⟨t,ht,rfl⟩:=List.getElem_of_mem hy;rw[List.getElem_drop];have a:i+t<es.length:=by rw[List.length_drop]at ht;omega
 have:=h.hi (i+t) a O;simp;omega
theorem VN(hs:es.Pairwise (λx y=>aE x.codes y.codes<0))(h:nJ es x.codes i false):eB es i x=putE es x:=by
 obtain⟨c,d⟩:=E_ h;have f:=xJ h;have b:¬∃g:i<es.length,aE es[i].codes x.codes=0:=by simpa using h.fd.symm
 unfold putE eB;conv=>rhs;rw[<-List.take_append_drop i es]
 rw[List.filter_append,List.filter_append,c,d,f,List.append_nil,List.nil_append];congr 2;refine(List.filter_eq_self.2 λy hy=>?_).symm;obtain⟨t,ht,rfl⟩:=List.getElem_of_mem hy;have a:i+t<es.length:=by rw[List.length_drop]at ht;omega
 rw[List.getElem_drop];have j:=h.hi (i+t) a O;simp only[decide_eq_true_eq];refine Int.lt_iff_le_and_ne.2 ⟨j,λe=>?_⟩;have hc:=(mP _ _).1 e.symm;by_cases ht0:t=0
 ·subst ht0
  exact b ⟨O,e.symm⟩
 have k:=List.pairwise_iff_getElem.1 hs i (i+t) O a O;rw[hc]at k;have l:=h.hi i O (Nat.le_refl _);omega
theorem VO(hs:es.Pairwise (λx y=>aE x.codes y.codes<0))(h:nJ es x.codes i true):∃hi:i<es.length,es[i].codes=x.codes/\es.set i x=putE es x:=by
 obtain⟨c,d⟩:=E_ h;have e:=xJ h;obtain⟨hi,b⟩:∃g:i<es.length,aE es[i].codes x.codes=0:=by simpa using h.fd.symm
 have hc:=(mP _ _).1 b;refine⟨hi,hc,?_⟩;unfold putE;conv=>rhs;rw[<-List.take_append_drop i es]
 rw[List.filter_append,List.filter_append,c,d,e,List.append_nil,List.nil_append];rw[List.set_eq_take_append_cons_drop,if_pos hi];congr 2;rw[List.drop_eq_getElem_cons hi,List.filter_cons,if_neg (by simp[b])];refine(List.filter_eq_self.2 λy hy=>?_).symm;obtain⟨t,ht,rfl⟩:=List.getElem_of_mem hy;have a:i+1+t<es.length:=by rw[List.length_drop]at ht;omega
 rw[List.getElem_drop];have f:=List.pairwise_iff_getElem.1 hs i (i+1+t) hi a O;rw[hc]at f;simp only[decide_eq_true_eq];rw[Pk.cmp_neg];omega
end
theorem pM{α:Type}{xs:List α}{i:Nat}(hi:i<=xs.length)(x:α):(eB xs i x).length=xs.length+1:=by unfold eB;simp;omega
theorem yX{α:Type}{xs:List α}{i j:Nat}(x:α)(hj:j<i)(hi:j<xs.length)(h:j<(eB xs i x).length):(eB xs i x)[j]=xs[j]:=by
 have e:(eB xs i x)[j]?=xs[j]?:=by unfold eB;rw[List.getElem?_append_left oU_,List.getElem?_take,if_pos hj]
 rw[List.getElem?_eq_getElem h,List.getElem?_eq_getElem hi]at e;exact Option.some.inj e
theorem yV{α:Type}{xs:List α}{i:Nat}(x:α)(hi:i<=xs.length)(h:i<(eB xs i x).length):(eB xs i x)[i]=x:=by
 have e:(eB xs i x)[i]?=Z x:=by
  unfold eB;rw[List.getElem?_append_right oU_];simp[Nat.min_eq_left hi]
 rw[List.getElem?_eq_getElem h]at e;exact Option.some.inj e
theorem yW{α:Type}{xs:List α}{i j:Nat}(x:α)(hj:i<j)(hi:j-1<xs.length)(h:j<(eB xs i x).length):(eB xs i x)[j]=xs[j-1]:=by
 have e:(eB xs i x)[j]?=xs[j-1]?:=by
  unfold eB;rw[List.getElem?_append_right oU_];have hm:(xs.take i).length=i:=oU_;rw[hm,show j-i=(j-i-1)+1 by omega,List.getElem?_cons_succ,List.getElem?_drop,show i+(j-i-1)=j-1 by omega]
 rw[List.getElem?_eq_getElem h,List.getElem?_eq_getElem hi]at e;exact Option.some.inj e
section
variable {w w':Wv}{base z:Nat}{A:Oa}{cap:Nat}{vs:List (Value×Value)}{m:Nat->Nat}{top:Nat}{xs:List Ent}
theorem OpV.hdr(h:OpV w base z A cap vs m top xs)(hg:w.grownBy w' (blk A)):∀i,(hi:i<xs.length)->(hv:i<vs.length)->fH w' vs[i] xs[i]:=λi hi hv=>by
 obtain⟨C,c,E,d,f,a,b,g,j,k⟩:=h.rows i hi hv;have hm:=jW h.mono i O;refine⟨C,c,E,d,f,Sl.of_own (a.kept hg ?_),Sl.of_own (b.kept hg ?_)⟩
 ·rw[bH]
  cases hc:blk C with
  |none=>exact .inl rfl
  |some q=>exact .inr (λe=>by have:=h.bm q e.symm;have:=(aN a hc).1;omega)
 rw[bH];cases hc:blk E with
 |none=>exact .inl rfl
 |some q=>exact .inr (λe=>by have:=h.bm q e.symm;have:=(aN b hc).1;omega)
theorem eQ{Z:Nat->Prop}{base:Nat}{e:TypeId}{size n c:Nat}{A:Oa}{cs:Lv}{w w':Wv}(h:w.ownsRow base e size (H A n c) n cs)(hc:Chg Z w w')(hn:∀q,blk A=some q->¬Z q):w'.ownsRow base e size (H A n c) n cs:=by
 refine⟨h.1,?_⟩;rcases h.2 with f|⟨g,d,a,b,f,i,j⟩
 ·exact .inl f
 refine .inr ⟨g,d,a,b,f,?_,j⟩;injection b with b;exact(hc.block g (Box.lt (w:=w) (t:=e) (cs:=a.toList) (by simpa[Box]using i)) (hn g (by rw[b];rfl))).trans i
theorem OpV.hdr2{w2:Wv}{Z:Nat->Prop}(h:OpV w base z A cap vs m top xs)(hg:w.grownBy w' (blk A))(hg2:Chg Z w' w2)(hzb:∀q,Z q->q<base):∀i,(hi:i<xs.length)->(hv:i<vs.length)->fH w2 vs[i] xs[i]:=λi hi hv=>by
 obtain⟨C,c,E,d,f,a,b,n,o,p⟩:=h.rows i hi hv;have hm:=jW h.mono i O;obtain⟨g,j,k,_⟩:=jF h.row O;have l:=h.bm g (by rw[j];rfl);have kp:∀(K:Oa)(q:Nat),blk K=some q->m i<=q->some q≠blk A:=λK q hq hle e=>by have:=h.bm q e.symm;omega
 have kz:∀q,m i<=q->¬Z q:=λq hle e=>by have:=hzb q e;omega
 refine⟨C,c,E,d,f,Sl.of_own (eQ (a.kept hg ?_) hg2 (λq hq=>kz q (aN a hq).1)),Sl.of_own (eQ (b.kept hg ?_) hg2 (λq hq=>kz q (aN b hq).1))⟩
 ·rw[bH]
  cases hc:blk C with
  |none=>exact .inl rfl
  |some q=>exact .inr (kp C q hc (aN a hc).1)
 rw[bH];cases hc:blk E with
 |none=>exact .inl rfl
 |some q=>exact .inr (kp E q hc (aN b hc).1)
theorem nF{C:Oa}{cs:Lv}{w2:Wv}{Z:Nat->Prop}(h:Sl w C cs)(hg:w.grownBy w' (blk A))(hg2:Chg Z w' w2)(hne:cs≠[]->∀q,blk C=some q->blk A≠some q/\¬Z q):Sl w2 C cs:=
 ((Chg.of_grown (S:=λq=>blk A=some q\/Z q) hg (λ_ e=>.inl e)).trans (hg2.mono (λ_ _ e=>.inr e))).sl h (λhn q hq hS=>by
  rcases hS with g|g
  ·exact(hne hn q hq).1 g
  ·exact(hne hn q hq).2 g)
theorem nE{C:Oa}{cs:Lv}(h:Sl w C cs)(hg:w.grownBy w' (blk A))(hne:cs≠[]->∀q,blk C=Z q->blk A≠Z q):Sl w' C cs:=
 (Chg.of_grown (S:=λq=>blk A=Z q) hg (λ_ e=>e)).sl h hne
theorem xW{base' k i:Nat}{A':Oa}{y:Value×Value}{x:Ent}(hl:vs.length=xs.length)(hh:∀j,(hj:j<xs.length)->(hv:j<vs.length)->fH w' vs[j] xs[j])(hx:fH w' y x)(hi:i<=xs.length)(ho:w'.ownsRow base' 75 2 (H A' (xs.length+1) k) (xs.length+1) (aB enC (eB vs i y))):gH w' A' (eB xs i x):=by
 refine⟨eB vs i y,by rw[pM O,pM hi,hl],Sl.of_own ho,λj hj hv=>?_⟩;rw[pM hi]at hj;rcases Nat.lt_trichotomy j i with a|a|a
 ·rw[yX y a O,yX x a O];exact hh j O O
 ·subst a;rw[yV y O,yV x hi];exact hx
 rw[yW y a O,yW x a O];exact hh (j-1) O O
theorem xX{base' k i:Nat}{A':Oa}{y:Value×Value}{x:Ent}(hl:vs.length=xs.length)(hh:∀j,(hj:j<xs.length)->(hv:j<vs.length)->fH w' vs[j] xs[j])(hx:fH w' y x)(ho:w'.ownsRow base' 75 2 (H A' xs.length k) xs.length (aB enC (vs.set i y))):gH w' A' (xs.set i x):=by
 refine⟨vs.set i y,by simp[hl],Sl.of_own ho,λj hj hv=>?_⟩;by_cases e:i=j
 ·subst e;rw[List.getElem_set_self,List.getElem_set_self];exact hx
 rw[List.getElem_set_ne e,List.getElem_set_ne e];exact hh j (by simpa using hj) (by simpa using hv)
end
theorem kT{k:Nat}{fn:Func}(hr:fn.results=#[.cell k 32])(tmps:Array Value)(w:Wv){b:Nat}{v0 v1 v2 v3 v4:Value}(ha:tmps.getD k undef=.pointer (Z ⟨b,0,N⟩))
  (c0:w.cell? ⟨b,0,N⟩=Z v0) (c1:w.cell? ⟨b,1,N⟩=Z v1) (c2:w.cell? ⟨b,2,N⟩=Z v2) (c3:w.cell? ⟨b,3,N⟩=Z v3) (c4:w.cell? ⟨b,4,N⟩=Z v4) :
  (results fn tmps).run prog w=.ok (.agg #[v0,v1,v2,v3,v4]) w:=by
 unfold results;rw[hr];simp only[ha,List.mapM_toArray,List.mapM_cons,List.mapM_nil,asAddr];go_simp
theorem TX{w:Wv}{base z:Nat}{A:Oa}{cap:Nat}{vs:List (Value×Value)}{m:Nat->Nat}{top:Nat}{xs:List Ent}(h:OpV w base z A cap vs m top xs):∀v∈aB enC vs,v.oneCell'=true:=by
 intro u hu;obtain⟨p,hp,hg⟩:=List.mem_flatMap.1 hu;obtain⟨j,hj,rfl⟩:=List.getElem_of_mem hp;obtain⟨C,c,E,d,e,_⟩:=h.rows j (by have:=h.len;omega) hj;simp only[enC,List.mem_cons,List.not_mem_nil,or_false]at hg;rcases hg with rfl|rfl
 ·rw[e];rfl
 rw[e];rfl
def rB(base:Nat)(D E:Oa)(A:Oa)(B:Oa)(b:Nat)(c:Col)(x:Ent)(w:Wv)(e:Ending)(w':Wv):Prop:=∃A' a',e=.returned (aJ A' (putE c.ents x).length a' B c.grps.length b { c with ents:=putE c.ents x })/\aO w' A' (putE c.ents x).length B c.grps.length { c with ents:=putE c.ents x }/\w.grownBy w' (blk A)/\∀Z W',Chg Z w' W'->(∀q,Z q->q<base/\q<w.heap.size/\blk B≠some q/\blk D≠some q/\blk E≠some q)->aO W' A' (putE c.ents x).length B c.grps.length { c with ents:=putE c.ents x }
theorem BL(base zz:Nat)(A:Oa)(a:Nat)(vs:List (Value×Value))(m:Nat->Nat)(top:Nat)(c:Col)(B:Oa)(b:Nat)(D:Oa)(dk:Nat)(d:Li)(E:Oa)(ek:Nat)(el:List Elt)(w:Wv)
  (hO:OpV w base zz A a vs m top c.ents) (hG:jM w B c.grps) (hGB:c.grps≠[]->∀q,blk B=some q->blk A≠some q) (hD:aA w D d) (hDA:d≠[]->∀q,blk D=some q->blk A≠some q) (hE:cM w E el) (hEA:el≠[]->∀q,blk E=some q->blk A≠some q)
  (hs:c.ents.Pairwise (λx y=>aE x.codes y.codes<0)) (hcz:aQ c) (hdl:d.length<=1048576) (hnm:∀g∈c.grps,g.name.size<=9223372036854775807) (hbw:base<=w.heap.size) :
  Calls prog 37 #[aJ A c.ents.length a B c.grps.length b c,H D d.length dk,H E el.length ek] w (rB base D E A B b c ⟨d,el⟩ w):=by
 have B0:By w (((w.alloc (.cells #[H A c.ents.length a,H B c.grps.length b,I J c.base,I J c.second,I J c.third] 32)).alloc (.cells #[H N 0 0,H N 0 0,I J 0,I J 0,I J 0] 32)).alloc (.cells #[H D d.length dk,H E el.length ek] 75)):=((ba _ _).alloc L _).alloc oU_ _;have X0:Box (((w.alloc (.cells #[H A c.ents.length a,H B c.grps.length b,I J c.base,I J c.second,I J c.third] 32)).alloc (.cells #[H N 0 0,H N 0 0,I J 0,I J 0,I J 0] 32)).alloc (.cells #[H D d.length dk,H E el.length ek] 75)) w.heap.size 32 [H A c.ents.length a,H B c.grps.length b,I J c.base,I J c.second,I J c.third]:=((Box.new w 32 [H A c.ents.length a,H B c.grps.length b,I J c.base,I J c.second,I J c.third] rfl).below (ba _ _) L).below (ba _ _) oU_;have X1:Box (((w.alloc (.cells #[H A c.ents.length a,H B c.grps.length b,I J c.base,I J c.second,I J c.third] 32)).alloc (.cells #[H N 0 0,H N 0 0,I J 0,I J 0,I J 0] 32)).alloc (.cells #[H D d.length dk,H E el.length ek] 75)) (w.heap.size+1) 32 [H N 0 0,H N 0 0,I J 0,I J 0,I J 0]:=(Box.new (w.alloc (.cells #[H A c.ents.length a,H B c.grps.length b,I J c.base,I J c.second,I J c.third] 32)) 32 [H N 0 0,H N 0 0,I J 0,I J 0,I J 0] L).below (ba _ _) L;have X2:Box (((w.alloc (.cells #[H A c.ents.length a,H B c.grps.length b,I J c.base,I J c.second,I J c.third] 32)).alloc (.cells #[H N 0 0,H N 0 0,I J 0,I J 0,I J 0] 32)).alloc (.cells #[H D d.length dk,H E el.length ek] 75)) (w.heap.size+2) 75 [H D d.length dk,H E el.length ek]:=Box.new ((w.alloc (.cells #[H A c.ents.length a,H B c.grps.length b,I J c.base,I J c.second,I J c.third] 32)).alloc (.cells #[H N 0 0,H N 0 0,I J 0,I J 0,I J 0] 32)) 75 [H D d.length dk,H E el.length ek] L;have ce:∃W0,(((w.alloc (.cells #[H A c.ents.length a,H B c.grps.length b,I J c.base,I J c.second,I J c.third] 32)).alloc (.cells #[H N 0 0,H N 0 0,I J 0,I J 0,I J 0] 32)).alloc (.cells #[H D d.length dk,H E el.length ek] 75))=W0:=⟨_,rfl⟩;have KS:=G (λW(hb:By w W)=>JT A c.ents.length a D d.length dk c.ents d W ((hO.below hb).close.into.is) (hD.below hb) rfl rfl hcz.n hdl (λi hi=>(hcz.e i hi).1) hs);unfold vK at KS;have t:=G hO;have HG:=G hG;have aj:=G hGB;have HD:=G hD;have ah:=G hDA;have HE:=G hE;have ai:=G hEA;have bz:=G (λi h=>VN (es:=c.ents) (x:=⟨d,el⟩) (i:=i) hs h);have b0:=G (λi h=>VO (es:=c.ents) (x:=⟨d,el⟩) (i:=i) hs h);have ak:=G hnm;have ch:=hcz.n;clear hO hG hGB hD hDA hE hEA hs hnm hcz;unfold aJ;go_enter func37,ntmps37;go_upto_region 2 with(fail)
 obtain⟨W0,bl⟩:=ce;try rw[bl]at B0 X0 X1 X2|-
 clear bl;have k0:=X0.c 0 rfl;have l0:=X0.lt;have l1:=X1.lt;have l2:=X2.lt;have cj:=B0.size;have bw:=G B0;have b4:=G X0;have b5:=G X1;have b6:=G X2;have bd:=G (KS.o W0 B0);clear X0 X1 X2 B0 KS;go_wp2_with fail;refine bd.o.mono ?_
 rintro e v ⟨i,f,rfl,a3,S⟩;have bc:=G a3;have Q:=a3.le;have dj:=S.size;have a0:=bw.o.trans (S.mono cj);have V:=G (t.o.below a0);have X:=G (b4.o.below S l0);have M:=G (b5.o.below S l1);have bg:=G (b6.o.below S l2);have a9:=G a0;clear a3 S a0 bd k0;cases f with
 |true=>
  obtain⟨hi,cg,ag⟩:=b0.o i bc.o;have ao:=t.o.len;obtain⟨k,C,cc,E0,ec,rfl,de,df,ci,ca,cb⟩:=V.o.at hi O;have dg:k<w.heap.size:=(aN t.o.row rfl).2;have fa:v.frozen? ⟨k,i*2,N⟩=false:=V.o.row.frozenAt _;have fb:v.frozen? ⟨k,i*2+1,N⟩=false:=V.o.row.frozenAt _;have x0:=X.o.c 0 rfl;obtain⟨y0,y1⟩:=bg.o.k2;have ar:¬k=w.heap.size:=O;have ad:¬k=w.heap.size+1:=O;have cs:¬k=w.heap.size+2:=O;have dh:(i:Int)<(c.ents.length:Int):=O;have R1:=(V.o.row.stored (i*2+0) (H D d.length dk)).1;rw[jD enC 2 (λ_=>rfl) vs i 0 _ (H D d.length dk,vs[i].2) O O rfl]at R1;have R2:=(R1.stored (i*2+1) (H E el.length ek)).1;rw[jD enC 2 (λ_=>rfl) (vs.set i (H D d.length dk,vs[i].2)) i 1 _ (H D d.length dk,H E el.length ek) oU_ O (by rw[List.getElem_set_self];rfl),List.set_set]at R2;simp only[Nat.add_zero]at R2;have G2:w.grownBy ((v.setCell ⟨k,i*2,N⟩ (H D d.length dk)).setCell ⟨k,i*2+1,N⟩ (H E el.length ek)) (some k):=aC (p:=⟨k,i*2+1,N⟩) (aC (p:=⟨k,i*2,N⟩) (cT (aP w _) a9.o) _) _;have K:=dS (dS X.o ⟨k,i*2,N⟩ (λe=>ar e.symm) (H D d.length dk)) ⟨k,i*2+1,N⟩ (λe=>ar e.symm) (H E el.length ek);have j:=dS (dS M.o ⟨k,i*2,N⟩ (λe=>ad e.symm) (H D d.length dk)) ⟨k,i*2+1,N⟩ (λe=>ad e.symm) (H E el.length ek);have WE:∃r,((v.setCell ⟨k,i*2,N⟩ (H D d.length dk)).setCell ⟨k,i*2+1,N⟩ (H E el.length ek))=r:=⟨_,rfl⟩;have bm:(putE c.ents ⟨d,el⟩).length=c.ents.length:=by rw[<-ag,List.length_set]
  have aq:=G ag;have ax:=G bm;clear ag bm cg ci R1;go_upto_region 6 with(fail)
  obtain⟨r,aa⟩:=WE;try rw[aa]at R2 G2 K j|-
  clear aa ca cb fa fb x0 y0 y1;have M:=G j;have HR:=G R2;have av:=G G2;have aw:=U (some k≠some (w.heap.size+1)) (λe=>ad (Option.some.inj e));obtain⟨c0,c1,c2,c3,c4⟩:=K.k5;have f0:=j.free 0;have g0:=j.c 0 rfl;have f1:=j.free 1;have g1:=j.c 1 rfl;have f2:=j.free 2;have R:=j.c 2 rfl;have f3:=j.free 3;have g3:=j.c 3 rfl;have f4:=j.free 4;have g4:=j.c 4 rfl;have ZF:Box (((((r.setCell ⟨w.heap.size+1,0,N⟩ (H (some ⟨k,0,N⟩) c.ents.length a)).setCell ⟨w.heap.size+1,1,N⟩ (H B c.grps.length b)).setCell ⟨w.heap.size+1,2,N⟩ (I J c.base)).setCell ⟨w.heap.size+1,3,N⟩ (I J c.second)).setCell ⟨w.heap.size+1,4,N⟩ (I J c.third)) (w.heap.size+1) 32 [H (some ⟨k,0,N⟩) c.ents.length a,H B c.grps.length b,I J c.base,I J c.second,I J c.third]:=(((((M.o.set 0 (H (some ⟨k,0,N⟩) c.ents.length a)).set 1 (H B c.grps.length b)).set 2 (I J c.base)).set 3 (I J c.second)).set 4 (I J c.third));have GF:r.grownBy (((((r.setCell ⟨w.heap.size+1,0,N⟩ (H (some ⟨k,0,N⟩) c.ents.length a)).setCell ⟨w.heap.size+1,1,N⟩ (H B c.grps.length b)).setCell ⟨w.heap.size+1,2,N⟩ (I J c.base)).setCell ⟨w.heap.size+1,3,N⟩ (I J c.second)).setCell ⟨w.heap.size+1,4,N⟩ (I J c.third)) (some (w.heap.size+1)):=aC (p:=⟨w.heap.size+1,4,N⟩) (aC (p:=⟨w.heap.size+1,3,N⟩) (aC (p:=⟨w.heap.size+1,2,N⟩) (aC (p:=⟨w.heap.size+1,1,N⟩) (aC (p:=⟨w.heap.size+1,0,N⟩) (aP r _) _) _) _) _) _;have o:w.grownBy (((((r.setCell ⟨w.heap.size+1,0,N⟩ (H (some ⟨k,0,N⟩) c.ents.length a)).setCell ⟨w.heap.size+1,1,N⟩ (H B c.grps.length b)).setCell ⟨w.heap.size+1,2,N⟩ (I J c.base)).setCell ⟨w.heap.size+1,3,N⟩ (I J c.second)).setCell ⟨w.heap.size+1,4,N⟩ (I J c.third)) _:=(iT (iT (iT (iT (iT av.o ⟨w.heap.size+1,0,N⟩ oD_ (H (some ⟨k,0,N⟩) c.ents.length a)) ⟨w.heap.size+1,1,N⟩ oD_ (H B c.grps.length b)) ⟨w.heap.size+1,2,N⟩ oD_ (I J c.base)) ⟨w.heap.size+1,3,N⟩ oD_ (I J c.second)) ⟨w.heap.size+1,4,N⟩ oD_ (I J c.third));have ay:∃Wf,(((((r.setCell ⟨w.heap.size+1,0,N⟩ (H (some ⟨k,0,N⟩) c.ents.length a)).setCell ⟨w.heap.size+1,1,N⟩ (H B c.grps.length b)).setCell ⟨w.heap.size+1,2,N⟩ (I J c.base)).setCell ⟨w.heap.size+1,3,N⟩ (I J c.second)).setCell ⟨w.heap.size+1,4,N⟩ (I J c.third))=Wf:=⟨_,rfl⟩;clear K j R2 G2;go_wp2_with fail;obtain⟨Wf,ab⟩:=ay;try rw[ab]at ZF GF o|-
  clear ab;obtain⟨z0,z1,z2,z3,z4⟩:=ZF.k5;(try simp only[Exit.inBlock,Exit.then]);refine bodyPost_ret (kT rfl _ _ (b:=w.heap.size+1) rfl z0 z1 z2 z3 z4) rfl ?_;have hR:=HR.o.kept GF (.inr aw.o);have hx:fH Wf (H D d.length dk,H E el.length ek) ⟨d,el⟩:=⟨D,dk,E,ek,rfl,nE (A:=some ⟨k,0,N⟩) HD.o o (λh=>ah.o (by rintro rfl;exact h rfl)),nE (A:=some ⟨k,0,N⟩) HE.o o (λh=>ai.o (by rintro rfl;exact h rfl))⟩;have n:=xX (i:=i) t.o.len (t.o.hdr o) hx hR;rw[aq.o]at n;refine⟨some ⟨k,0,N⟩,a,by rw[ax.o];rfl,⟨n,nE (A:=some ⟨k,0,N⟩) HG.o o (λh=>aj.o (by rintro e;rw[e]at h;exact h rfl)),rfl,rfl,ak.o⟩,o,λZ W' R hZ=>?_⟩;have a2:=eQ hR R (λq e z=>by have e:k=q:=Option.some.inj e;have:=(hZ q z).1;have:=(aN t.o.row (A:=some ⟨k,0,N⟩) rfl).1;omega);have a4:fH W' (H D d.length dk,H E el.length ek) ⟨d,el⟩:=⟨D,dk,E,ek,rfl,nF (A:=some ⟨k,0,N⟩) HD.o o R (λh q hq=>⟨ah.o (by rintro rfl;exact h rfl) q hq,λz=>(hZ q z).2.2.2.1 hq⟩),nF (A:=some ⟨k,0,N⟩) HE.o o R (λh q hq=>⟨ai.o (by rintro rfl;exact h rfl) q hq,λz=>(hZ q z).2.2.2.2 hq⟩)⟩;have l:=xX (i:=i) t.o.len (t.o.hdr2 o R (λq z=>(hZ q z).1)) a4 a2;rw[aq.o]at l;exact⟨l,nF (A:=some ⟨k,0,N⟩) HG.o o R (λh q hq=>⟨aj.o (by rintro e;rw[e]at h;exact h rfl) q hq,λz=>(hZ q z).2.2.1 hq⟩),rfl,rfl,ak.o⟩
 |false=>
  have ae:=bz.o i bc.o;have ao:=t.o.len;have s:∀q,blk A=some q->q<w.heap.size:=λq hq=>(aN t.o.row hq).2
  have bi:some w.heap.size≠blk A:=λe=>by have:=s _ e.symm;omega
  have bj:some (w.heap.size+1)≠blk A:=λe=>by have:=s _ e.symm;omega
  have x0:=X.o.c 0 rfl;obtain⟨y0,y1⟩:=bg.o.k2;have BV:By v (v.alloc (.cells #[H D d.length dk,H E el.length ek] 75)):=ba _ _;have XV:Box (v.alloc (.cells #[H D d.length dk,H E el.length ek] 75)) v.heap.size 75 [(Value.slice D d.length dk,Value.slice E el.length ek).1,(Value.slice D d.length dk,Value.slice E el.length ek).2]:=Box.new v 75 [H D d.length dk,H E el.length ek] rfl;have T:=G BV;have KI:=G (PT A c.ents.length a base i vs (H D d.length dk,H E el.length ek) v.heap.size 1 (v.alloc (.cells #[H D d.length dk,H E el.length ek] 75)) (aG V.o.row BV) (by have:=BV.size;omega) ao Q XV (λg hg=>by have:=s g hg;omega) ch (TX t.o) ⟨rfl,rfl⟩);unfold qY at KI;have ap:=G ae;have ax:=U ((putE c.ents ⟨d,el⟩).length=c.ents.length+1) (by rw[<-ae,pM Q]);have b2:=G ao;have bu:=G bi;have bv:=G bj;have a8:=G s;have di:=BV.size;clear ae ao s bi bj BV XV;go_wp2_with fail;refine KI.o.mono ?_
  rintro e W3 ⟨F,P,rfl,af,an,a1⟩;have bb:=bK (cT (cT (aP w _) a9.o) T.o) an;have am:=(X.o.below T.o X.o.lt).grown an bu.o;have bf:=(M.o.below T.o M.o.lt).grown an bv.o;rw[b2.o]at af|-;have Y:Value.ownBlock (H F (c.ents.length+1) P)≠some w.heap.size/\Value.ownBlock (H F (c.ents.length+1) P)≠some (w.heap.size+1):=by
   rw[bH];rcases a1 with h|h
   ·rw[h];exact⟨λe=>by have:=a8.o _ e;omega,λe=>by have:=a8.o _ e;omega⟩
   rw[h];exact⟨λe=>by injection e with e;have h1:=T.o.size;have h2:(v.alloc (.cells #[H D d.length dk,H E el.length ek] 75)).heap.size=v.heap.size+1:=L;omega,λe=>by injection e with e;have h2:(v.alloc (.cells #[H D d.length dk,H E el.length ek] 75)).heap.size=v.heap.size+1:=L;omega⟩
  have bx:=G a1;have b3:=U (w.heap.size<=(v.alloc (.cells #[H D d.length dk,H E el.length ek] 75)).heap.size) (by have:=T.o.size;omega);have x9:=am.c 0 rfl;have f9:=am.free 0;have K:=am.set 0 (H F (c.ents.length+1) P);have j:=dS bf ⟨w.heap.size,0,N⟩ oD_ (H F (c.ents.length+1) P);have R2:=af.kept (bR W3 ⟨w.heap.size,0,N⟩ (H F (c.ents.length+1) P)) (.inr Y.1);have G2:=iT bb ⟨w.heap.size,0,N⟩ (Nat.le_refl _) (H F (c.ents.length+1) P);have aw:=G Y.2;have WE:∃r,(W3.setCell ⟨w.heap.size,0,N⟩ (H F (c.ents.length+1) P))=r:=⟨_,rfl⟩;clear af an a1 Y bb am bf KI x0 y0 y1;go_upto_region 6 with(fail)
  obtain⟨r,aa⟩:=WE;try rw[aa]at R2 G2 K j|-
  clear aa x9 f9;have M:=G j;have HR:=G R2;have av:=G G2;obtain⟨c0,c1,c2,c3,c4⟩:=K.k5;have f0:=j.free 0;have g0:=j.c 0 rfl;have f1:=j.free 1;have g1:=j.c 1 rfl;have f2:=j.free 2;have R:=j.c 2 rfl;have f3:=j.free 3;have g3:=j.c 3 rfl;have f4:=j.free 4;have g4:=j.c 4 rfl;have ZF:Box (((((r.setCell ⟨w.heap.size+1,0,N⟩ (H F (c.ents.length+1) P)).setCell ⟨w.heap.size+1,1,N⟩ (H B c.grps.length b)).setCell ⟨w.heap.size+1,2,N⟩ (I J c.base)).setCell ⟨w.heap.size+1,3,N⟩ (I J c.second)).setCell ⟨w.heap.size+1,4,N⟩ (I J c.third)) (w.heap.size+1) 32 [H F (c.ents.length+1) P,H B c.grps.length b,I J c.base,I J c.second,I J c.third]:=(((((M.o.set 0 (H F (c.ents.length+1) P)).set 1 (H B c.grps.length b)).set 2 (I J c.base)).set 3 (I J c.second)).set 4 (I J c.third));have GF:r.grownBy (((((r.setCell ⟨w.heap.size+1,0,N⟩ (H F (c.ents.length+1) P)).setCell ⟨w.heap.size+1,1,N⟩ (H B c.grps.length b)).setCell ⟨w.heap.size+1,2,N⟩ (I J c.base)).setCell ⟨w.heap.size+1,3,N⟩ (I J c.second)).setCell ⟨w.heap.size+1,4,N⟩ (I J c.third)) (some (w.heap.size+1)):=aC (p:=⟨w.heap.size+1,4,N⟩) (aC (p:=⟨w.heap.size+1,3,N⟩) (aC (p:=⟨w.heap.size+1,2,N⟩) (aC (p:=⟨w.heap.size+1,1,N⟩) (aC (p:=⟨w.heap.size+1,0,N⟩) (aP r _) _) _) _) _) _;have o:w.grownBy (((((r.setCell ⟨w.heap.size+1,0,N⟩ (H F (c.ents.length+1) P)).setCell ⟨w.heap.size+1,1,N⟩ (H B c.grps.length b)).setCell ⟨w.heap.size+1,2,N⟩ (I J c.base)).setCell ⟨w.heap.size+1,3,N⟩ (I J c.second)).setCell ⟨w.heap.size+1,4,N⟩ (I J c.third)) _:=(iT (iT (iT (iT (iT av.o ⟨w.heap.size+1,0,N⟩ oD_ (H F (c.ents.length+1) P)) ⟨w.heap.size+1,1,N⟩ oD_ (H B c.grps.length b)) ⟨w.heap.size+1,2,N⟩ oD_ (I J c.base)) ⟨w.heap.size+1,3,N⟩ oD_ (I J c.second)) ⟨w.heap.size+1,4,N⟩ oD_ (I J c.third));have ay:∃Wf,(((((r.setCell ⟨w.heap.size+1,0,N⟩ (H F (c.ents.length+1) P)).setCell ⟨w.heap.size+1,1,N⟩ (H B c.grps.length b)).setCell ⟨w.heap.size+1,2,N⟩ (I J c.base)).setCell ⟨w.heap.size+1,3,N⟩ (I J c.second)).setCell ⟨w.heap.size+1,4,N⟩ (I J c.third))=Wf:=⟨_,rfl⟩;clear K j R2 G2;go_wp2_with fail;obtain⟨Wf,ab⟩:=ay;try rw[ab]at ZF GF o|-
  clear ab;obtain⟨z0,z1,z2,z3,z4⟩:=ZF.k5;(try simp only[Exit.inBlock,Exit.then]);refine bodyPost_ret (kT rfl _ _ (b:=w.heap.size+1) rfl z0 z1 z2 z3 z4) rfl ?_;have hR:=HR.o.kept GF (.inr aw.o);have hx:fH Wf (H D d.length dk,H E el.length ek) ⟨d,el⟩:=⟨D,dk,E,ek,rfl,nE (A:=A) HD.o o (λh=>ah.o (by rintro rfl;exact h rfl)),nE (A:=A) HE.o o (λh=>ai.o (by rintro rfl;exact h rfl))⟩;have n:=xW (i:=i) t.o.len (t.o.hdr o) hx Q hR;rw[ap.o]at n;refine⟨F,P,by rw[ax.o];rfl,⟨n,nE (A:=A) HG.o o (λh=>aj.o (by rintro e;rw[e]at h;exact h rfl)),rfl,rfl,ak.o⟩,o,λZ W' R hZ=>?_⟩
  have a2:=eQ hR R (λq hq z=>by
   obtain⟨z1,z2,-⟩:=hZ q z
   rcases bx.o with h|h
   ·have:=(aN t.o.row (h.symm.trans hq)).1;omega
   ·rw[h]at hq;have hq:=Option.some.inj hq;have:=b3.o;(try dsimp only at hq);omega)
  have a4:fH W' (H D d.length dk,H E el.length ek) ⟨d,el⟩:=⟨D,dk,E,ek,rfl,nF (A:=A) HD.o o R (λh q hq=>⟨ah.o (by rintro rfl;exact h rfl) q hq,λz=>(hZ q z).2.2.2.1 hq⟩),nF (A:=A) HE.o o R (λh q hq=>⟨ai.o (by rintro rfl;exact h rfl) q hq,λz=>(hZ q z).2.2.2.2 hq⟩)⟩;have l:=xW (i:=i) t.o.len (t.o.hdr2 o R (λq z=>(hZ q z).1)) a4 Q a2;rw[ap.o]at l;exact⟨l,nF (A:=A) HG.o o R (λh q hq=>⟨aj.o (by rintro e;rw[e]at h;exact h rfl) q hq,λz=>(hZ q z).2.2.1 hq⟩),rfl,rfl,ak.o⟩
end
end Go.Proofs.YtkhmjidaeliccaaGreatDoor
