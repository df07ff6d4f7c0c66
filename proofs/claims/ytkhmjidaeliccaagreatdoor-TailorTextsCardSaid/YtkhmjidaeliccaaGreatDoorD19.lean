import Derived.Test.YtkhmjidaeliccaaGreatDoorD00
import Derived.Test.YtkhmjidaeliccaaGreatDoorD08
import Derived.Test.YtkhmjidaeliccaaGreatDoorD16
import Derived.Test.YtkhmjidaeliccaaGreatDoorD17
import Derived.Test.YtkhmjidaeliccaaGreatDoorD18
import Derived.Deep.Cut
set_option maxRecDepth 100000
set_option maxHeartbeats 51200000
namespace Go.Proofs.YtkhmjidaeliccaaGreatDoor
open Option renaming none->N,some->Z
open Value renaming int->I,slice->H
open IntKind renaming i64->J
open Go.Proofs.Tryz
section
open Go.RowKit Go.Maps Go.WideMaps
structure Chg(S:Nat->Prop)(w w':Wv):Prop where
 os:w'.os=w.os
 tape:w'.tape=w.tape
 output:w'.output=w.output
 size:w.heap.size<=w'.heap.size
 block:∀k,k<w.heap.size->¬S k->w'.heap[k]?=w.heap[k]?
theorem Chg.refl(S:Nat->Prop)(w:Wv):Chg S w w:=⟨rfl,rfl,rfl,Nat.le_refl _,fun _ _ _=>rfl⟩
theorem Chg.mono{S S':Nat->Prop}{w w':Wv}(h:Chg S w w')(hs:∀k,k<w.heap.size->S k->S' k):Chg S' w w':=⟨h.os,h.tape,h.output,h.size,fun k hk hn=>h.block k hk (fun q=>hn (hs k hk q))⟩
theorem Chg.trans{S:Nat->Prop}{a b c:Wv}(h:Chg S a b)(g:Chg S b c):Chg S a c:=
 ⟨g.os.trans h.os,g.tape.trans h.tape,g.output.trans h.output,Nat.le_trans h.size g.size,fun k hk hn=>(g.block k (Nat.lt_of_lt_of_le hk h.size) hn).trans (h.block k hk hn)⟩
theorem Chg.of_below{S:Nat->Prop}{w w':Wv}(h:By w w'):Chg S w w':=⟨h.os,h.tape,h.output,h.size,fun k hk _=>h.block k hk⟩
theorem Chg.of_grown{S:Nat->Prop}{w w':Wv}{r:Option Nat}(h:w.grownBy w' r)(hr:∀q,r=Z q->S q):Chg S w w':=⟨h.os,h.tape,h.output,h.size,fun k hk hn=>h.block k hk (fun e=>hn (hr k e.symm))⟩
theorem Chg.below{S:Nat->Prop}{w w':Wv}{n:Nat}(h:Chg S w w')(hn:n<=w.heap.size)(hs:∀k,S k->n<=k):Below n w w':=⟨h.os,h.tape,h.output,h.size,fun k hk=>h.block k (Nat.lt_of_lt_of_le hk hn) (fun q=>by have:=hs k q;omega)⟩
theorem Chg.sl{S:Nat->Prop}{w w':Wv}(h:Chg S w w'){A:Oa}{cs:Lv}(hA:Sl w A cs)(hn:cs≠[]->∀q,blk A=Z q->¬S q):Sl w' A cs:=fun hne=>by
 obtain⟨b,o,rfl,hc⟩:=hA hne;have hb:b<w.heap.size:=lF hA hne rfl;refine⟨b,o,rfl,fun j u hu=>?_⟩;rw[World.cell?_of_block (h.block b hb (hn hne b rfl))];exact hc j u hu
theorem Chg.box{S:Nat->Prop}{w w':Wv}(h:Chg S w w'){b:Nat}{t:TypeId}{cs:Lv}(hB:Box w b t cs)(hn:¬S b):Box w' b t cs:=(h.block b hB.lt hn).trans hB
theorem LE(gs:List Grp):∀u∈aE Grp.cells gs,u.oneCell'=true:=by
 intro u hu;obtain⟨g,_,hg⟩:=List.mem_flatMap.1 hu;simp only[Grp.cells,List.mem_cons,List.not_mem_nil,or_false]at hg;rcases hg with rfl|rfl|rfl<;>rfl
def gT(w:Wv)(lo hi:Nat)(v:Value×Value)(x:Ent):Prop:=∃C c E d,v=(H C x.codes.length c,H E x.elems.length d)/\w.ownsRow lo 3 1 (H C x.codes.length c) x.codes.length (x.codes.map (Value.int .i64))/\w.ownsRow lo 77 4 (H E x.elems.length d) x.elems.length (aE Elt.cells x.elems)/\(∀q,blk C=Z q->q<hi)/\(∀q,blk E=Z q->q<hi)/\(∀q,blk C=Z q->blk E≠Z q)
structure CpE(w:Wv)(base z:Nat)(B:Oa)(cap:Nat)(xs:List Ent)(k top:Nat):Prop where
 ex:∃(vs:List (Value×Value))(m:Nat->Nat),vs.length=xs.length/\w.ownsRow base 75 2 (H B xs.length cap) xs.length (aE enC vs)/\
  (∀i,(hi:i<xs.length)->(hv:i<vs.length)->∃C c E d,vs[i]=(H C xs[i].codes.length c,H E xs[i].elems.length d)/\gJ B z w C xs[i].codes/\h_ B z w E xs[i].elems)/\
  (∀i,i<k->m i<=m (i+1))/\m k<=top/\top<=w.heap.size/\(∀q,blk B=Z q->q<m 0)/\z<m 0/\
  ∀i,i<k->(hi:i<xs.length)->(hv:i<vs.length)->gT w (m i) (m (i+1)) vs[i] xs[i]
theorem iK{m:Nat->Nat}{k:Nat}(h:∀i,i<k->m i<=m (i+1)):∀i,i<=k->m 0<=m i
 |0,_=>Nat.le_refl _
 |i+1,hi=>Nat.le_trans (iK h i (by omega)) (h i (by omega))
section
variable {w w':Wv}{base z lo hi:Nat}{B:Oa}{cap k top:Nat}{xs:List Ent}{v:Value×Value}{x:Ent}
theorem gT.below(h:gT w lo hi v x)(hb:By w w'):gT w' lo hi v x:=by
 obtain⟨C,c,E,d,e1,e2,e3,e4⟩:=h;exact⟨C,c,E,d,e1,bI e2 hb,bI e3 hb,e4⟩
theorem gT.set(h:gT w lo hi v x){p:Addr}(hp:p.block<lo)(u:Value):gT (w.setCell p u) lo hi v x:=by
 obtain⟨C,c,E,d,e1,e2,e3,e4⟩:=h;exact⟨C,c,E,d,e1,ownsRow_setCell_below e2 hp u,ownsRow_setCell_below e3 hp u,e4⟩
theorem dX.cp(h:dX w base z B cap xs)(hz:z<w.heap.size):CpE w base z B cap xs 0 w.heap.size:=by
 obtain⟨vs,h1,h2,h3⟩:=h.ex;exact⟨vs,fun _=>w.heap.size,h1,h2,h3,fun i hi=>absurd hi (by omega),Nat.le_refl _,Nat.le_refl _,fun q hq=>(aU h2 hq).2,hz,fun i hi=>absurd hi (by omega)⟩
theorem CpE.into(h:CpE w base z B cap xs k top):dX w base z B cap xs:=by
 obtain⟨vs,m,h1,h2,h3,_⟩:=h.ex;exact⟨vs,h1,h2,h3⟩
theorem CpE.top_le(h:CpE w base z B cap xs k top):top<=w.heap.size:=by
 obtain⟨vs,m,h1,h2,h3,h4,h5,h5b,_⟩:=h.ex;exact h5b
theorem CpE.below(h:CpE w base z B cap xs k top)(hb:By w w'):CpE w' base z B cap xs k top:=by
 obtain⟨vs,m,h1,h2,h3,h4,h5,h5b,h6,h7,h8⟩:=h.ex;refine⟨vs,m,h1,bI h2 hb,fun i hi hv=>?_,h4,h5,Nat.le_trans h5b hb.size,h6,h7,fun i hk hi hv=>(h8 i hk hi hv).below hb⟩;obtain⟨C,c,E,d,e1,e2,e3⟩:=h3 i hi hv;exact⟨C,c,E,d,e1,e2.below hb,e3.below hb⟩
theorem CpE.off(h:CpE w base z B cap xs k top)(hz:z<base)(p:Addr)(hp:p.block=z)(v:Value):CpE (w.setCell p v) base z B cap xs k top:=by
 obtain⟨vs,m,h1,h2,h3,h4,h5,h5b,h6,h7,h8⟩:=h.ex;refine⟨vs,m,h1,sP h2 hz p hp v,fun i hi hv=>?_,h4,h5,by simpa using h5b,h6,h7,fun i hk hi hv=>(h8 i hk hi hv).set (by have:=iK h4 i (by omega);omega) v⟩;obtain⟨C,c,E,d,e1,e2,e3⟩:=h3 i hi hv;exact⟨C,c,E,d,e1,e2.stored p (.inr hp) v,e3.stored p (.inr hp) v⟩
theorem CpE.put{g:Nat}(h:CpE w base z (Z ⟨g,0,N⟩) cap xs k top)(hk:k<xs.length){C:Oa}{c:Nat}{E:Oa}{d lo:Nat}(hlo:top<=lo)
  (hC:w.ownsRow lo 3 1 (H C xs[k].codes.length c) xs[k].codes.length (xs[k].codes.map (Value.int .i64))) (hE:w.ownsRow lo 77 4 (H E xs[k].elems.length d) xs[k].elems.length (aE Elt.cells xs[k].elems)) (hCE:∀q,blk C=Z q->blk E≠Z q) :
  CpE ((w.setCell ⟨g,k*2,N⟩ (H C xs[k].codes.length c)).setCell ⟨g,k*2+1,N⟩ (H E xs[k].elems.length d)) base z (Z ⟨g,0,N⟩) cap xs (k+1) w.heap.size:=by
 obtain⟨vs,m,h1,h2,h3,h4,h5,h5b,h6,h7,h8⟩:=h.ex;have hm0:=iK h4 k (Nat.le_refl _);have hg:=h6 g rfl;have hap:∀(A:Oa)(l:Nat),(∀q,blk A=Z q->lo<=q)->∀q,blk A=Z q->g≠q/\q≠z:=fun A l hA q hq=>by have:=hA q hq;omega
 have hpt:dX ((w.setCell ⟨g,k*2,N⟩ (H C xs[k].codes.length c)).setCell ⟨g,k*2+1,N⟩ (H E xs[k].elems.length d)) base z (Z ⟨g,0,N⟩) cap xs:=(dX.put ⟨vs,h1,h2,h3⟩ hk (Sl.of_own hC) (fun _=>hap C 0 (fun q hq=>(aU hC hq).1)) (Sl.of_own hE) (fun _=>hap E 0 (fun q hq=>(aU hE hq).1)));have hzi:k<vs.length:=by omega
 have e1:∀(A:Oa)(n c1:Nat)(e:TypeId)(size:Nat)(cs:Lv)(l:Nat),g<l->w.ownsRow l e size (H A n c1) n cs->((w.setCell ⟨g,k*2,N⟩ (H C xs[k].codes.length c)).setCell ⟨g,k*2+1,N⟩ (H E xs[k].elems.length d)).ownsRow l e size (H A n c1) n cs:=fun A n c1 e size cs l hl ho=>ownsRow_setCell_below (ownsRow_setCell_below ho (a:=⟨g,k*2,N⟩) hl _) (a:=⟨g,k*2+1,N⟩) hl _
 refine⟨vs.set k (H C xs[k].codes.length c,H E xs[k].elems.length d),fun j=>if j<=k then m j else w.heap.size,by simpa using h1,?_,?_,fun i hi=>?_,?_,by simp,fun q hq=>?_,?_,fun i hi hix hiv=>?_⟩
 ·have t1:=(h2.stored (k*2+0) (H C xs[k].codes.length c)).1
  rw[gX enC 2 (fun _=>rfl) vs k 0 _ (H C xs[k].codes.length c,vs[k].2) hzi (by omega) rfl]at t1;have t2:=(t1.stored (k*2+1) (H E xs[k].elems.length d)).1;rw[gX enC 2 (fun _=>rfl) (vs.set k (H C xs[k].codes.length c,vs[k].2)) k 1 _ (H C xs[k].codes.length c,H E xs[k].elems.length d) (by simpa using hzi) (by omega) (by rw[List.getElem_set_self];rfl),List.set_set]at t2;exact t2
 ·intro i hi hv
  have hIC:gJ (Z ⟨g,0,N⟩) z w C xs[k].codes:=⟨Sl.of_own hC,fun hne q hq=>⟨fun e=>(hap C 0 (fun q hq=>(aU hC hq).1) q hq).1 (Option.some.inj (show Z g=Z q from e)),(hap C 0 (fun q hq=>(aU hC hq).1) q hq).2⟩⟩;have hIE:h_ (Z ⟨g,0,N⟩) z w E xs[k].elems:=⟨Sl.of_own hE,fun hne q hq=>⟨fun e=>(hap E 0 (fun q hq=>(aU hE hq).1) q hq).1 (Option.some.inj (show Z g=Z q from e)),(hap E 0 (fun q hq=>(aU hE hq).1) q hq).2⟩⟩;by_cases e:k=i
  ·subst e
   exact⟨C,c,E,d,by rw[List.getElem_set_self],(hIC.stored ⟨g,k*2,N⟩ (.inl rfl) _).stored ⟨g,k*2+1,N⟩ (.inl rfl) _,(hIE.stored ⟨g,k*2,N⟩ (.inl rfl) _).stored ⟨g,k*2+1,N⟩ (.inl rfl) _⟩
  obtain⟨C',c',E',d',e1,e2,e3⟩:=h3 i hi (by simpa using hv);exact⟨C',c',E',d',by rw[List.getElem_set_ne e,e1],(e2.stored ⟨g,k*2,N⟩ (.inl rfl) _).stored ⟨g,k*2+1,N⟩ (.inl rfl) _,(e3.stored ⟨g,k*2,N⟩ (.inl rfl) _).stored ⟨g,k*2+1,N⟩ (.inl rfl) _⟩
 ·dsimp only
  rw[if_pos (by omega)];by_cases e:i=k
  ·subst e;rw[if_neg (by omega)];omega
  rw[if_pos (by omega)];exact h4 i (by omega)
 ·dsimp only
  rw[if_neg (by omega)];exact Nat.le_refl _
 ·dsimp only
  rw[if_pos (by omega)];exact h6 q hq
 ·dsimp only
  rw[if_pos (by omega)];exact h7
 dsimp only;rw[if_pos (by omega)];by_cases e:i=k
 ·subst e
  rw[if_neg (by omega),List.getElem_set_self];exact⟨C,c,E,d,rfl,e1 C _ _ _ _ _ _ (by omega) (gZ hC (by omega)),e1 E _ _ _ _ _ _ (by omega) (gZ hE (by omega)),fun q hq=>(aU hC hq).2,fun q hq=>(aU hE hq).2,hCE⟩
 rw[if_pos (by omega),List.getElem_set_ne (fun q=>e q.symm)];have:=iK h4 i (by omega);exact((h8 i (by omega) hix (by omega)).set (p:=⟨g,k*2,N⟩) (by dsimp only;omega) _).set (p:=⟨g,k*2+1,N⟩) (by dsimp only;omega) _
end
def nW(c:Col)(w:Wv)(e:Ending)(w':Wv):Prop:=∃A a B b base z top,e=.returned (aS A c.ents.length a B c.grps.length b c)/\CpE w' base z A a c.ents c.ents.length top/\w'.ownsRow w.heap.size 98 3 (H B c.grps.length b) c.grps.length (aE Grp.cells c.grps)/\(∀q,blk B=Z q->q<base)/\aY w' A c.ents.length B c.grps.length c/\w.heap.size<=z/\z<base/\By w w'
theorem RW{fn:Func}(hr:fn.results=#[.cell 2 32])(tmps:Array Value)(w:Wv){b:Nat}{v0 v1 v2 v3 v4:Value}(ha:tmps.getD 2 undef=.pointer (Z ⟨b,0,N⟩))
  (c0:w.cell? ⟨b,0,N⟩=Z v0) (c1:w.cell? ⟨b,1,N⟩=Z v1) (c2:w.cell? ⟨b,2,N⟩=Z v2) (c3:w.cell? ⟨b,3,N⟩=Z v3) (c4:w.cell? ⟨b,4,N⟩=Z v4) :
  (results fn tmps).run prog w=.ok (.agg #[v0,v1,v2,v3,v4]) w:=by
 unfold results;rw[hr];simp only[ha,List.mapM_toArray,List.mapM_cons,List.mapM_nil,asAddr];go_simp
theorem uZ(A:Oa)(n a:Nat)(B:Oa)(m b:Nat)(c:Col)(w:Wv)(hC:aY w A n B m c)(hz:aZ c):
  Calls prog 38 #[aS A n a B m b c] w (nW c w):=by
 obtain⟨hE,hG,rfl,rfl,hs⟩:=hC;unfold aS nW;unfold aS;have B0:By w ((w.alloc (.cells #[H A c.ents.length a,H B c.grps.length b,I J c.base,I J c.second,I J c.third] 32)).alloc (.cells #[H N 0 0,H N 0 0,I J 0,I J 0,I J 0] 32)):=(ba _ _).alloc (by simp) _;have X0:Box ((w.alloc (.cells #[H A c.ents.length a,H B c.grps.length b,I J c.base,I J c.second,I J c.third] 32)).alloc (.cells #[H N 0 0,H N 0 0,I J 0,I J 0,I J 0] 32)) w.heap.size 32 [H A c.ents.length a,H B c.grps.length b,I J c.base,I J c.second,I J c.third]:=dF (Box.new w 32 [H A c.ents.length a,H B c.grps.length b,I J c.base,I J c.second,I J c.third] rfl) _;have X1:Box ((w.alloc (.cells #[H A c.ents.length a,H B c.grps.length b,I J c.base,I J c.second,I J c.third] 32)).alloc (.cells #[H N 0 0,H N 0 0,I J 0,I J 0,I J 0] 32)) (w.heap.size+1) 32 [H N 0 0,H N 0 0,I J 0,I J 0,I J 0]:=Box.new _ _ _ (by simp);have W0E:∃W0,((w.alloc (.cells #[H A c.ents.length a,H B c.grps.length b,I J c.base,I J c.second,I J c.third] 32)).alloc (.cells #[H N 0 0,H N 0 0,I J 0,I J 0,I J 0] 32))=W0:=⟨_,rfl⟩;obtain⟨cs1,hc1,hl1,h11,hin⟩:=IT hE;have z0:=hz.n;have z1:=hz.m;have C0:=G (fun W(hb:By w W)=>FP B c.grps.length b (aE Grp.cells c.grps) W (Sl.below hG hb) (gE Grp.cells 3 (fun _=>rfl) c.grps) (LE _) (by omega));have C1:=G (fun W(hb:By w W)=>FO A c.ents.length a cs1 W (Sl.below hc1 hb) hl1 h11 (by omega));have HIN:=G hin;have CI:=G (fun i(hi:i<c.ents.length)C k W(hI:aB W C c.ents[i].codes)=>qS C c.ents[i].codes.length k c.ents[i].codes W hI rfl (hz.e i hi).1);have CE:=G (fun i(hi:i<c.ents.length)C k W(hI:cB W C c.ents[i].elems)=>qR C c.ents[i].elems.length k c.ents[i].elems W hI rfl (hz.e i hi).2);have HFIN:=G (fun A' B' W(h0:gB W A' c.ents)(h1:iA W B' c.grps)=>(⟨h0,h1,rfl,rfl,hs⟩:aY W A' c.ents.length B' c.grps.length c));have SZ:=G (fun i(hi:i<c.ents.length)=>hz.e i hi);unfold p_ at C0 C1;unfold eS at CI;unfold mK at CE;clear hE hG hs hz hc1 hl1 h11 hin;go_enter func38,ntmps38;go_upto_region 1 with(fail)
 obtain⟨W0,hW0⟩:=W0E;try rw[hW0]at B0 X0 X1|-
 clear hW0;have s0:=X0.lt;have s1:=X1.lt;have d0:=X0.c 1 rfl;go_wp2_with fail;with_reducible refine(C0.out W0 B0).mono ?_
 rintro e Wa ⟨E1,e1,rfl,O1,hba⟩;have f0:=(X0.below hba s0).free 1;have g0:=(X0.below hba s0).c 1 rfl;have Y0:Box (Wa.setCell ⟨w.heap.size,1,N⟩ (H E1 c.grps.length e1)) w.heap.size 32 [H A c.ents.length a,H E1 c.grps.length e1,I J c.base,I J c.second,I J c.third]:=(X0.below hba s0).set 1 _;have Y1:Box (Wa.setCell ⟨w.heap.size,1,N⟩ (H E1 c.grps.length e1)) (w.heap.size+1) 32 [H N 0 0,H N 0 0,I J 0,I J 0,I J 0]:=aW (X1.below hba s1) _ (by simp) _;have Bb:By w (Wa.setCell ⟨w.heap.size,1,N⟩ (H E1 c.grps.length e1)):=(B0.trans (hba.mono B0.size)).setCell (Nat.le_refl _) _;have NO1:=ownsRow_setCell_below O1 (a:=⟨w.heap.size,1,N⟩) s0 (H E1 c.grps.length e1);have hsz:W0.heap.size<=(Wa.setCell ⟨w.heap.size,1,N⟩ (H E1 c.grps.length e1)).heap.size:=by have:=hba.size;simpa using this
 have hlq:Below W0.heap.size w (Wa.setCell ⟨w.heap.size,1,N⟩ (H E1 c.grps.length e1))->True:=fun _=>trivial
 have WE:∃W,(Wa.setCell ⟨w.heap.size,1,N⟩ (H E1 c.grps.length e1))=W:=⟨_,rfl⟩;clear O1 d0 X0 X1 hba B0 hlq;go_upto_region 2 with(fail)
 obtain⟨W1,hW⟩:=WE;try rw[hW]at Bb Y0 Y1 hsz NO1|-
 clear hW f0 g0 C0;have O1:=NO1;clear NO1;have X0:=Y0;have X1:=Y1;have B0:=Bb;have zW0:=hsz;have tW0:=s1;clear Y0 Y1 Bb hsz s1;have sW0:=s0;clear s0;have s0:=X0.lt;have s1:=X1.lt;have Q1:=G (fun q(hq:blk E1=Z q)=>aU O1 hq);have d0:=X0.c 0 rfl;go_wp2_with fail;with_reducible refine(C1.out W1 B0).mono ?_
 rintro e Wb ⟨E0,e0,rfl,O0,hba⟩;have f0:=(X0.below hba s0).free 0;have g0:=(X0.below hba s0).c 0 rfl;have Y0:Box (Wb.setCell ⟨w.heap.size,0,N⟩ (H E0 c.ents.length e0)) w.heap.size 32 [H E0 c.ents.length e0,H E1 c.grps.length e1,I J c.base,I J c.second,I J c.third]:=(X0.below hba s0).set 0 _;have Y1:Box (Wb.setCell ⟨w.heap.size,0,N⟩ (H E0 c.ents.length e0)) (w.heap.size+1) 32 [H N 0 0,H N 0 0,I J 0,I J 0,I J 0]:=aW (X1.below hba s1) _ (by simp) _;have Bb:By w (Wb.setCell ⟨w.heap.size,0,N⟩ (H E0 c.ents.length e0)):=(B0.trans (hba.mono B0.size)).setCell (Nat.le_refl _) _;have NO0:=ownsRow_setCell_below O0 (a:=⟨w.heap.size,0,N⟩) s0 (H E0 c.ents.length e0);have NO1:=ownsRow_setCell_below (bI O1 hba) (a:=⟨w.heap.size,0,N⟩) (by omega) (H E0 c.ents.length e0);have hsz:W1.heap.size<=(Wb.setCell ⟨w.heap.size,0,N⟩ (H E0 c.ents.length e0)).heap.size:=by have:=hba.size;simpa using this
 have hlq:Below W1.heap.size w (Wb.setCell ⟨w.heap.size,0,N⟩ (H E0 c.ents.length e0))->True:=fun _=>trivial
 have WE:∃W,(Wb.setCell ⟨w.heap.size,0,N⟩ (H E0 c.ents.length e0))=W:=⟨_,rfl⟩;have HM:=HIN.out W1.heap.size (w.heap.size+1) E0 e0 _ Bb B0.size (by omega) NO0;clear NO0 O0 O1 d0 X0 X1 hba B0 hlq HIN;go_upto_region 3 with(fail)
 obtain⟨W2,hW⟩:=WE;try rw[hW]at Bb Y0 Y1 hsz HM NO1|-
 clear hW f0 g0 C1;have O1:=NO1;clear NO1;have X0:=Y0;have X1:=Y1;have B0:=Bb;have zW1:=hsz;have tW1:=s1;clear Y0 Y1 Bb hsz s1;have sW1:=s0;clear s0;have s0:=X0.lt;have s1:=X1.lt;have HO1:=G O1;have HX0:=G X0;have HX1:=G X1;have HB0:=G B0;have HMM:=G HM
 have HE1:=G (fun q(hq:blk E0=Z q)=>show W1.heap.size<=q from by
  obtain⟨vs,_,h2,_⟩:=HM.ex
  exact(aU h2 hq).1)
 have hz3:w.heap.size+1<W1.heap.size:=by omega
 have hz2:W1.heap.size<=W2.heap.size:=by omega
 have q1:=X0.c 0 rfl;clear O1 X0 X1 B0 HM s0 s1;go_wp2_with fail;go_loopw [16] (fun u wr=>∃i top:Nat,i<=c.ents.length/\u=I J i/\CpE wr W1.heap.size (w.heap.size+1) E0 e0 c.ents i top/\W2.grownBy wr (blk E0)) (fun u _=>c.ents.length-(intOf u).toNat)
 case atStart=>exact⟨0,W2.heap.size,Nat.zero_le _,rfl,HMM.out.cp (by omega),aN _ _⟩
 obtain⟨i,top,hi,rfl,hm,hg⟩:=hrel;have hws:=hg.size;have HW:=G hg;have n0:Z w.heap.size≠blk E0:=fun e=>by have:=HE1.out _ e.symm;omega
 have n1:Z (w.heap.size+1)≠blk E0:=fun e=>by have:=HE1.out _ e.symm;omega
 have HXr:=G (HX0.out.grown hg n0);have HXs:=G (HX1.out.grown hg n1);clear n0 n1;by_cases hlt:i<c.ents.length
 ·obtain⟨g,C,cc,E,ec,hEq,hge,hgl,c0,c1,f0,f1,hC,hEl⟩:=hm.into.at hlt
  subst hEq;have HMi:=G hm;have htop:=hm.top_le;have PUT:=G (fun(K:Oa) (k:Nat) (D:Oa) (d lo:Nat) (W:Wv) (h:CpE W W1.heap.size (w.heap.size+1) (Z ⟨g,0,N⟩) e0 c.ents i top) hlo hK hD hKD=>h.put (C:=K) (c:=k) (E:=D) (d:=d) (lo:=lo) hlt hlo hK hD hKD);have CIi:=G (CI.out i hlt);have CEi:=G (CE.out i hlt);have HC:=G hC;have HEl:=G hEl;clear hm hg hC hEl;have hcap:=SZ.out i hlt;generalize c.ents[i]=en at *;obtain⟨cd,el⟩:=en;dsimp only at *;have hne:¬g=wr.heap.size:=by omega
  have c0':wr.cell? ⟨g,0+i*2,N⟩=Z (H C cd.length cc):=by rw[Nat.zero_add];exact c0
  have BA:By wr (wr.alloc (.cells #[H C cd.length cc,H E el.length ec] 75)):=ba _ _;have XA:Box (wr.alloc (.cells #[H C cd.length cc,H E el.length ec] 75)) wr.heap.size 75 [H C cd.length cc,H E el.length ec]:=Box.new wr 75 [H C cd.length cc,H E el.length ec] rfl;have WaE:∃Wa,(wr.alloc (.cells #[H C cd.length cc,H E el.length ec] 75))=Wa:=⟨_,rfl⟩;go_upto_region 6 with(fail)
  obtain⟨Wa,hWa⟩:=WaE;try rw[hWa]at BA XA|-
  clear hWa c0 c1 c0';have sa:=XA.lt;have XRa:=HXr.out.below BA HXr.out.lt;have sw:=XRa.lt;have hgw:g<Wa.heap.size:=by omega
  have hga:g≠w.heap.size:=by omega
  have hgb:g≠wr.heap.size:=by omega
  have k1:=XRa.c 0 rfl;have k2:=XA.c 0 rfl;have k3:=XA.c 1 rfl;have SH:=G (fun W'(hg':Wa.grownBy W' (Z g))=>show W'.cell? ⟨w.heap.size,0,N⟩=Z (H (Z ⟨g,0,N⟩) c.ents.length e0)/\W'.cell? ⟨wr.heap.size,0,N⟩=Z (H C cd.length cc)/\W'.cell? ⟨wr.heap.size,1,N⟩=Z (H E el.length ec)/\Wa.grownBy W' (Z g)from⟨(World.cell?_of_block (hg'.block _ sw (fun e=>hga (by injection e with e;exact e.symm)))).trans k1,(World.cell?_of_block (hg'.block _ sa (fun e=>hgb (by injection e with e;exact e.symm)))).trans k2,(World.cell?_of_block (hg'.block _ sa (fun e=>hgb (by injection e with e;exact e.symm)))).trans k3,hg'⟩);have FRZ:=G (CpE.below HMi.out BA);have TI:=G (fun W(hb':By Wa W)(hg':Wa.grownBy W (Z g))=>(CIi.out C cc W ((HC.out.below BA).below hb')).mono (R':=fun e' W'=>∃v,e'=.returned v/\(W'.cell? ⟨w.heap.size,0,N⟩=Z (H (Z ⟨g,0,N⟩) c.ents.length e0)/\W'.cell? ⟨wr.heap.size,0,N⟩=Z (H C cd.length cc)/\W'.cell? ⟨wr.heap.size,1,N⟩=Z (H E el.length ec)/\Wa.grownBy W' (Z g))/\(∃K k,v=H K cd.length k/\W'.ownsRow Wa.heap.size 3 1 (H K cd.length k) cd.length (cd.map (Value.int .i64))/\By Wa W')) (fun e' W'⟨K,k,he,g1,g2⟩=>⟨_,he,SH.out W' (cA hg' g2),K,k,rfl,gZ g1 hb'.size,hb'.trans (g2.mono hb'.size)⟩));have TE:=G (fun W(hb':By Wa W)(hg':Wa.grownBy W (Z g))=>(CEi.out E ec W ((HEl.out.below BA).below hb')).mono (R':=fun e' W'=>∃v,e'=.returned v/\(W'.cell? ⟨w.heap.size,0,N⟩=Z (H (Z ⟨g,0,N⟩) c.ents.length e0)/\W'.cell? ⟨wr.heap.size,0,N⟩=Z (H C cd.length cc)/\W'.cell? ⟨wr.heap.size,1,N⟩=Z (H E el.length ec)/\Wa.grownBy W' (Z g))/\(∃K k,v=H K el.length k/\W'.ownsRow W.heap.size 77 4 (H K el.length k) el.length (aE Elt.cells el)/\By Wa W'/\By W W')) (fun e' W'⟨K,k,he,g1,g2⟩=>⟨_,he,SH.out W' (cA hg' g2),K,k,rfl,g1,hb'.trans (g2.mono hb'.size),g2⟩));have HBA:=G BA;clear k1 k2 k3 BA;go_wp2_with fail;refine wp_region_held_drew (S:=fun W'=>W'.cell? ⟨w.heap.size,0,N⟩=Z (H (Z ⟨g,0,N⟩) c.ents.length e0)/\W'.cell? ⟨wr.heap.size,0,N⟩=Z (H C cd.length cc)/\W'.cell? ⟨wr.heap.size,1,N⟩=Z (H E el.length ec)/\Wa.grownBy W' (Z g)) (by kernel_rfl) (SH.out _ (dO (aN Wa _))) (fun hHeld=>?_);refine tK 0 21 ?_;refine tK 1 22 ?_;refine tK 2 23 ?_;refine tK 3 24 ?_;refine tK 4 25 ?_;refine tK 6 27 ?_;refine tK 7 28 ?_;refine qE 5 26 (TI.out _ (Below.refl _ _).drew (dO (aN Wa _))) ?_;clear hHeld;rintro _ W5 hHeld ⟨K,k,rfl,hK,hb5⟩;refine qE 8 29 (TE.out _ hb5 hHeld.2.2.2) ?_;clear hHeld;rintro _ W6 hHeld ⟨D,dd,rfl,hD,hb6,hb56⟩;refine tK 9 30 ?_;refine tK 10 31 ?_;obtain⟨g',_,_,_,_,hE',_,_,e0',e1',f0',f1',_⟩:=(FRZ.out.below hb6).into.at hlt;obtain rfl:g=g':=by injection hE' with hE';injection hE'
  clear hE';have g1':(W6.setCell ⟨g,i*2,N⟩ (H K cd.length k)).frozen? ⟨g,i*2+1,N⟩=false:=by simpa using f1'
  refine jT (w':=(W6.setCell ⟨g,i*2,N⟩ (H K cd.length k)).setCell ⟨g,i*2+1,N⟩ (H D el.length dd)) (i:=11) N rfl rfl (by kernel_rfl) (by rfl) (by go_simp) (SH.out _ (aG (p:=⟨g,i*2+1,N⟩) (aG (p:=⟨g,i*2,N⟩) (hHeld.2.2.2) _) _)) ?_;try simp only[Act.put]
  refine wpAnyH_done (by kernel_rfl) ?_ _;have hgr:=aV (cA HW.out HBA.out) hHeld.2.2.2
  have hput:=PUT.out K k D dd Wa.heap.size W6 (FRZ.out.below hb6) (by omega) (bI hK hb56) (gZ hD hb5.size) (fun q hq e=>by
   have h1:=(aU hK hq).2
   have h2:=(aU hD e).1
   omega)
  have HGR:=G hgr;have HPT:=G hput;clear hHeld SH TI TE FRZ e0' e1' f0' f1' g1' hgr hput hK hD hb5 hb6 hb56 PUT HMi HBA XA XRa HXr HXs;go_wp2_with fail;go_roundw
  case rel=>exact⟨i+1,W6.heap.size,by omega,by go_num,HPT.out,aG (p:=⟨g,i*2+1,N⟩) (aG (p:=⟨g,i*2,N⟩) HGR.out _) _⟩
  simp[intOf];omega
 obtain rfl:i=c.ents.length:=by omega
 have X0r:=HXr.out;have c0:=X0r.c 0 rfl;have c1:=X0r.c 1 rfl;have c2:=X0r.c 2 rfl;have c3:=X0r.c 3 rfl;have c4:=X0r.c 4 rfl;have X1r:=HXs.out;have f0:=X1r.free 0;have f1:=X1r.free 1;have f2:=X1r.free 2;have f3:=X1r.free 3;have f4:=X1r.free 4;have g0:=X1r.c 0 rfl;have g1:=X1r.c 1 rfl;have g2:=X1r.c 2 rfl;have g3:=X1r.c 3 rfl;have g4:=X1r.c 4 rfl;have hwz:w.heap.size+1<W1.heap.size:=hz3;have MF:CpE (((((wr.setCell ⟨w.heap.size+1,0,N⟩ (H E0 c.ents.length e0)).setCell ⟨w.heap.size+1,1,N⟩ (H E1 c.grps.length e1)).setCell ⟨w.heap.size+1,2,N⟩ (I J c.base)).setCell ⟨w.heap.size+1,3,N⟩ (I J c.second)).setCell ⟨w.heap.size+1,4,N⟩ (I J c.third)) W1.heap.size (w.heap.size+1) E0 e0 c.ents c.ents.length top:=((((hm.off hwz ⟨w.heap.size+1,0,N⟩ rfl _).off hwz ⟨w.heap.size+1,1,N⟩ rfl _).off hwz ⟨w.heap.size+1,2,N⟩ rfl _).off hwz ⟨w.heap.size+1,3,N⟩ rfl _).off hwz ⟨w.heap.size+1,4,N⟩ rfl _;have ZF:Box (((((wr.setCell ⟨w.heap.size+1,0,N⟩ (H E0 c.ents.length e0)).setCell ⟨w.heap.size+1,1,N⟩ (H E1 c.grps.length e1)).setCell ⟨w.heap.size+1,2,N⟩ (I J c.base)).setCell ⟨w.heap.size+1,3,N⟩ (I J c.second)).setCell ⟨w.heap.size+1,4,N⟩ (I J c.third)) (w.heap.size+1) 32 [H E0 c.ents.length e0,H E1 c.grps.length e1,I J c.base,I J c.second,I J c.third]:=((((X1r.set 0 _).set 1 _).set 2 _).set 3 _).set 4 _;have GF:wr.grownBy (((((wr.setCell ⟨w.heap.size+1,0,N⟩ (H E0 c.ents.length e0)).setCell ⟨w.heap.size+1,1,N⟩ (H E1 c.grps.length e1)).setCell ⟨w.heap.size+1,2,N⟩ (I J c.base)).setCell ⟨w.heap.size+1,3,N⟩ (I J c.second)).setCell ⟨w.heap.size+1,4,N⟩ (I J c.third)) (Z (w.heap.size+1)):=aG (p:=⟨w.heap.size+1,4,N⟩) (aG (p:=⟨w.heap.size+1,3,N⟩) (aG (p:=⟨w.heap.size+1,2,N⟩) (aG (p:=⟨w.heap.size+1,1,N⟩) (bT wr ⟨w.heap.size+1,0,N⟩ _) _) _) _) _;have WFE:∃Wf,(((((wr.setCell ⟨w.heap.size+1,0,N⟩ (H E0 c.ents.length e0)).setCell ⟨w.heap.size+1,1,N⟩ (H E1 c.grps.length e1)).setCell ⟨w.heap.size+1,2,N⟩ (I J c.base)).setCell ⟨w.heap.size+1,3,N⟩ (I J c.second)).setCell ⟨w.heap.size+1,4,N⟩ (I J c.third))=Wf:=⟨_,rfl⟩;have HHG:=G hg;clear hm hg X0r X1r HXr HXs;go_wp2_with fail;obtain⟨Wf,hWf⟩:=WFE;try rw[hWf]at MF ZF GF|-
 clear hWf;have z0:=ZF.c 0 rfl;have z1':=ZF.c 1 rfl;have z2:=ZF.c 2 rfl;have z3:=ZF.c 3 rfl;have z4:=ZF.c 4 rfl;(try simp only[Exit.inBlock,Exit.then]);refine bodyPost_ret (RW rfl _ _ (b:=w.heap.size+1) rfl z0 z1' z2 z3 z4) rfl ?_;have hcf:Chg (fun q=>blk E0=Z q\/q=w.heap.size+1) W2 Wf:=(Chg.of_grown HHG.out (fun q e=>.inl e)).trans (Chg.of_grown GF (fun q e=>.inr (by injection e with e;exact e.symm)))
 have h1:iA Wf E1 c.grps:=hcf.sl (Sl.of_own HO1.out) (fun _ q hq hS=>by
  have b1:=Q1.out q hq
  rcases hS with g|g
  ·have:=HE1.out q g;omega
  ·omega)
 have bel:By w Wf:=HB0.out.trans (hcf.below (n:=w.heap.size) (by omega) (fun k hk=>by
  rcases hk with g|g
  ·have:=HE1.out k g;omega
  ·omega))
 have o1:=HO1.out.kept HHG.out (by
  rw[cH]
  cases hq:blk E1 with
  |none=>exact .inl rfl
  | some q=>exact .inr (fun e=>by have:=Q1.out q hq;have:=HE1.out q e.symm;omega))
 have OGR:=gZ (o1.kept GF (by
  rw[cH]
  cases hq:blk E1 with
  |none=>exact .inl rfl
  | some q=>exact .inr (fun e=>by have:=Q1.out q hq;injection e with e;omega))) (show w.heap.size<=W0.heap.size by omega)
 exact⟨E0,e0,E1,e1,W1.heap.size,w.heap.size+1,top,rfl,MF,OGR,fun q hq=>(Q1.out q hq).2,HFIN.out E0 E1 Wf MF.into.is h1,by omega,hz3,bel⟩
end
section
open Go.RowKit Go.Maps Go.WideMaps Tl
def aD{α:Type}(f:α->α)(xs:List α)(i:Nat):List α:=(xs.take i).map f++xs.drop i
section
variable {α:Type}(f:α->α)(xs:List α)
theorem iR:aD f xs 0=xs:=by unfold aD;simp
theorem fJ(i:Nat):(aD f xs i).length=xs.length:=by unfold aD;simp;omega
theorem lI{i:Nat}(h:xs.length<=i):aD f xs i=xs.map f:=by unfold aD;rw[List.take_of_length_le h,List.drop_of_length_le h,List.append_nil]
theorem gG{i:Nat}(h:i<xs.length)(h':i<(aD f xs i).length):(aD f xs i)[i]=xs[i]:=by
 have e:(aD f xs i)[i]?=xs[i]?:=by
  unfold aD;rw[List.getElem?_append_right (by simp;omega)];simp[Nat.min_eq_left (Nat.le_of_lt h)]
 rw[List.getElem?_eq_getElem h,List.getElem?_eq_getElem h']at e;exact Option.some.inj e
theorem iS{i:Nat}(h:i<xs.length):(aD f xs i).set i (f xs[i])=aD f xs (i+1):=by
 unfold aD;rw[List.set_append,if_neg (by simp;omega),List.take_add_one,List.map_append,List.append_assoc,List.getElem?_eq_getElem h];have:i-(List.map f (List.take i xs)).length=0:=by simp;omega
 rw[this,List.drop_eq_getElem_cons h];rfl
end
theorem tH{α:Type}(f:α->α)(xs:List α)(n:Nat)(h:xs.length=n+1)(x:α):(aD f xs n).set n x=(xs.take n).map f++[x]:=by
 unfold aD;rw[List.set_append,if_neg (by simp;omega)];have e1:n-(List.map f (List.take n xs)).length=0:=by simp;omega
 have e2:(xs.drop n).length=1:=by rw[List.length_drop];omega
 rw[e1];match hd:xs.drop n with
 | []=>rw[hd]at e2;simp at e2
 | [y]=>rfl
 |_::_::_=>rw[hd]at e2;simp at e2
theorem nM{w:Wv}{base:Nat}{e:TypeId}{size n c:Nat}{A:Oa}{xs:Lv}(h:w.ownsRow base e size (H A n c) n xs):n<=c:=by
 rcases h.2 with⟨h1,h2⟩|⟨g,cap,cur,h1,_,_,h3,_⟩
 ·omega
 injection h1 with _ _ h4;omega
theorem gT.kept{w w':Wv}{lo hi q:Nat}{v:Value×Value}{x:Ent}(h:gT w lo hi v x)(hg:w.grownBy w' (Z q))(hq:q<lo\/hi<=q):gT w' lo hi v x:=by
 obtain⟨C,c,E,d,e1,e2,e3,e4,e5,e6⟩:=h;refine⟨C,c,E,d,e1,e2.kept hg ?_,e3.kept hg ?_,e4,e5,e6⟩
 ·rw[cH]
  cases hc:blk C with
  |none=>exact .inl rfl
  |some p=>exact .inr (fun e=>by have:=(aU e2 hc).1;have:=e4 p hc;injection e with e;omega)
 rw[cH];cases hc:blk E with
 |none=>exact .inl rfl
 |some p=>exact .inr (fun e=>by have:=(aU e3 hc).1;have:=e5 p hc;injection e with e;omega)
structure OpV(w:Wv)(base z:Nat)(B:Oa)(cap:Nat)(vs:List (Value×Value))(m:Nat->Nat)(top:Nat)(xs:List Ent):Prop where
 len:vs.length=xs.length
 row:w.ownsRow base 75 2 (H B xs.length cap) xs.length (aE enC vs)
 mono:∀i,i<xs.length->m i<=m (i+1)
 mt:m xs.length<=top
 tw:top<=w.heap.size
 bm:∀q,blk B=Z q->q<m 0
 zm:z<m 0
 rows:∀i,(hi:i<xs.length)->(hv:i<vs.length)->gT w (m i) (m (i+1)) vs[i] xs[i]
section
variable {w w':Wv}{base z:Nat}{B:Oa}{cap:Nat}{vs:List (Value×Value)}{m:Nat->Nat}{top:Nat}{xs:List Ent}
theorem CpE.open(h:CpE w base z B cap xs xs.length top):∃vs m,OpV w base z B cap vs m top xs:=by
 obtain⟨vs,m,h1,h2,h3,h4,h5,h5b,h6,h7,h8⟩:=h.ex;exact⟨vs,m,h1,h2,h4,h5,h5b,h6,h7,fun i hi hv=>h8 i hi hi hv⟩
theorem OpV.close(h:OpV w base z B cap vs m top xs):CpE w base z B cap xs xs.length top:=by
 refine⟨vs,m,h.len,h.row,fun i hi hv=>?_,h.mono,h.mt,h.tw,h.bm,h.zm,fun i _ hi hv=>h.rows i hi hv⟩;obtain⟨C,c,E,d,e1,e2,e3,e4,e5,e6⟩:=h.rows i hi hv;have hm:=iK h.mono i (by omega);have hz:=h.zm;refine⟨C,c,E,d,e1,⟨Sl.of_own e2,fun _ q hq=>⟨fun e=>?_,?_⟩⟩,⟨Sl.of_own e3,fun _ q hq=>⟨fun e=>?_,?_⟩⟩⟩
 ·have:=h.bm q e;have:=(aU e2 hq).1;omega
 ·have:=(aU e2 hq).1;omega
 ·have:=h.bm q e;have:=(aU e3 hq).1;omega
 have:=(aU e3 hq).1;omega
theorem OpV.below(h:OpV w base z B cap vs m top xs)(hb:By w w'):OpV w' base z B cap vs m top xs:=
 ⟨h.len,bI h.row hb,h.mono,h.mt,Nat.le_trans h.tw hb.size,h.bm,h.zm,fun i hi hv=>(h.rows i hi hv).below hb⟩
theorem OpV.low(h:OpV w base z B cap vs m top xs){p:Addr}(hp:p.block<base)(v:Value):OpV (w.setCell p v) base z B cap vs m top xs:=by
 refine⟨h.len,ownsRow_setCell_below h.row hp v,h.mono,h.mt,by simpa using h.tw,h.bm,h.zm,fun i hi hv=>(h.rows i hi hv).set ?_ v⟩;obtain⟨g,rfl,hg,_⟩:=gY h.row (by omega);have:=h.bm g rfl;have:=iK h.mono i (by omega);omega
theorem OpV.at(h:OpV w base z B cap vs m top xs){i:Nat}(hi:i<xs.length)(hv:i<vs.length):∃g C c E d,B=Z ⟨g,0,N⟩/\base<=g/\g<m 0/\vs[i]=(H C xs[i].codes.length c,H E xs[i].elems.length d)/\w.cell? ⟨g,i*2,N⟩=Z (H C xs[i].codes.length c)/\w.cell? ⟨g,i*2+1,N⟩=Z (H E xs[i].elems.length d):=by
 obtain⟨g,rfl,hg1,hg2⟩:=gY h.row (by omega);obtain⟨C,c,E,d,e1,_⟩:=h.rows i hi hv;have gt:=fun j(hj:j<2)=>(h.row.cellAt (i*2+j) (by omega)).trans (gW enC 2 (fun _=>rfl) vs i j hv hj)
 exact⟨g,C,c,E,d,rfl,hg1,h.bm g rfl,e1,(gt 0 (by omega)).trans (by rw[e1];rfl),(gt 1 (by omega)).trans (by rw[e1];rfl)⟩
theorem OpV.elt(h:OpV w base z B cap vs m top xs){i:Nat}(hi:i<xs.length)(hv:i<vs.length){C:Oa}{n c:Nat}{E:Oa}{l d:Nat}(hvi:vs[i]=(H C n c,H E l d)){j:Nat}(hj:j<xs[i].elems.length):
  ∃q,E=Z ⟨q,0,N⟩/\base<=q/\m 0<=q/\q<top/\(∀f,f<4->w.cell? ⟨q,j*4+f,N⟩=xs[i].elems[j].cells[f]?)/\(∀o,w.frozen? ⟨q,o,N⟩=false)/\
   ∀f v e',f<4->Elt.cells e'=(Elt.cells xs[i].elems[j]).set f v->OpV (w.setCell ⟨q,j*4+f,N⟩ v) base z B cap vs m top (xs.set i ⟨xs[i].codes,xs[i].elems.set j e'⟩):=by
 obtain⟨C',c',E',d',e1,e2,e3,e4,e5,e6⟩:=h.rows i hi hv;rw[hvi]at e1;obtain⟨e1a,e1b⟩:=Prod.mk.inj e1;injection e1b with e1b1 e1b2 e1b3;subst e1b1;obtain⟨q,rfl,hq1,hq2⟩:=gY e3 (by omega);have hq3:=e5 q rfl;have hm0:=iK h.mono i (by omega)
 have hup:∀k,i+k<=xs.length->m i<=m (i+k):=fun k=>by
  induction k with
  |zero=>intro _;exact Nat.le_refl _
  |succ k ih=>intro hk;exact Nat.le_trans (ih (by omega)) (h.mono (i+k) (by omega))
 have hup1:∀k,i+1+k<=xs.length->m (i+1)<=m (i+1+k):=fun k=>by
  induction k with
  |zero=>intro _;exact Nat.le_refl _
  |succ k ih=>intro hk;exact Nat.le_trans (ih (by omega)) (h.mono (i+1+k) (by omega))
 have hlast:m (i+1)<=top:=by
  have:=hup1 (xs.length-(i+1)) (by omega);rw[show i+1+(xs.length-(i+1))=xs.length by omega]at this;exact Nat.le_trans this h.mt
 obtain⟨g,rfl,hg1,hg2⟩:=gY h.row (by omega);have hgm:=h.bm g rfl;refine⟨q,rfl,by omega,by omega,by omega,fun f hf=>(e3.cellAt (j*4+f) (by omega)).trans (gW Elt.cells 4 (fun _=>rfl) xs[i].elems j f hj hf),fun o=>e3.frozenAt _,fun f v e' hf he'=>?_⟩;have hgr:w.grownBy (w.setCell ⟨q,j*4+f,N⟩ v) (Z q):=bT w ⟨q,j*4+f,N⟩ v;refine⟨by simpa using h.len,?_,by simpa using h.mono,by simpa using h.mt,by simpa using h.tw,h.bm,h.zm,fun i' hi' hv'=>?_⟩
 ·have:=h.row.kept hgr (.inr (fun e=>by have e:g=q:=Option.some.inj e;omega))
  simpa using this
 by_cases e:i=i'
 ·subst e
  rw[List.getElem_set_self];refine⟨C',c',Z ⟨q,0,N⟩,d',by rw[hvi,e1a];simp[e1b2,e1b3],?_,?_,e4,e5,e6⟩
  ·refine e2.kept hgr ?_
   rw[cH];cases hc:blk C' with
   |none=>exact .inl rfl
   |some p=>exact .inr (fun e=>by injection e with e;exact e6 p hc (by rw[e];rfl))
  have t1:=(e3.stored (j*4+f) v).1;rw[gX Elt.cells 4 (fun _=>rfl) xs[i].elems j f v e' hj hf he']at t1;simpa using t1
 rw[List.getElem_set_ne e];refine(h.rows i' (by simpa using hi') hv').kept hgr ?_;by_cases hlt:i' < i
 ·right
  have:=iK (m:=fun k=>m (i'+1+k)) (k:=i-(i'+1)) (fun k hk=>h.mono (i'+1+k) (by omega)) (i-(i'+1)) (Nat.le_refl _);simp only[Nat.add_zero]at this;rw[show i'+1+(i-(i'+1))=i by omega]at this;omega
 left;have hi'':i' < xs.length:=by simpa using hi'
 have:=hup1 (i' - (i+1)) (by omega);rw[show i+1+(i' - (i+1))=i' by omega]at this;omega
end
section
variable {es:List Ent}{x:Ent}{i:Nat}{f:Bool}
theorem zL(h:mN es x.codes i f):(es.take i).filter (fun y=>decide (aA y.codes x.codes<0))=es.take i/\(es.take i).filter (fun y=>decide (0<aA y.codes x.codes))=[]:=by
 have hall:∀y∈es.take i,aA y.codes x.codes<0:=fun y hy=>by
  obtain⟨t,ht,rfl⟩:=List.getElem_of_mem hy;rw[List.getElem_take];have:=h.le;rw[List.length_take]at ht;exact h.lo t (by omega) (by omega)
 exact⟨List.filter_eq_self.2 fun y hy=>by simpa using hall y hy,List.filter_eq_nil_iff.2 fun y hy=>by have:=hall y hy;simp;omega⟩
theorem vF(h:mN es x.codes i f):(es.drop i).filter (fun y=>decide (aA y.codes x.codes<0))=[]:=by
 refine List.filter_eq_nil_iff.2 fun y hy=>?_
 obtain⟨t,ht,rfl⟩:=List.getElem_of_mem hy;rw[List.getElem_drop];have ht2:i+t<es.length:=by rw[List.length_drop]at ht;omega
 have:=h.hi (i+t) ht2 (by omega);simp;omega
theorem RH(hs:es.Pairwise (fun x y=>aA x.codes y.codes<0))(h:mN es x.codes i false):dH es i x=putE es x:=by
 obtain⟨e1,e2⟩:=zL h;have e3:=vF h;have hnf:¬∃g:i<es.length,aA es[i].codes x.codes=0:=by simpa using h.fd.symm
 unfold putE dH;conv=>rhs;rw[<-List.take_append_drop i es]
 rw[List.filter_append,List.filter_append,e1,e2,e3,List.append_nil,List.nil_append];congr 2;refine(List.filter_eq_self.2 fun y hy=>?_).symm;obtain⟨t,ht,rfl⟩:=List.getElem_of_mem hy;have ht2:i+t<es.length:=by rw[List.length_drop]at ht;omega
 rw[List.getElem_drop];have h1:=h.hi (i+t) ht2 (by omega);simp only[decide_eq_true_eq];refine Int.lt_iff_le_and_ne.2 ⟨h1,fun e=>?_⟩;have hc:=(lP _ _).1 e.symm;by_cases ht0:t=0
 ·subst ht0
  exact hnf ⟨by omega,e.symm⟩
 have h2:=List.pairwise_iff_getElem.1 hs i (i+t) (by omega) ht2 (by omega);rw[hc]at h2;have h3:=h.hi i (by omega) (Nat.le_refl _);omega
theorem RI(hs:es.Pairwise (fun x y=>aA x.codes y.codes<0))(h:mN es x.codes i true):∃hi:i<es.length,es[i].codes=x.codes/\es.set i x=putE es x:=by
 obtain⟨e1,e2⟩:=zL h;have e3:=vF h;obtain⟨hi,h0⟩:∃g:i<es.length,aA es[i].codes x.codes=0:=by simpa using h.fd.symm
 have hc:=(lP _ _).1 h0;refine⟨hi,hc,?_⟩;unfold putE;conv=>rhs;rw[<-List.take_append_drop i es]
 rw[List.filter_append,List.filter_append,e1,e2,e3,List.append_nil,List.nil_append];rw[List.set_eq_take_append_cons_drop,if_pos hi];congr 2;rw[List.drop_eq_getElem_cons hi,List.filter_cons,if_neg (by simp[h0])];refine(List.filter_eq_self.2 fun y hy=>?_).symm;obtain⟨t,ht,rfl⟩:=List.getElem_of_mem hy;have ht2:i+1+t<es.length:=by rw[List.length_drop]at ht;omega
 rw[List.getElem_drop];have h1:=List.pairwise_iff_getElem.1 hs i (i+1+t) hi ht2 (by omega);rw[hc]at h1;simp only[decide_eq_true_eq];rw[Pk.cmp_neg];omega
end
theorem oR{α:Type}{xs:List α}{i:Nat}(hi:i<=xs.length)(x:α):(dH xs i x).length=xs.length+1:=by unfold dH;simp;omega
theorem wI{α:Type}{xs:List α}{i j:Nat}(x:α)(hj:j<i)(hi:j<xs.length)(h:j<(dH xs i x).length):(dH xs i x)[j]=xs[j]:=by
 have e:(dH xs i x)[j]?=xs[j]?:=by unfold dH;rw[List.getElem?_append_left (by simp;omega),List.getElem?_take,if_pos hj]
 rw[List.getElem?_eq_getElem h,List.getElem?_eq_getElem hi]at e;exact Option.some.inj e
theorem wG{α:Type}{xs:List α}{i:Nat}(x:α)(hi:i<=xs.length)(h:i<(dH xs i x).length):(dH xs i x)[i]=x:=by
 have e:(dH xs i x)[i]?=Z x:=by
  unfold dH;rw[List.getElem?_append_right (by simp;omega)];simp[Nat.min_eq_left hi]
 rw[List.getElem?_eq_getElem h]at e;exact Option.some.inj e
theorem wH{α:Type}{xs:List α}{i j:Nat}(x:α)(hj:i<j)(hi:j-1<xs.length)(h:j<(dH xs i x).length):(dH xs i x)[j]=xs[j-1]:=by
 have e:(dH xs i x)[j]?=xs[j-1]?:=by
  unfold dH;rw[List.getElem?_append_right (by simp;omega)];have hm:(xs.take i).length=i:=by simp;omega
  rw[hm,show j-i=(j-i-1)+1 by omega,List.getElem?_cons_succ,List.getElem?_drop,show i+(j-i-1)=j-1 by omega]
 rw[List.getElem?_eq_getElem h,List.getElem?_eq_getElem hi]at e;exact Option.some.inj e
section
variable {w w':Wv}{base z:Nat}{A:Oa}{cap:Nat}{vs:List (Value×Value)}{m:Nat->Nat}{top:Nat}{xs:List Ent}
theorem OpV.hdr(h:OpV w base z A cap vs m top xs)(hg:w.grownBy w' (blk A)):∀i,(hi:i<xs.length)->(hv:i<vs.length)->eR w' vs[i] xs[i]:=fun i hi hv=>by
 obtain⟨C,c,E,d,e1,e2,e3,e4,e5,e6⟩:=h.rows i hi hv;have hm:=iK h.mono i (by omega);refine⟨C,c,E,d,e1,Sl.of_own (e2.kept hg ?_),Sl.of_own (e3.kept hg ?_)⟩
 ·rw[cH]
  cases hc:blk C with
  |none=>exact .inl rfl
  |some q=>exact .inr (fun e=>by have:=h.bm q e.symm;have:=(aU e2 hc).1;omega)
 rw[cH];cases hc:blk E with
 |none=>exact .inl rfl
 |some q=>exact .inr (fun e=>by have:=h.bm q e.symm;have:=(aU e3 hc).1;omega)
theorem iM{Z:Nat->Prop}{base:Nat}{e:TypeId}{size n c:Nat}{A:Oa}{cs:Lv}{w w':Wv}(h:w.ownsRow base e size (H A n c) n cs)(hc:Chg Z w w')(hn:∀q,blk A=some q->¬Z q):w'.ownsRow base e size (H A n c) n cs:=by
 refine⟨h.1,?_⟩;rcases h.2 with h2|⟨g,cap,cur,h1,h2,h3,h4⟩
 ·exact .inl h2
 refine .inr ⟨g,cap,cur,h1,h2,?_,h4⟩;injection h1 with h1;exact(hc.block g (Box.lt (w:=w) (t:=e) (cs:=cur.toList) (by simpa[Box]using h3)) (hn g (by rw[h1];rfl))).trans h3
theorem OpV.hdr2{w2:Wv}{Z:Nat->Prop}(h:OpV w base z A cap vs m top xs)(hg:w.grownBy w' (blk A))(hg2:Chg Z w' w2)(hzb:∀q,Z q->q<base):∀i,(hi:i<xs.length)->(hv:i<vs.length)->eR w2 vs[i] xs[i]:=fun i hi hv=>by
 obtain⟨C,c,E,d,e1,e2,e3,e4,e5,e6⟩:=h.rows i hi hv;have hm:=iK h.mono i (by omega);obtain⟨g,hA,hg1,_⟩:=gY h.row (by omega);have hgm:=h.bm g (by rw[hA];rfl);have kp:∀(K:Oa)(q:Nat),blk K=some q->m i<=q->some q≠blk A:=fun K q hq hle e=>by have:=h.bm q e.symm;omega
 have kz:∀q,m i<=q->¬Z q:=fun q hle e=>by have:=hzb q e;omega
 refine⟨C,c,E,d,e1,Sl.of_own (iM (e2.kept hg ?_) hg2 (fun q hq=>kz q (aU e2 hq).1)),Sl.of_own (iM (e3.kept hg ?_) hg2 (fun q hq=>kz q (aU e3 hq).1))⟩
 ·rw[cH]
  cases hc:blk C with
  |none=>exact .inl rfl
  |some q=>exact .inr (kp C q hc (aU e2 hc).1)
 rw[cH];cases hc:blk E with
 |none=>exact .inl rfl
 |some q=>exact .inr (kp E q hc (aU e3 hc).1)
theorem mG{C:Oa}{cs:Lv}{w2:Wv}{Z:Nat->Prop}(h:Sl w C cs)(hg:w.grownBy w' (blk A))(hg2:Chg Z w' w2)(hne:cs≠[]->∀q,blk C=some q->blk A≠some q/\¬Z q):Sl w2 C cs:=
 ((Chg.of_grown (S:=fun q=>blk A=some q\/Z q) hg (fun _ e=>.inl e)).trans (hg2.mono (fun _ _ e=>.inr e))).sl h (fun hn q hq hS=>by
  rcases hS with g|g
  ·exact(hne hn q hq).1 g
  ·exact(hne hn q hq).2 g)
theorem mF{C:Oa}{cs:Lv}(h:Sl w C cs)(hg:w.grownBy w' (blk A))(hne:cs≠[]->∀q,blk C=Z q->blk A≠Z q):Sl w' C cs:=
 (Chg.of_grown (S:=fun q=>blk A=Z q) hg (fun _ e=>e)).sl h hne
theorem vJ{base' k i:Nat}{A':Oa}{y:Value×Value}{x:Ent}(hl:vs.length=xs.length)(hh:∀j,(hj:j<xs.length)->(hv:j<vs.length)->eR w' vs[j] xs[j])(hx:eR w' y x)(hi:i<=xs.length)(ho:w'.ownsRow base' 75 2 (H A' (xs.length+1) k) (xs.length+1) (aE enC (dH vs i y))):gB w' A' (dH xs i x):=by
 refine⟨dH vs i y,by rw[oR (by omega),oR hi,hl],Sl.of_own ho,fun j hj hv=>?_⟩;rw[oR hi]at hj;rcases Nat.lt_trichotomy j i with h1|h1|h1
 ·rw[wI y h1 (by omega),wI x h1 (by omega)];exact hh j (by omega) (by omega)
 ·subst h1;rw[wG y (by omega),wG x hi];exact hx
 rw[wH y h1 (by omega),wH x h1 (by omega)];exact hh (j-1) (by omega) (by omega)
theorem vK{base' k i:Nat}{A':Oa}{y:Value×Value}{x:Ent}(hl:vs.length=xs.length)(hh:∀j,(hj:j<xs.length)->(hv:j<vs.length)->eR w' vs[j] xs[j])(hx:eR w' y x)(ho:w'.ownsRow base' 75 2 (H A' xs.length k) xs.length (aE enC (vs.set i y))):gB w' A' (xs.set i x):=by
 refine⟨vs.set i y,by simp[hl],Sl.of_own ho,fun j hj hv=>?_⟩;by_cases e:i=j
 ·subst e;rw[List.getElem_set_self,List.getElem_set_self];exact hx
 rw[List.getElem_set_ne e,List.getElem_set_ne e];exact hh j (by simpa using hj) (by simpa using hv)
end
theorem sU{k:Nat}{fn:Func}(hr:fn.results=#[.cell k 32])(tmps:Array Value)(w:Wv){b:Nat}{v0 v1 v2 v3 v4:Value}(ha:tmps.getD k undef=.pointer (Z ⟨b,0,N⟩))
  (c0:w.cell? ⟨b,0,N⟩=Z v0) (c1:w.cell? ⟨b,1,N⟩=Z v1) (c2:w.cell? ⟨b,2,N⟩=Z v2) (c3:w.cell? ⟨b,3,N⟩=Z v3) (c4:w.cell? ⟨b,4,N⟩=Z v4) :
  (results fn tmps).run prog w=.ok (.agg #[v0,v1,v2,v3,v4]) w:=by
 unfold results;rw[hr];simp only[ha,List.mapM_toArray,List.mapM_cons,List.mapM_nil,asAddr];go_simp
theorem PT{w:Wv}{base z:Nat}{A:Oa}{cap:Nat}{vs:List (Value×Value)}{m:Nat->Nat}{top:Nat}{xs:List Ent}(h:OpV w base z A cap vs m top xs):∀v∈aE enC vs,v.oneCell'=true:=by
 intro u hu;obtain⟨p,hp,hg⟩:=List.mem_flatMap.1 hu;obtain⟨j,hj,rfl⟩:=List.getElem_of_mem hp;obtain⟨C,c,E,d,e,_⟩:=h.rows j (by have:=h.len;omega) hj;simp only[enC,List.mem_cons,List.not_mem_nil,or_false]at hg;rcases hg with rfl|rfl
 ·rw[e];rfl
 rw[e];rfl
def qA(base:Nat)(D E:Oa)(A:Oa)(B:Oa)(b:Nat)(c:Col)(x:Ent)(w:Wv)(e:Ending)(w':Wv):Prop:=∃A' a',e=.returned (aS A' (putE c.ents x).length a' B c.grps.length b { c with ents:=putE c.ents x })/\aY w' A' (putE c.ents x).length B c.grps.length { c with ents:=putE c.ents x }/\w.grownBy w' (blk A)/\∀Z W',Chg Z w' W'->(∀q,Z q->q<base/\q<w.heap.size/\blk B≠some q/\blk D≠some q/\blk E≠some q)->aY W' A' (putE c.ents x).length B c.grps.length { c with ents:=putE c.ents x }
theorem yJ(base zz:Nat)(A:Oa)(a:Nat)(vs:List (Value×Value))(m:Nat->Nat)(top:Nat)(c:Col)(B:Oa)(b:Nat)(D:Oa)(dk:Nat)(d:Li)(E:Oa)(ek:Nat)(el:List Elt)(w:Wv)
  (hO:OpV w base zz A a vs m top c.ents) (hG:iA w B c.grps) (hGB:c.grps≠[]->∀q,blk B=some q->blk A≠some q) (hD:aB w D d) (hDA:d≠[]->∀q,blk D=some q->blk A≠some q) (hE:cB w E el) (hEA:el≠[]->∀q,blk E=some q->blk A≠some q)
  (hs:c.ents.Pairwise (fun x y=>aA x.codes y.codes<0)) (hcz:aZ c) (hdl:d.length<=1048576) (hnm:∀g∈c.grps,g.name.size<=9223372036854775807) (hbw:base<=w.heap.size) :
  Calls prog 37 #[aS A c.ents.length a B c.grps.length b c,H D d.length dk,H E el.length ek] w (qA base D E A B b c ⟨d,el⟩ w):=by
 have B0:By w (((w.alloc (.cells #[H A c.ents.length a,H B c.grps.length b,I J c.base,I J c.second,I J c.third] 32)).alloc (.cells #[H N 0 0,H N 0 0,I J 0,I J 0,I J 0] 32)).alloc (.cells #[H D d.length dk,H E el.length ek] 75)):=((ba _ _).alloc (by simp) _).alloc (by simp;omega) _;have X0:Box (((w.alloc (.cells #[H A c.ents.length a,H B c.grps.length b,I J c.base,I J c.second,I J c.third] 32)).alloc (.cells #[H N 0 0,H N 0 0,I J 0,I J 0,I J 0] 32)).alloc (.cells #[H D d.length dk,H E el.length ek] 75)) w.heap.size 32 [H A c.ents.length a,H B c.grps.length b,I J c.base,I J c.second,I J c.third]:=((Box.new w 32 [H A c.ents.length a,H B c.grps.length b,I J c.base,I J c.second,I J c.third] rfl).below (ba _ _) (by simp)).below (ba _ _) (by simp;omega);have X1:Box (((w.alloc (.cells #[H A c.ents.length a,H B c.grps.length b,I J c.base,I J c.second,I J c.third] 32)).alloc (.cells #[H N 0 0,H N 0 0,I J 0,I J 0,I J 0] 32)).alloc (.cells #[H D d.length dk,H E el.length ek] 75)) (w.heap.size+1) 32 [H N 0 0,H N 0 0,I J 0,I J 0,I J 0]:=(Box.new (w.alloc (.cells #[H A c.ents.length a,H B c.grps.length b,I J c.base,I J c.second,I J c.third] 32)) 32 [H N 0 0,H N 0 0,I J 0,I J 0,I J 0] (by simp)).below (ba _ _) (by simp);have X2:Box (((w.alloc (.cells #[H A c.ents.length a,H B c.grps.length b,I J c.base,I J c.second,I J c.third] 32)).alloc (.cells #[H N 0 0,H N 0 0,I J 0,I J 0,I J 0] 32)).alloc (.cells #[H D d.length dk,H E el.length ek] 75)) (w.heap.size+2) 75 [H D d.length dk,H E el.length ek]:=Box.new ((w.alloc (.cells #[H A c.ents.length a,H B c.grps.length b,I J c.base,I J c.second,I J c.third] 32)).alloc (.cells #[H N 0 0,H N 0 0,I J 0,I J 0,I J 0] 32)) 75 [H D d.length dk,H E el.length ek] (by simp);have W0E:∃W0,(((w.alloc (.cells #[H A c.ents.length a,H B c.grps.length b,I J c.base,I J c.second,I J c.third] 32)).alloc (.cells #[H N 0 0,H N 0 0,I J 0,I J 0,I J 0] 32)).alloc (.cells #[H D d.length dk,H E el.length ek] 75))=W0:=⟨_,rfl⟩;have KS:=G (fun W(hb:By w W)=>D_ A c.ents.length a D d.length dk c.ents d W ((hO.below hb).close.into.is) (hD.below hb) rfl rfl hcz.n hdl (fun i hi=>(hcz.e i hi).1) hs);unfold tX at KS;have HO:=G hO;have HG:=G hG;have HGB:=G hGB;have HD:=G hD;have HDA:=G hDA;have HE:=G hE;have HEA:=G hEA;have HPN:=G (fun i h=>RH (es:=c.ents) (x:=⟨d,el⟩) (i:=i) hs h);have HPO:=G (fun i h=>RI (es:=c.ents) (x:=⟨d,el⟩) (i:=i) hs h);have HNM:=G hnm;have hcn:=hcz.n;clear hO hG hGB hD hDA hE hEA hs hnm hcz;unfold aS;go_enter func37,ntmps37;go_upto_region 2 with(fail)
 obtain⟨W0,hW0⟩:=W0E;try rw[hW0]at B0 X0 X1 X2|-
 clear hW0;have k0:=X0.c 0 rfl;have l0:=X0.lt;have l1:=X1.lt;have l2:=X2.lt;have hw0:=B0.size;have HB0:=G B0;have HX0:=G X0;have HX1:=G X1;have HX2:=G X2;have KS2:=G (KS.out W0 B0);clear X0 X1 X2 B0 KS;go_wp2_with fail;with_reducible refine KS2.out.mono ?_
 rintro e W1 ⟨i,f,rfl,hsr,hb1⟩;have HSR:=G hsr;have hile:=hsr.le;have hs1:=hb1.size;have hB1:=HB0.out.trans (hb1.mono hw0);have HO1:=G (HO.out.below hB1);have X0w:=G (HX0.out.below hb1 l0);have X1w:=G (HX1.out.below hb1 l1);have X2w:=G (HX2.out.below hb1 l2);have HB1:=G hB1;clear hsr hb1 hB1 KS2 k0;cases f with
 |true=>
  obtain⟨hi,hcd,hset⟩:=HPO.out i HSR.out;have hvl:=HO.out.len;obtain⟨gA,C,cc,E0,ec,rfl,hg1,hg2,hve,ca,cb⟩:=HO1.out.at hi (by omega);have hgw:gA<w.heap.size:=(aU HO.out.row rfl).2;have fa:W1.frozen? ⟨gA,i*2,N⟩=false:=HO1.out.row.frozenAt _;have fb:W1.frozen? ⟨gA,i*2+1,N⟩=false:=HO1.out.row.frozenAt _;have x0:=X0w.out.c 0 rfl;have y0:=X2w.out.c 0 rfl;have y1:=X2w.out.c 1 rfl;have hne0:¬gA=w.heap.size:=by omega
  have hne1:¬gA=w.heap.size+1:=by omega
  have hne2:¬gA=w.heap.size+2:=by omega
  have hii:(i:Int)<(c.ents.length:Int):=by omega
  have R1:=(HO1.out.row.stored (i*2+0) (H D d.length dk)).1;rw[gX enC 2 (fun _=>rfl) vs i 0 _ (H D d.length dk,vs[i].2) (by omega) (by omega) rfl]at R1;have R2:=(R1.stored (i*2+1) (H E el.length ek)).1;rw[gX enC 2 (fun _=>rfl) (vs.set i (H D d.length dk,vs[i].2)) i 1 _ (H D d.length dk,H E el.length ek) (by simp;omega) (by omega) (by rw[List.getElem_set_self];rfl),List.set_set]at R2;simp only[Nat.add_zero]at R2;have G2:w.grownBy ((W1.setCell ⟨gA,i*2,N⟩ (H D d.length dk)).setCell ⟨gA,i*2+1,N⟩ (H E el.length ek)) (some gA):=aG (p:=⟨gA,i*2+1,N⟩) (aG (p:=⟨gA,i*2,N⟩) (cA (aN w _) HB1.out) _) _;have X0y:=aW (aW X0w.out ⟨gA,i*2,N⟩ (fun e=>hne0 e.symm) (H D d.length dk)) ⟨gA,i*2+1,N⟩ (fun e=>hne0 e.symm) (H E el.length ek);have X1y:=aW (aW X1w.out ⟨gA,i*2,N⟩ (fun e=>hne1 e.symm) (H D d.length dk)) ⟨gA,i*2+1,N⟩ (fun e=>hne1 e.symm) (H E el.length ek);have WE:∃W2,((W1.setCell ⟨gA,i*2,N⟩ (H D d.length dk)).setCell ⟨gA,i*2+1,N⟩ (H E el.length ek))=W2:=⟨_,rfl⟩;have hpl:(putE c.ents ⟨d,el⟩).length=c.ents.length:=by rw[<-hset,List.length_set]
  have HSET:=G hset;have HPL:=G hpl;clear hset hpl hcd hve R1;go_upto_region 6 with(fail)
  obtain⟨W2,hW2⟩:=WE;try rw[hW2]at R2 G2 X0y X1y|-
  clear hW2 ca cb fa fb x0 y0 y1;have X1w:=G X1y;have HR:=G R2;have HG2:=G G2;have HNE:=U (some gA≠some (w.heap.size+1)) (fun e=>hne1 (Option.some.inj e));have c0:=X0y.c 0 rfl;have c1:=X0y.c 1 rfl;have c2:=X0y.c 2 rfl;have c3:=X0y.c 3 rfl;have c4:=X0y.c 4 rfl;have f0:=X1y.free 0;have g0:=X1y.c 0 rfl;have f1:=X1y.free 1;have g1:=X1y.c 1 rfl;have f2:=X1y.free 2;have g2:=X1y.c 2 rfl;have f3:=X1y.free 3;have g3:=X1y.c 3 rfl;have f4:=X1y.free 4;have g4:=X1y.c 4 rfl;have ZF:Box (((((W2.setCell ⟨w.heap.size+1,0,N⟩ (H (some ⟨gA,0,N⟩) c.ents.length a)).setCell ⟨w.heap.size+1,1,N⟩ (H B c.grps.length b)).setCell ⟨w.heap.size+1,2,N⟩ (I J c.base)).setCell ⟨w.heap.size+1,3,N⟩ (I J c.second)).setCell ⟨w.heap.size+1,4,N⟩ (I J c.third)) (w.heap.size+1) 32 [H (some ⟨gA,0,N⟩) c.ents.length a,H B c.grps.length b,I J c.base,I J c.second,I J c.third]:=(((((X1w.out.set 0 (H (some ⟨gA,0,N⟩) c.ents.length a)).set 1 (H B c.grps.length b)).set 2 (I J c.base)).set 3 (I J c.second)).set 4 (I J c.third));have GF:W2.grownBy (((((W2.setCell ⟨w.heap.size+1,0,N⟩ (H (some ⟨gA,0,N⟩) c.ents.length a)).setCell ⟨w.heap.size+1,1,N⟩ (H B c.grps.length b)).setCell ⟨w.heap.size+1,2,N⟩ (I J c.base)).setCell ⟨w.heap.size+1,3,N⟩ (I J c.second)).setCell ⟨w.heap.size+1,4,N⟩ (I J c.third)) (some (w.heap.size+1)):=aG (p:=⟨w.heap.size+1,4,N⟩) (aG (p:=⟨w.heap.size+1,3,N⟩) (aG (p:=⟨w.heap.size+1,2,N⟩) (aG (p:=⟨w.heap.size+1,1,N⟩) (aG (p:=⟨w.heap.size+1,0,N⟩) (aN W2 _) _) _) _) _) _;have GW:w.grownBy (((((W2.setCell ⟨w.heap.size+1,0,N⟩ (H (some ⟨gA,0,N⟩) c.ents.length a)).setCell ⟨w.heap.size+1,1,N⟩ (H B c.grps.length b)).setCell ⟨w.heap.size+1,2,N⟩ (I J c.base)).setCell ⟨w.heap.size+1,3,N⟩ (I J c.second)).setCell ⟨w.heap.size+1,4,N⟩ (I J c.third)) _:=(cX (cX (cX (cX (cX HG2.out ⟨w.heap.size+1,0,N⟩ (by dsimp only;omega) (H (some ⟨gA,0,N⟩) c.ents.length a)) ⟨w.heap.size+1,1,N⟩ (by dsimp only;omega) (H B c.grps.length b)) ⟨w.heap.size+1,2,N⟩ (by dsimp only;omega) (I J c.base)) ⟨w.heap.size+1,3,N⟩ (by dsimp only;omega) (I J c.second)) ⟨w.heap.size+1,4,N⟩ (by dsimp only;omega) (I J c.third));have WFE:∃Wf,(((((W2.setCell ⟨w.heap.size+1,0,N⟩ (H (some ⟨gA,0,N⟩) c.ents.length a)).setCell ⟨w.heap.size+1,1,N⟩ (H B c.grps.length b)).setCell ⟨w.heap.size+1,2,N⟩ (I J c.base)).setCell ⟨w.heap.size+1,3,N⟩ (I J c.second)).setCell ⟨w.heap.size+1,4,N⟩ (I J c.third))=Wf:=⟨_,rfl⟩;clear X0y X1y R2 G2;go_wp2_with fail;obtain⟨Wf,hWf⟩:=WFE;try rw[hWf]at ZF GF GW|-
  clear hWf;have z0:=ZF.c 0 rfl;have z1:=ZF.c 1 rfl;have z2:=ZF.c 2 rfl;have z3:=ZF.c 3 rfl;have z4:=ZF.c 4 rfl;(try simp only[Exit.inBlock,Exit.then]);refine bodyPost_ret (sU rfl _ _ (b:=w.heap.size+1) rfl z0 z1 z2 z3 z4) rfl ?_;have hR:=HR.out.kept GF (.inr HNE.out);have hx:eR Wf (H D d.length dk,H E el.length ek) ⟨d,el⟩:=⟨D,dk,E,ek,rfl,mF (A:=some ⟨gA,0,N⟩) HD.out GW (fun h=>HDA.out (by rintro rfl;exact h rfl)),mF (A:=some ⟨gA,0,N⟩) HE.out GW (fun h=>HEA.out (by rintro rfl;exact h rfl))⟩;have hents:=vK (i:=i) HO.out.len (HO.out.hdr GW) hx hR;rw[HSET.out]at hents;refine⟨some ⟨gA,0,N⟩,a,by rw[HPL.out];rfl,⟨hents,mF (A:=some ⟨gA,0,N⟩) HG.out GW (fun h=>HGB.out (by rintro e;rw[e]at h;exact h rfl)),rfl,rfl,HNM.out⟩,GW,fun Z W' g2 hZ=>?_⟩;have hR2:=iM hR g2 (fun q e z=>by have e:gA=q:=Option.some.inj e;have:=(hZ q z).1;have:=(aU HO.out.row (A:=some ⟨gA,0,N⟩) rfl).1;omega);have hx2:eR W' (H D d.length dk,H E el.length ek) ⟨d,el⟩:=⟨D,dk,E,ek,rfl,mG (A:=some ⟨gA,0,N⟩) HD.out GW g2 (fun h q hq=>⟨HDA.out (by rintro rfl;exact h rfl) q hq,fun z=>(hZ q z).2.2.2.1 hq⟩),mG (A:=some ⟨gA,0,N⟩) HE.out GW g2 (fun h q hq=>⟨HEA.out (by rintro rfl;exact h rfl) q hq,fun z=>(hZ q z).2.2.2.2 hq⟩)⟩;have hents2:=vK (i:=i) HO.out.len (HO.out.hdr2 GW g2 (fun q z=>(hZ q z).1)) hx2 hR2;rw[HSET.out]at hents2;exact⟨hents2,mG (A:=some ⟨gA,0,N⟩) HG.out GW g2 (fun h q hq=>⟨HGB.out (by rintro e;rw[e]at h;exact h rfl) q hq,fun z=>(hZ q z).2.2.1 hq⟩),rfl,rfl,HNM.out⟩
 |false=>
  have hput:=HPN.out i HSR.out;have hvl:=HO.out.len;have hAlt:∀q,blk A=some q->q<w.heap.size:=fun q hq=>(aU HO.out.row hq).2
  have hA0:some w.heap.size≠blk A:=fun e=>by have:=hAlt _ e.symm;omega
  have hA1:some (w.heap.size+1)≠blk A:=fun e=>by have:=hAlt _ e.symm;omega
  have x0:=X0w.out.c 0 rfl;have y0:=X2w.out.c 0 rfl;have y1:=X2w.out.c 1 rfl;have BV:By W1 (W1.alloc (.cells #[H D d.length dk,H E el.length ek] 75)):=ba _ _;have XV:Box (W1.alloc (.cells #[H D d.length dk,H E el.length ek] 75)) W1.heap.size 75 [(Value.slice D d.length dk,Value.slice E el.length ek).1,(Value.slice D d.length dk,Value.slice E el.length ek).2]:=Box.new W1 75 [H D d.length dk,H E el.length ek] rfl;have HBV:=G BV;have KI:=G (LZ A c.ents.length a base i vs (H D d.length dk,H E el.length ek) W1.heap.size 1 (W1.alloc (.cells #[H D d.length dk,H E el.length ek] 75)) (bI HO1.out.row BV) (by have:=BV.size;omega) hvl hile XV (fun g hg=>by have:=hAlt g hg;omega) hcn (PT HO.out) ⟨rfl,rfl⟩);unfold pX at KI;have HPUT:=G hput;have HPL:=U ((putE c.ents ⟨d,el⟩).length=c.ents.length+1) (by rw[<-hput,oR hile]);have HVL:=G hvl;have HA0:=G hA0;have HA1:=G hA1;have HAL:=G hAlt;have hm1:=BV.size;clear hput hvl hAlt hA0 hA1 BV XV;go_wp2_with fail;with_reducible refine KI.out.mono ?_
  rintro e W3 ⟨A',a',rfl,hrow,hgr,hBl⟩;have HG1:=aV (cA (cA (aN w _) HB1.out) HBV.out) hgr;have X0z:=(X0w.out.below HBV.out X0w.out.lt).grown hgr HA0.out;have X1z:=(X1w.out.below HBV.out X1w.out.lt).grown hgr HA1.out;rw[HVL.out]at hrow|-;have hBl0:Value.ownBlock (H A' (c.ents.length+1) a')≠some w.heap.size/\Value.ownBlock (H A' (c.ents.length+1) a')≠some (w.heap.size+1):=by
   rw[cH];rcases hBl with h|h
   ·rw[h];exact⟨fun e=>by have:=HAL.out _ e;omega,fun e=>by have:=HAL.out _ e;omega⟩
   rw[h];exact⟨fun e=>by injection e with e;have h1:=HBV.out.size;have h2:(W1.alloc (.cells #[H D d.length dk,H E el.length ek] 75)).heap.size=W1.heap.size+1:=(by simp);omega,fun e=>by injection e with e;have h2:(W1.alloc (.cells #[H D d.length dk,H E el.length ek] 75)).heap.size=W1.heap.size+1:=(by simp);omega⟩
  have HBL:=G hBl;have HW1:=U (w.heap.size<=(W1.alloc (.cells #[H D d.length dk,H E el.length ek] 75)).heap.size) (by have:=HBV.out.size;omega);have x9:=X0z.c 0 rfl;have f9:=X0z.free 0;have X0y:=X0z.set 0 (H A' (c.ents.length+1) a');have X1y:=aW X1z ⟨w.heap.size,0,N⟩ (by dsimp only;omega) (H A' (c.ents.length+1) a');have R2:=hrow.kept (bT W3 ⟨w.heap.size,0,N⟩ (H A' (c.ents.length+1) a')) (.inr hBl0.1);have G2:=cX HG1 ⟨w.heap.size,0,N⟩ (Nat.le_refl _) (H A' (c.ents.length+1) a');have HNE:=G hBl0.2;have WE:∃W2,(W3.setCell ⟨w.heap.size,0,N⟩ (H A' (c.ents.length+1) a'))=W2:=⟨_,rfl⟩;clear hrow hgr hBl hBl0 HG1 X0z X1z KI x0 y0 y1;go_upto_region 6 with(fail)
  obtain⟨W2,hW2⟩:=WE;try rw[hW2]at R2 G2 X0y X1y|-
  clear hW2 x9 f9;have X1w:=G X1y;have HR:=G R2;have HG2:=G G2;have c0:=X0y.c 0 rfl;have c1:=X0y.c 1 rfl;have c2:=X0y.c 2 rfl;have c3:=X0y.c 3 rfl;have c4:=X0y.c 4 rfl;have f0:=X1y.free 0;have g0:=X1y.c 0 rfl;have f1:=X1y.free 1;have g1:=X1y.c 1 rfl;have f2:=X1y.free 2;have g2:=X1y.c 2 rfl;have f3:=X1y.free 3;have g3:=X1y.c 3 rfl;have f4:=X1y.free 4;have g4:=X1y.c 4 rfl;have ZF:Box (((((W2.setCell ⟨w.heap.size+1,0,N⟩ (H A' (c.ents.length+1) a')).setCell ⟨w.heap.size+1,1,N⟩ (H B c.grps.length b)).setCell ⟨w.heap.size+1,2,N⟩ (I J c.base)).setCell ⟨w.heap.size+1,3,N⟩ (I J c.second)).setCell ⟨w.heap.size+1,4,N⟩ (I J c.third)) (w.heap.size+1) 32 [H A' (c.ents.length+1) a',H B c.grps.length b,I J c.base,I J c.second,I J c.third]:=(((((X1w.out.set 0 (H A' (c.ents.length+1) a')).set 1 (H B c.grps.length b)).set 2 (I J c.base)).set 3 (I J c.second)).set 4 (I J c.third));have GF:W2.grownBy (((((W2.setCell ⟨w.heap.size+1,0,N⟩ (H A' (c.ents.length+1) a')).setCell ⟨w.heap.size+1,1,N⟩ (H B c.grps.length b)).setCell ⟨w.heap.size+1,2,N⟩ (I J c.base)).setCell ⟨w.heap.size+1,3,N⟩ (I J c.second)).setCell ⟨w.heap.size+1,4,N⟩ (I J c.third)) (some (w.heap.size+1)):=aG (p:=⟨w.heap.size+1,4,N⟩) (aG (p:=⟨w.heap.size+1,3,N⟩) (aG (p:=⟨w.heap.size+1,2,N⟩) (aG (p:=⟨w.heap.size+1,1,N⟩) (aG (p:=⟨w.heap.size+1,0,N⟩) (aN W2 _) _) _) _) _) _;have GW:w.grownBy (((((W2.setCell ⟨w.heap.size+1,0,N⟩ (H A' (c.ents.length+1) a')).setCell ⟨w.heap.size+1,1,N⟩ (H B c.grps.length b)).setCell ⟨w.heap.size+1,2,N⟩ (I J c.base)).setCell ⟨w.heap.size+1,3,N⟩ (I J c.second)).setCell ⟨w.heap.size+1,4,N⟩ (I J c.third)) _:=(cX (cX (cX (cX (cX HG2.out ⟨w.heap.size+1,0,N⟩ (by dsimp only;omega) (H A' (c.ents.length+1) a')) ⟨w.heap.size+1,1,N⟩ (by dsimp only;omega) (H B c.grps.length b)) ⟨w.heap.size+1,2,N⟩ (by dsimp only;omega) (I J c.base)) ⟨w.heap.size+1,3,N⟩ (by dsimp only;omega) (I J c.second)) ⟨w.heap.size+1,4,N⟩ (by dsimp only;omega) (I J c.third));have WFE:∃Wf,(((((W2.setCell ⟨w.heap.size+1,0,N⟩ (H A' (c.ents.length+1) a')).setCell ⟨w.heap.size+1,1,N⟩ (H B c.grps.length b)).setCell ⟨w.heap.size+1,2,N⟩ (I J c.base)).setCell ⟨w.heap.size+1,3,N⟩ (I J c.second)).setCell ⟨w.heap.size+1,4,N⟩ (I J c.third))=Wf:=⟨_,rfl⟩;clear X0y X1y R2 G2;go_wp2_with fail;obtain⟨Wf,hWf⟩:=WFE;try rw[hWf]at ZF GF GW|-
  clear hWf;have z0:=ZF.c 0 rfl;have z1:=ZF.c 1 rfl;have z2:=ZF.c 2 rfl;have z3:=ZF.c 3 rfl;have z4:=ZF.c 4 rfl;(try simp only[Exit.inBlock,Exit.then]);refine bodyPost_ret (sU rfl _ _ (b:=w.heap.size+1) rfl z0 z1 z2 z3 z4) rfl ?_;have hR:=HR.out.kept GF (.inr HNE.out);have hx:eR Wf (H D d.length dk,H E el.length ek) ⟨d,el⟩:=⟨D,dk,E,ek,rfl,mF (A:=A) HD.out GW (fun h=>HDA.out (by rintro rfl;exact h rfl)),mF (A:=A) HE.out GW (fun h=>HEA.out (by rintro rfl;exact h rfl))⟩;have hents:=vJ (i:=i) HO.out.len (HO.out.hdr GW) hx hile hR;rw[HPUT.out]at hents;refine⟨A',a',by rw[HPL.out];rfl,⟨hents,mF (A:=A) HG.out GW (fun h=>HGB.out (by rintro e;rw[e]at h;exact h rfl)),rfl,rfl,HNM.out⟩,GW,fun Z W' g2 hZ=>?_⟩
  have hR2:=iM hR g2 (fun q hq z=>by
   obtain⟨z1,z2,-⟩:=hZ q z
   rcases HBL.out with h|h
   ·have:=(aU HO.out.row (h.symm.trans hq)).1;omega
   ·rw[h]at hq;have hq:=Option.some.inj hq;have:=HW1.out;(try dsimp only at hq);omega)
  have hx2:eR W' (H D d.length dk,H E el.length ek) ⟨d,el⟩:=⟨D,dk,E,ek,rfl,mG (A:=A) HD.out GW g2 (fun h q hq=>⟨HDA.out (by rintro rfl;exact h rfl) q hq,fun z=>(hZ q z).2.2.2.1 hq⟩),mG (A:=A) HE.out GW g2 (fun h q hq=>⟨HEA.out (by rintro rfl;exact h rfl) q hq,fun z=>(hZ q z).2.2.2.2 hq⟩)⟩;have hents2:=vJ (i:=i) HO.out.len (HO.out.hdr2 GW g2 (fun q z=>(hZ q z).1)) hx2 hile hR2;rw[HPUT.out]at hents2;exact⟨hents2,mG (A:=A) HG.out GW g2 (fun h q hq=>⟨HGB.out (by rintro e;rw[e]at h;exact h rfl) q hq,fun z=>(hZ q z).2.2.1 hq⟩),rfl,rfl,HNM.out⟩
end
end Go.Proofs.YtkhmjidaeliccaaGreatDoor
