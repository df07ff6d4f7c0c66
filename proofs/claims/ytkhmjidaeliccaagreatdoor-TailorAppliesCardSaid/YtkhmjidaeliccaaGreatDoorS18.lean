import Derived.Test.YtkhmjidaeliccaaGreatDoorS17
import Derived.Shelf.Spec.SlicesInsertGrow
import Derived.Shelf.Slices.Cells
import Derived.Shelf.Slices.Empties
set_option maxRecDepth 100000
set_option maxHeartbeats 51200000
namespace Go.Proofs.YtkhmjidaeliccaaGreatDoor
open Option renaming none->N,some->Z
open Value renaming int->I,slice->H
open IntKind renaming i64->J
open Go.Proofs.Tryz
namespace Tl
open Go.RowKit
theorem lst_c(w:Int)(b:Bool):lst w b=w\/lst w b=w+1:=lst_cases w b
structure Colw(c:Col):Prop where
 p:0<=c.base/\c.base<=65535
 s:0<=c.second/\c.second<=65535
 t:0<=c.third/\c.third<=65535
 e:∀x∈c.ents,∀e∈x.elems,∀k,0<=wt k e/\wt k e<=65535
 g:∀g∈c.grps,0<=g.lo/\g.lo<=65535/\0<=g.hi/\g.hi<=65535
theorem eok_wt{e:Elt}(h:EOk e)(k:Int):0<=wt k e/\wt k e<=65535:=by
 have:=h.p0;have:=h.p1;have:=h.s0;have:=h.s1;have:=h.t0;have:=h.t1;unfold wt;split
 ·omega
 split<;>omega
theorem colw{c:Col}(h:aK c=0):Colw c:=by
 obtain⟨a,d,f,i,j⟩:=kN h;have b:=ents_all (fC h);refine⟨O,O,O,λx hx e he k=>eok_wt (((ent_iff c.base x).1 (b x hx)).ev e he) k,λg hg=>?_⟩;have:=(sZ a).2.2.1 g hg;omega
def fitO(k l w:Int)(c:Col):Bool:=!overC (roomC k w l c)&&decide (l<=65535)
def okX(k l:Int)(xs:List Ent)(i:Nat):Bool:=!((xs.take i).any λx=>x.elems.any λe=>bigE (rsE k l e))
def okE(k l:Int)(es:List Elt)(j:Nat):Bool:=!((es.take j).any λe=>bigE (rsE k l e))
theorem okX_0(k l:Int)(xs:List Ent):okX k l xs 0=true:=rfl
theorem okE_0(k l:Int)(es:List Elt):okE k l es 0=true:=rfl
theorem okE_succ(k l:Int)(es:List Elt){j:Nat}(hj:j<es.length):okE k l es (j+1)=(okE k l es j&&!bigE (rsE k l es[j])):=by
 unfold okE;rw[List.take_add_one,List.getElem?_eq_getElem hj,List.any_append];simp only[Option.toList_some,List.any_cons,List.any_nil,Bool.or_false,Bool.not_or]
theorem okX_succ(k l:Int)(xs:List Ent){i:Nat}(hi:i<xs.length):okX k l xs (i+1)=(okX k l xs i&&okE k l xs[i].elems xs[i].elems.length):=by
 unfold okX okE;rw[List.take_add_one,List.getElem?_eq_getElem hi,List.any_append,List.take_of_length_le (Nat.le_refl _)];simp only[Option.toList_some,List.any_cons,List.any_nil,Bool.or_false,Bool.not_or]
theorem fit_eq(k l w:Int)(c:Col):fitO k l w c=((decide ((roomC k w l c).base<=65502)&&decide ((roomC k w l c).second<=65535)&&decide ((roomC k w l c).third<=65535)&&decide (l<=65535))&&okX k l c.ents c.ents.length):=by
 have b:(roomC k w l c).ents.any (λx=>x.elems.any bigE)=!okX k l c.ents c.ents.length:=by
  unfold okX roomC rsEnt;rw[List.take_of_length_le (Nat.le_refl _)];simp[List.any_map,Function.comp_def]
 have a:∀x y:Int,decide (x<y)=!decide (y<=x):=λx y=>by
  by_cases h:x<y
  ·rw[decide_eq_true h,decide_eq_false O];rfl
  rw[decide_eq_false h,decide_eq_true O];rfl
 unfold fitO overC;rw[b,a,a,a];generalize decide ((roomC k w l c).base<=65502)=b1;generalize decide ((roomC k w l c).second<=65535)=b2;generalize decide ((roomC k w l c).third<=65535)=b3;generalize decide (l<=65535)=b4;generalize okX k l c.ents c.ents.length=b5;cases b1<;>cases b2<;>cases b3<;>cases b4<;>cases b5<;>rfl
theorem bigE_eq(e:Elt)(h:0<=e.p/\0<=e.s/\0<=e.t):bigE e=!(decide (max (max e.p e.s) e.t<=65535)):=by
 unfold bigE;by_cases h1:max (max e.p e.s) e.t<=65535
 ·rw[decide_eq_true h1,decide_eq_false O,decide_eq_false O,decide_eq_false O];rfl
 rw[decide_eq_false h1];simp;omega
theorem rsE_nn(k l:Int){e:Elt}(h:∀k,0<=wt k e):0<=(rsE k l e).p/\0<=(rsE k l e).s/\0<=(rsE k l e).t:=by
 have a:0<=e.p:=h 1;have b:0<=e.s:=h 2;have c:0<=e.t:=h 3;refine⟨?_,?_,?_⟩
 ·rw[rsE_p];split;exact(mvd_nn a).1;exact a
 ·rw[rsE_s];split;exact(mvd_nn b).1;exact b
 rw[rsE_t];split;exact(mvd_nn c).1;exact c
def newO(k l:Int)(c:Col)(es:List Elt):List Elt:=(es.take (es.length-1)).map (rsE k l)++[newE k l c (es.getD (es.length-1) ⟨0,0,0,false⟩)]
end Tl
namespace Tl
open Go.RowKit
def AncM(c:Col)(es:List Elt):Prop:=∀e∈es,∃x∈c.ents,e∈x.elems
theorem known_mem{cl:Int->Int}{c:Col}{t:Li}(hk:Mtc.known cl (aF c.ents) t=true):AncM c (Mtc.elems cl (aF c.ents) (aZ c) t):=by
 intro e he;rw[Mtc.elems_parts]at he;obtain⟨p,hp,he⟩:=List.mem_flatMap.1 he;have hq:p.2=true:=List.all_eq_true.1 hk p hp;unfold Mtc.ofPart at he;rw[if_pos hq]at he;cases hl:aF c.ents p.1 with
 |none=>rw[hl]at he;cases he
 |some es=>
  rw[hl]at he;obtain⟨x,hx,_,rfl⟩:=lM hl;exact⟨x,hx,he⟩
theorem room_mem{k w l:Int}{c:Col}(ho:overC (roomC k w l c)=false){e:Elt}(he:∃x∈c.ents,e∈x.elems):bigE (rsE k l e)=false:=by
 obtain⟨x,hx,he⟩:=he;exact(over_facts ho).2.2.2 (rsEnt k l x) (List.mem_map.2 ⟨x,hx,rfl⟩) (rsE k l e) (List.mem_map.2 ⟨e,he,rfl⟩)
theorem fit_step{k w l:Int}{c:Col}{es:List Elt}(hk:k=1\/k=2\/k=3)(hc:aK c=0)(ha:AncM c es)(hn:0<es.length):(overC (roomC k w l c)=true\/(newO k l (roomC k w l c) es).any bigE=true) ↔ fitO k l w c=false:=by
 cases ho:overC (roomC k w l c)with
 |true=>simp[fitO,ho]
 |false=>
  have d:es.getD (es.length-1) ⟨0,0,0,false⟩∈es:=by
   rw[List.getD_eq_getElem?_getD,List.getElem?_eq_getElem O];exact List.getElem_mem O
  obtain⟨x,hx,b⟩:=ha _ d;have a:=((ent_iff c.base x).1 (ents_all (fC hc) x hx)).ev _ b;obtain⟨i,j,m,_⟩:=over_facts ho;have hp:=a.p1;have hs:=a.s1;have ht:=a.t1;have f:((es.take (es.length-1)).map (rsE k l)).any bigE=false:=by
   rw[List.any_eq_false];intro y hy;obtain⟨e,he,rfl⟩:=List.mem_map.1 hy;rw[room_mem ho (ha e (List.mem_of_mem_take he))];decide
  have g:bigE (newE k l (roomC k w l c) (es.getD (es.length-1) ⟨0,0,0,false⟩))=decide (65535<l):=by
   generalize es.getD (es.length-1) ⟨0,0,0,false⟩=e at *;generalize roomC k w l c=R at *;unfold newE bigE;rcases hk with rfl|rfl|rfl
   ·rw[if_pos rfl]
    dsimp only;rw[decide_eq_false (by omega:¬65535<R.second),decide_eq_false (by omega:¬65535<R.third)];simp
   ·rw[if_neg V,if_pos rfl]
    dsimp only;rw[decide_eq_false (by omega:¬65535<e.p),decide_eq_false (by omega:¬65535<R.third)];simp
   rw[if_neg V,if_neg V];dsimp only;rw[decide_eq_false (by omega:¬65535<e.p),decide_eq_false (by omega:¬65535<e.s)];simp
  unfold fitO newO;rw[List.any_append,f,ho];simp only[List.any_cons,List.any_nil,Bool.or_false,Bool.false_or,g];by_cases h:65535<l
  ·rw[decide_eq_true h,decide_eq_false (by omega:¬l<=65535)];simp
  rw[decide_eq_false h,decide_eq_true (by omega:l<=65535)];simp
theorem newO_L{t:Tlr}{es:List Elt}{c:Col}(h:0<lstK t.lvl es es.length):newO t.lvl (lst (atW t.lvl es) t.bef) (roomT t es c) (es.take (lstK t.lvl es es.length))=newL t es c:=by
 have a:=lstK_le t.lvl es es.length;have e:(es.take (lstK t.lvl es es.length)).length=lstK t.lvl es es.length:=by rw[List.length_take];omega
 unfold newO newL atE;rw[e,List.take_take,Nat.min_eq_left O];congr 3;rw[List.getD_eq_getElem?_getD,List.getD_eq_getElem?_getD,List.getElem?_take,if_pos O]
end Tl
section
open Go.RowKit Go.Maps Go.WideMaps
theorem BK(C:Oa)(cn ck:Nat)(E:Oa)(en ek:Nat)(D:Oa)(dn dk:Nat)(xs ys:Li)(w:Wv)(hC:aA w C xs)(hD:aA w D ys)(hn:xs.length=cn)(hm:ys.length=dn)(hb1:cn<=1099511627776)(hb2:dn<=1099511627776):
  Calls prog 86 #[.agg #[H C cn ck,H E en ek],H D dn dk] w (aU (aE xs ys) w):=by
 have c:By w (w.alloc (.cells #[H C cn ck,H E en ek] 75)):=ba _ _;have g:Box (w.alloc (.cells #[H C cn ck,H E en ek] 75)) w.heap.size 75 [H C cn ck,H E en ek]:=Box.new _ _ _ rfl;have f:∃d,(w.alloc (.cells #[H C cn ck,H E en ek] 75))=d:=⟨_,rfl⟩;have h:=G (λW(hb:By w W)=>xD C D cn dn ck dk xs ys W (hC.below hb) (hD.below hb) hn hm O O);clear hC hD;generalize aE xs ys=r at *;go_enter func86,ntmps86;go_upto_region 1 with(fail)
 obtain⟨d,b⟩:=f;try rw[b]at c g|-
 clear b;have j:=g.c 0 rfl;have a:=G (h.o d c);clear g h;go_wp2_with fail;refine a.o.mono ?_
 rintro e k ⟨rfl,hq⟩;have i:=G (tb c hq.below);clear hq j c a;go_wp2;go_ret;exact⟨rfl,i.o⟩
structure nJ(es:List Ent)(zs:Li)(i:Nat)(f:Bool):Prop where
 le:i<=es.length
 lo:∀t,(ht:t<es.length)->t<i->aE es[t].codes zs<0
 hi:∀t,(ht:t<es.length)->i<=t->0<=aE es[t].codes zs
 fd:f=decide (∃h:i<es.length,aE es[i].codes zs=0)
def vK(es:List Ent)(zs:Li)(w:Wv)(e:Ending)(w':Wv):Prop:=∃(i:Nat)(f:Bool),e=.returned (.tuple #[I J i,.bool f])/\nJ es zs i f/\By w w'
theorem JT(A:Oa)(n k:Nat)(D:Oa)(dn dk:Nat)(es:List Ent)(zs:Li)(w:Wv)(hA:gH w A es)(hD:aA w D zs)(hn:es.length=n)(hm:zs.length=dn)(hbig:n<=1048576)(hdb:dn<=1048576)
  (hsz:∀i,(hi:i<es.length)->es[i].codes.length<=1048576) (hasc:es.Pairwise (λx y=>aE x.codes y.codes<0)) :
  Calls prog 85 #[H A n k,H D dn dk,.func (.func 86) #[] #[]] w (vK es zs w):=by
 subst hn;have S:=G (List.pairwise_iff_getElem.1 hasc);clear hasc;have R:=G hD;have T:=G hsz;clear hD hsz;go_enter func85,ntmps85;go_wp2
 go_loopw [9,10] (λu v wr=>∃i j:Nat,i<=j/\j<=es.length/\u=I J i/\v=I J j/\(∀t,(ht:t<es.length)->t<i->aE es[t].codes zs<0)/\(∀t,(ht:t<es.length)->j<=t->0<=aE es[t].codes zs)/\By w wr)
  (λu v _=>(intOf v).toNat-(intOf u).toNat)
 case atStart=>exact⟨0,es.length,Nat.zero_le _,Nat.le_refl _,rfl,rfl,λt _ h=>O,λt V h2=>O,Below.refl _ _⟩
 obtain⟨i,j,af,hj,rfl,rfl,B,z,a⟩:=hrel;have p:=G B;have m:=G z;clear B z;by_cases q:i<j
 ·obtain⟨h,hh,V,h2,r⟩:∃h:Nat,((i:Int)+(j:Int))/2=(h:Int)/\i<=h/\h<j/\h<es.length:=⟨(i+j)/2,O,O,O,O⟩
  obtain⟨b,o,rfl,_,c⟩:=(hA.below a).at r;obtain⟨C,cc,E,ec,c1,c2,s,_⟩:=c h r;clear c;have Y:=G (λt(ht:t<es.length)(hth:t<h)=>S.o t h ht r hth);have L:=G (λt(ht:t<es.length)(hth:h<t)=>S.o h t r ht hth);have l:=G (BK C es[h].codes.length cc E es[h].elems.length ec D zs.length dk es[h].codes zs wr s (R.o.below a) rfl rfl (by have:=T.o h r;omega) O);rw[hm]at l;clear s;obtain⟨sc,d⟩:=exQ (aE es[h].codes zs);rw[d]at l;have Q:=G d;clear d;generalize es[h].codes.length=cl at *;generalize es[h].elems.length=el at *;by_cases hk:sc<0
  ·have P:decide (sc<0)=true:=decide_eq_true hk
   have K:=G hk;clear hk;go_wp2_with(go_at_call 86;refine l.o.mono ?_;rintro e W ⟨rfl,f⟩);go_roundw
   case rel=>
    refine⟨h+1,j,O,hj,oN_,rfl,λt ht g=>?_,m.o,tb a f⟩;have q:aE es[h].codes zs<0:=by rw[Q.o];exact K.o
    by_cases e:t=h
    ·subst e;exact q
    exact mQ (Y.o t ht O) q
   exact oI_
  have P:decide (sc<0)=false:=decide_eq_false hk;have K:=G hk;clear hk;go_wp2_with(go_at_call 86;refine l.o.mono ?_;rintro e W ⟨rfl,f⟩);go_roundw
  case rel=>
   refine⟨i,h,V,O,rfl,rfl,p.o,λt ht g=>?_,tb a f⟩;have M:¬aE es[h].codes zs<0:=by rw[Q.o];have:=K.o;omega
   by_cases e:t=h
   ·subst e;omega
   have a1:=L.o t ht O;refine Int.not_lt.1 λh0=>M (mQ a1 h0)
  exact oI_
 obtain rfl:i=j:=O;by_cases hend:i<es.length
 ·obtain⟨b,o,rfl,_,c⟩:=(hA.below a).at hend
  obtain⟨C,cc,E,ec,c1,c2,s,_⟩:=c i hend;clear c;have l:=G (BK C es[i].codes.length cc E es[i].elems.length ec D zs.length dk es[i].codes zs wr s (R.o.below a) rfl rfl (by have:=T.o i hend;omega) O);rw[hm]at l;clear s
  have X:=G (show decide (∃h:i<es.length,aE es[i].codes zs=0)=(aE es[i].codes zs==0) by
   rw[Bool.eq_iff_iff];simp only[decide_eq_true_eq,beq_iff_eq];exact⟨λ⟨_,h⟩=>h,λh=>⟨hend,h⟩⟩)
  generalize es[i].codes.length=cl at *;generalize es[i].elems.length=el at *;obtain⟨sc,d⟩:=exQ (aE es[i].codes zs);have F:=G (show(aE es[i].codes zs==0)=(sc==0) by rw[d]);rw[d]at l;clear d;go_wp2_with(go_at_call 86;refine l.o.mono ?_;rintro e W ⟨rfl,f⟩);go_ret2;refine⟨i,_,rfl,⟨hj,p.o,m.o,?_⟩,tb a f⟩;rw[X.o,F.o]
 go_wp2_with fail;go_ret2;refine⟨i,_,rfl,⟨hj,p.o,m.o,?_⟩,a⟩;simp[hend]
end
section
open Go.Shelf Go.RowKit
theorem nQ{b:Nat}{t:TypeId}:∀(vs:Lv)(o:Nat){w:Wv}{cs:Lv},Box w b t cs->o+vs.length<=cs.length->Box (w.setCells b o vs) b t (splice cs o vs)
 | [],o,w,cs,h,_=>by simpa[World.setCells,splice]using h
 |v::r,o,w,cs,h,hl=>by
  rw[List.length_cons]at hl;have a:=nQ r (o+1) (h.set o v) (by rw[List.length_set];omega);have e:splice (cs.set o v) (o+1) r=splice cs o (v::r):=by
   unfold splice;rw[List.length_cons,List.take_set,List.drop_set];rw[if_pos O];have c:(cs.take (o+1)).set o v=cs.take o++[v]:=by
    rw[List.take_succ_eq_append_getElem O,List.set_append_right _ _ (by rw[List.length_take];omega),List.length_take,Nat.min_eq_left O,Nat.sub_self];rfl
   rw[c,List.append_assoc,show o+1+r.length=o+(r.length+1) by omega];rfl
  rw[e]at a;exact a
theorem sX{b:Nat}:∀(vs:Lv)(o:Nat){a w:Wv},a.grownBy w (Z b)->a.grownBy (w.setCells b o vs) (Z b)
 | [],_,_,_,h=>h
 |_::r,o,_,_,h=>sX r (o+1) (bK h (bR _ ⟨b,o,N⟩ _))
theorem Box.newA(w:Wv)(t:TypeId)(Z:Array Value):Box (w.alloc (.cells Z t)) w.heap.size t Z.toList:=by
 show(w.heap.push _)[w.heap.size]?=_
 simp
theorem sS{b:Nat}:∀(vs:Lv)(o:Nat){a w:Wv}{r:Option Nat},a.grownBy w r->a.heap.size<=b->a.grownBy (w.setCells b o vs) r
 | [],_,_,_,_,h,_=>h
 |_::r,o,_,_,_,h,hb=>sS r (o+1) (iT h ⟨b,o,N⟩ hb _) hb
end
section
open Go.RowKit Go.Maps Go.WideMaps
def rA(t:TypeId)(k n:Nat)(cs:Lv)(w:Wv)(e:Ending)(w':Wv):Prop:=∃A c,e=.returned (H A n c)/\w'.ownsRow w.heap.size t k (H A n c) n cs/\By w w'
theorem tE:(prog.info? 98).map (λi=>(i.zero,i.size,i.bytes))=Z (Z (.agg #[.string .empty,I J 0,I J 0]),3,32):=oK_
theorem LM(A:Oa)(n k:Nat)(cs:Lv)(w:Wv)(hA:Sl w A cs)(hl:cs.length=n*3)(h1:∀u∈cs,u.oneCell'=true)(hb:n<=1048576):
  Calls prog 88 #[H A n k] w (rA 98 3 n cs w):=by
 cases A with
 |none=>
  have hz:cs=[]:=by
   cases cs with
   |nil=>rfl
   |cons z r=>obtain⟨b,o,h,_⟩:=hA L;cases h
  subst hz;have hn:n=0:=by simp at hl;omega
  subst hn;have e:=λ(W:Wv) n c=>Lib.run_eql_slice_nil (P:=prog) W 30 98 N n c 0 0 underlying30
  go_enter func88,ntmps88;go_wp2;go_ret;exact⟨N,0,rfl,World.ownsRow_nil _ _ _ _,Below.refl _ _⟩
 |some a=>
  have e:=λ(W:Wv) n c=>Lib.run_eql_slice_nil (P:=prog) W 30 98 (Z a) n c 0 0 underlying30
  go_enter func88,ntmps88;go_wp2_with(at_builtin;refine a_ _ _ 30 98 (.agg #[.string .empty,I J 0,I J 0]) 3 32 rfl rfl underlying30 tE rfl V V rfl (jG [] 98 3 0 w.heap.size rfl rfl (Nat.le_refl _) O) rfl (Sl.alloc hA _) hl h1 O L ?_;intro i j l d g f _ _;simp only[Nat.zero_add,List.nil_append]at d g);go_ret;exact⟨i,j,rfl,d,(ba _ _).trans f⟩
theorem PO:(prog.info? 75).map (λi=>(i.zero,i.size,i.bytes))=Z (Z (.agg #[H N 0 0,H N 0 0]),2,48):=oK_
theorem LL(A:Oa)(n k:Nat)(cs:Lv)(w:Wv)(hA:Sl w A cs)(hl:cs.length=n*2)(h1:∀u∈cs,u.oneCell'=true)(hb:n<=1048576):
  Calls prog 89 #[H A n k] w (rA 75 2 n cs w):=by
 cases A with
 |none=>
  have hz:cs=[]:=by
   cases cs with
   |nil=>rfl
   |cons z r=>obtain⟨b,o,h,_⟩:=hA L;cases h
  subst hz;have hn:n=0:=by simp at hl;omega
  subst hn;have e:=λ(W:Wv) n c=>Lib.run_eql_slice_nil (P:=prog) W 29 75 N n c 0 0 underlying29
  go_enter func89,ntmps89;go_wp2;go_ret;exact⟨N,0,rfl,World.ownsRow_nil _ _ _ _,Below.refl _ _⟩
 |some a=>
  have e:=λ(W:Wv) n c=>Lib.run_eql_slice_nil (P:=prog) W 29 75 (Z a) n c 0 0 underlying29
  go_enter func89,ntmps89;go_wp2_with(at_builtin;refine a_ _ _ 29 75 (.agg #[H N 0 0,H N 0 0]) 2 48 rfl rfl underlying29 PO rfl V V rfl (jG [] 75 2 0 w.heap.size rfl rfl (Nat.le_refl _) O) rfl (Sl.alloc hA _) hl h1 O L ?_;intro i j l d g f _ _;simp only[Nat.zero_add,List.nil_append]at d g);go_ret;exact⟨i,j,rfl,d,(ba _ _).trans f⟩
end
section
open Go.RowKit
theorem jD{α:Type}(enc:α->Lv)(k:Nat)(hk:∀x,(enc x).length=k):∀(xs:List α)(i j:Nat)(v:Value)(y:α)(hi:i<xs.length),j<k->enc y=(enc xs[i]).set j v->(aB enc xs).set (i*k+j) v=aB enc (xs.set i y)
 | [],i,_,_,_,hi,_,_=>absurd hi (Nat.not_lt_zero _)
 |x::xs,0,j,v,y,_,hj,he=>by
  have a:aB enc (x::xs)=enc x++aB enc xs:=by simp[aB]
  have b:aB enc ((x::xs).set 0 y)=enc y++aB enc xs:=by simp[aB]
  rw[a,b,he,Nat.zero_mul,Nat.zero_add,List.set_append_left _ _ (by rw[hk];exact hj)];rfl
 |x::xs,i+1,j,v,y,hi,hj,he=>by
  have a:aB enc (x::xs)=enc x++aB enc xs:=by simp[aB]
  have b:aB enc ((x::xs).set (i+1) y)=enc x++aB enc (xs.set i y):=by simp[aB]
  have c:i<xs.length:=by simpa using hi
  rw[a,b,List.set_append_right _ _ (by rw[hk,Nat.add_mul];omega),hk,show(i+1)*k+j-k=i*k+j by rw[Nat.add_mul,Nat.one_mul];omega];rw[jD enc k hk xs i j v y c hj (by simpa using he)]
theorem GD{α β:Type}:∀(ms:List α)(vs:List β)(i:Nat)(v:β)(hi:i<ms.length),(ms.zip vs).set i (ms[i],v)=ms.zip (vs.set i v)
 | [],_,i,_,hi=>absurd hi (Nat.not_lt_zero _)
 |_::_,[],_,_,_=>L
 |m::ms,u::vs,0,v,_=>L
 |m::ms,u::vs,i+1,v,hi=>by simp[GD ms vs i v (by simpa using hi)]
def iK(B:Oa)(z:Nat)(w:Wv)(C:Oa)(zs:Li):Prop:=aA w C zs/\(zs≠[]->∀q,blk C=Z q->blk B≠Z q/\q≠z)
theorem Sl.stored{w:Wv}{C:Oa}{cs:Lv}(h:Sl w C cs)(p:Addr)(hp:cs≠[]->∀q,blk C=Z q->p.block≠q)(v:Value):Sl (w.setCell p v) C cs:=λhne=>by
 obtain⟨b,o,rfl,hc⟩:=h hne;refine⟨b,o,rfl,λj u hu=>?_⟩;have hn:=hp hne b rfl;rw[World.cell?_of_block (Below.heap_setCell w p v b (λe=>hn e.symm))];exact hc j u hu
theorem iK.below{w w':Wv}{z:Nat}{B C:Oa}{zs:Li}(h:iK B z w C zs)(hb:By w w'):iK B z w' C zs:=⟨h.1.below hb,h.2⟩
theorem iK.stored{w:Wv}{z:Nat}{B C:Oa}{zs:Li}(h:iK B z w C zs)(p:Addr)(hp:blk B=Z p.block\/p.block=z)(v:Value):iK B z (w.setCell p v) C zs:=
 ⟨Sl.stored h.1 p (λhne q hq e=>by
  have a:=h.2 (by rintro rfl;exact hne rfl) q hq
  rcases hp with g|g
  ·exact a.1 (by rw[g,e])
  ·exact a.2 (by rw[<-e,g])) v,h.2⟩
theorem kW{w:Wv}{C:Oa}{cs:Lv}(h:Sl w C cs)(hne:cs≠[]){q:Nat}(hq:blk C=Z q):q<w.heap.size:=by
 obtain⟨b,o,rfl,hc⟩:=h hne;have hl:0<cs.length:=List.length_pos_iff.2 hne;have a:=hc 0 cs[0] (List.getElem?_eq_getElem hl);have:=World.block_lt_of_cell? w _ a;have e:b=q:=by injection hq
 dsimp only at this;omega
theorem tF{zs:Li}(h:zs≠[]):zs.map (Value.int .i64)≠[]:=by simpa using h
theorem aN{w:Wv}{base:Nat}{e:TypeId}{size n c:Nat}{A:Oa}{xs:Lv}(h:w.ownsRow base e size (H A n c) n xs){q:Nat}(hq:blk A=Z q):base<=q/\q<w.heap.size:=h.lt q (by rw[bH];exact hq)
theorem jF{w:Wv}{base:Nat}{e:TypeId}{size n c:Nat}{A:Oa}{xs:Lv}(h:w.ownsRow base e size (H A n c) n xs)(hn:0<n):∃g,A=Z ⟨g,0,N⟩/\base<=g/\g<w.heap.size:=by
 rcases h.2 with⟨_,f⟩|⟨g,a,b,hv,d,i,_⟩
 ·omega
 injection hv with hA _ _;exact⟨g,hA,d,(aN h (by rw[hA];rfl)).2⟩
theorem uD{w:Wv}{base z size n c:Nat}{e:TypeId}{B:Oa}{cs:Lv}(h:w.ownsRow base e size (H B n c) n cs)(hz:z<base)(p:Addr)(hp:p.block=z)(v:Value):(w.setCell p v).ownsRow base e size (H B n c) n cs:=
 ownsRow_setCell_below h O v
structure gJ(w:Wv)(base z:Nat)(B:Oa)(cap:Nat)(ms:List Mp):Prop where
 ex:∃vs:Lv,vs.length=ms.length/\w.ownsRow base 154 3 (H B ms.length cap) ms.length (aB mpC (ms.zip vs))/\∀i,(hi:i<ms.length)->(hv:i<vs.length)->∃C c,vs[i]=H C ms[i].toq.length c/\ms[i].toq.length<=c/\iK B z w C ms[i].toq
theorem mps_raw{w:Wv}{A:Oa}{ms:List Mp}(h:Mps w A ms):∃cs,Sl w A cs/\cs.length=ms.length*3/\(∀u∈cs,u.oneCell'=true)/\
  ∀base z B cap w',By w w'->w.heap.size<=base->w.heap.size<=z->w'.ownsRow base 154 3 (H B ms.length cap) ms.length cs->gJ w' base z B cap ms:=by
 obtain⟨vs,f,m,g⟩:=h;have b:(ms.zip vs).length=ms.length:=by rw[List.length_zip];omega
 refine⟨aB mpC (ms.zip vs),m,by rw[fY mpC 3 (λ_=>rfl),b],?_,λbase z B cap w' hb hbs hzs ho=>⟨vs,f,ho,λi hi hv=>?_⟩⟩
 ·intro u hu
  obtain⟨p,hp,hg⟩:=List.mem_flatMap.1 hu;obtain⟨j,hj,rfl⟩:=List.getElem_of_mem hp;simp only[mpC,List.mem_cons,List.not_mem_nil,or_false]at hg;have a:j<ms.length:=O;rcases hg with rfl|rfl|rfl
  ·rfl
  ·obtain⟨C,c,e,_⟩:=g j a O
   rw[show(ms.zip vs)[j].2=vs[j]' O from by rw[List.getElem_zip],e];rfl
  rfl
 obtain⟨C,c,k,l,d⟩:=g i hi hv;refine⟨C,c,k,l,d.below hb,λhne q hq=>?_⟩;have f:=kW d (tF hne) hq;refine⟨λe=>?_,O⟩;have:=(aN ho e).1;omega
section
variable {w w':Wv}{base z:Nat}{B:Oa}{cap:Nat}{ms:List Mp}
theorem gJ.below(h:gJ w base z B cap ms)(hb:By w w'):gJ w' base z B cap ms:=by
 obtain⟨vs,e,f,g⟩:=h.ex;refine⟨vs,e,aG f hb,λi hi hv=>?_⟩;obtain⟨C,c,a,b,d⟩:=g i hi hv;exact⟨C,c,a,b,d.below hb⟩
theorem gJ.is(h:gJ w base z B cap ms):Mps w B ms:=by
 obtain⟨vs,e,f,g⟩:=h.ex;refine⟨vs,e,Sl.of_own f,λi hi hv=>?_⟩;obtain⟨C,c,a,b,d⟩:=g i hi hv;exact⟨C,c,a,b,d.1⟩
theorem gJ.at(h:gJ w base z B cap ms){i:Nat}(hi:i<ms.length):∃g C c,B=Z ⟨g,0,N⟩/\base<=g/\g<w.heap.size/\w.cell? ⟨g,i*3,N⟩=Z (I J ms[i].frm)/\w.cell? ⟨g,i*3+1,N⟩=Z (H C ms[i].toq.length c)/\w.cell? ⟨g,i*3+2,N⟩=Z (.string ms[i].tag)/\w.frozen? ⟨g,i*3+1,N⟩=false/\aA w C ms[i].toq:=by
 obtain⟨vs,p,b,m⟩:=h.ex;obtain⟨g,rfl,d,e⟩:=jF b O;obtain⟨C,c,k,o,l⟩:=m i hi O;have n:(ms.zip vs).length=ms.length:=by rw[List.length_zip];omega
 have f:i<(ms.zip vs).length:=O;have a:(ms.zip vs)[i]=(ms[i],vs[i]' O):=List.getElem_zip;have gt:=λj(hj:j<3)=>(b.cellAt (i*3+j) O).trans (gR mpC 3 (λ_=>rfl) (ms.zip vs) i j f hj)
 refine⟨g,C,c,rfl,d,e,(gt 0 O).trans (by rw[a];rfl),(gt 1 O).trans (by rw[a,k];rfl),(gt 2 O).trans (by rw[a];rfl),b.frozenAt _,l.1⟩
theorem gJ.put{g:Nat}(h:gJ w base z (Z ⟨g,0,N⟩) cap ms){i:Nat}(hi:i<ms.length){C:Oa}{c:Nat}(hc:ms[i].toq.length<=c)(hC:aA w C ms[i].toq)(hap:ms[i].toq≠[]->∀q,blk C=Z q->g≠q/\q≠z):
  gJ (w.setCell ⟨g,i*3+1,N⟩ (H C ms[i].toq.length c)) base z (Z ⟨g,0,N⟩) cap ms:=by
 obtain⟨vs,o,p,r⟩:=h.ex;have d:i<(ms.zip vs).length:=by rw[List.length_zip];omega
 have a:(ms.zip vs)[i]=(ms[i],vs[i]' O):=List.getElem_zip;refine⟨vs.set i (H C ms[i].toq.length c),by simpa using o,?_,λj hj hv=>?_⟩
 ·have:=(p.stored (i*3+1) (H C ms[i].toq.length c)).1
  rw[jD mpC 3 (λ_=>rfl) (ms.zip vs) i 1 _ (ms[i],H C ms[i].toq.length c) d O (by rw[a];rfl),GD ms vs i _ hi]at this;exact this
 have b:iK (Z ⟨g,0,N⟩) z w C ms[i].toq:=⟨hC,λhne q hq=>⟨λe=>(hap hne q hq).1 (Option.some.inj (show Z g=Z q from e)),(hap hne q hq).2⟩⟩;by_cases e:i=j
 ·subst e
  exact⟨C,c,by rw[List.getElem_set_self],hc,b.stored ⟨g,i*3+1,N⟩ (.inl rfl) _⟩
 obtain⟨f,k,l,m,n⟩:=r j hj O;exact⟨f,k,by rw[List.getElem_set_ne e,l],m,n.stored ⟨g,i*3+1,N⟩ (.inl rfl) _⟩
theorem gJ.off(h:gJ w base z B cap ms)(hz:z<base)(p:Addr)(hp:p.block=z)(v:Value):gJ (w.setCell p v) base z B cap ms:=by
 obtain⟨vs,e,f,g⟩:=h.ex;refine⟨vs,e,uD f hz p hp v,λi hi hv=>?_⟩;obtain⟨C,c,a,b,d⟩:=g i hi hv;exact⟨C,c,a,b,d.stored p (.inr hp) v⟩
end
def jL(B:Oa)(z:Nat)(w:Wv)(C:Oa)(es:List Elt):Prop:=cM w C es/\(es≠[]->∀q,blk C=Z q->blk B≠Z q/\q≠z)
theorem xL{es:List Elt}(h:es≠[]):aB Elt.cells es≠[]:=by
 intro e;have:=congrArg List.length e;rw[fY Elt.cells 4 (λ_=>rfl)]at this;have:=List.length_pos_iff.2 h;simp at *;omega
theorem jL.below{w w':Wv}{z:Nat}{B C:Oa}{es:List Elt}(h:jL B z w C es)(hb:By w w'):jL B z w' C es:=⟨h.1.below hb,h.2⟩
theorem jL.stored{w:Wv}{z:Nat}{B C:Oa}{es:List Elt}(h:jL B z w C es)(p:Addr)(hp:blk B=Z p.block\/p.block=z)(v:Value):jL B z (w.setCell p v) C es:=
 ⟨Sl.stored h.1 p (λhne q hq e=>by
  have a:=h.2 (by rintro rfl;exact hne rfl) q hq
  rcases hp with g|g
  ·exact a.1 (by rw[g,e])
  ·exact a.2 (by rw[<-e,g])) v,h.2⟩
def enC(v:Value×Value):Lv:=[v.1,v.2]
structure eW(w:Wv)(base z:Nat)(B:Oa)(cap:Nat)(xs:List Ent):Prop where
 ex:∃vs:List (Value×Value),vs.length=xs.length/\w.ownsRow base 75 2 (H B xs.length cap) xs.length (aB enC vs)/\∀i,(hi:i<xs.length)->(hv:i<vs.length)->∃C c E d,vs[i]=(H C xs[i].codes.length c,H E xs[i].elems.length d)/\iK B z w C xs[i].codes/\jL B z w E xs[i].elems
theorem NP{w:Wv}{A:Oa}{xs:List Ent}(h:gH w A xs):∃cs,Sl w A cs/\cs.length=xs.length*2/\(∀u∈cs,u.oneCell'=true)/\
  ∀base z B cap w',By w w'->w.heap.size<=base->w.heap.size<=z->w'.ownsRow base 75 2 (H B xs.length cap) xs.length cs->eW w' base z B cap xs:=by
 obtain⟨vs,f,l,g⟩:=h;refine⟨aB enC vs,l,by rw[fY enC 2 (λ_=>rfl),f],?_,λbase z B cap w' hb hbs hzs ho=>⟨vs,f,ho,λi hi hv=>?_⟩⟩
 ·intro u hu
  obtain⟨p,hp,hg⟩:=List.mem_flatMap.1 hu;obtain⟨j,hj,rfl⟩:=List.getElem_of_mem hp;obtain⟨C,c,E,d,e,_⟩:=(g j O hj).ex;simp only[enC,List.mem_cons,List.not_mem_nil,or_false]at hg;rcases hg with rfl|rfl
  ·rw[e];rfl
  rw[e];rfl
 obtain⟨C,c,E,d,k,a,b⟩:=(g i hi hv).ex;refine⟨C,c,E,d,k,⟨a.below hb,λhne q hq=>⟨λe=>?_,?_⟩⟩,⟨b.below hb,λhne q hq=>⟨λe=>?_,?_⟩⟩⟩
 ·have:=kW a (tF hne) hq
  have:=(aN ho e).1;omega
 ·have:=kW a (tF hne) hq
  omega
 ·have:=kW b (xL hne) hq
  have:=(aN ho e).1;omega
 have:=kW b (xL hne) hq;omega
section
variable {w w':Wv}{base z:Nat}{B:Oa}{cap:Nat}{xs:List Ent}
theorem eW.below(h:eW w base z B cap xs)(hb:By w w'):eW w' base z B cap xs:=by
 obtain⟨vs,f,g,j⟩:=h.ex;refine⟨vs,f,aG g hb,λi hi hv=>?_⟩;obtain⟨C,c,E,d,a,b,e⟩:=j i hi hv;exact⟨C,c,E,d,a,b.below hb,e.below hb⟩
theorem eW.is(h:eW w base z B cap xs):gH w B xs:=by
 obtain⟨vs,f,g,j⟩:=h.ex;refine⟨vs,f,Sl.of_own g,λi hi hv=>?_⟩;obtain⟨C,c,E,d,a,b,e⟩:=j i hi hv;exact⟨C,c,E,d,a,b.1,e.1⟩
theorem eW.at(h:eW w base z B cap xs){i:Nat}(hi:i<xs.length):∃g C c E d,B=Z ⟨g,0,N⟩/\base<=g/\g<w.heap.size/\w.cell? ⟨g,i*2,N⟩=Z (H C xs[i].codes.length c)/\w.cell? ⟨g,i*2+1,N⟩=Z (H E xs[i].elems.length d)/\w.frozen? ⟨g,i*2,N⟩=false/\w.frozen? ⟨g,i*2+1,N⟩=false/\aA w C xs[i].codes/\cM w E xs[i].elems:=by
 obtain⟨vs,o,a,n⟩:=h.ex;obtain⟨g,rfl,b,e⟩:=jF a O;obtain⟨C,c,E,d,k,l,m⟩:=n i hi O;have f:i<vs.length:=O;have gt:=λj(hj:j<2)=>(a.cellAt (i*2+j) O).trans (gR enC 2 (λ_=>rfl) vs i j f hj)
 exact⟨g,C,c,E,d,rfl,b,e,(gt 0 O).trans (by rw[k];rfl),(gt 1 O).trans (by rw[k];rfl),a.frozenAt _,a.frozenAt _,l.1,m.1⟩
theorem eW.put{g:Nat}(h:eW w base z (Z ⟨g,0,N⟩) cap xs){i:Nat}(hi:i<xs.length){C:Oa}{c:Nat}{E:Oa}{d:Nat}(hC:aA w C xs[i].codes)(hap:xs[i].codes≠[]->∀q,blk C=Z q->g≠q/\q≠z)(hE:cM w E xs[i].elems)(hape:xs[i].elems≠[]->∀q,blk E=Z q->g≠q/\q≠z):
  eW ((w.setCell ⟨g,i*2,N⟩ (H C xs[i].codes.length c)).setCell ⟨g,i*2+1,N⟩ (H E xs[i].elems.length d)) base z (Z ⟨g,0,N⟩) cap xs:=by
 obtain⟨vs,v,x,y⟩:=h.ex;have a:i<vs.length:=O;refine⟨(vs.set i (H C xs[i].codes.length c,vs[i].2)).set i (H C xs[i].codes.length c,H E xs[i].elems.length d),by simpa using v,?_,λj hj hv=>?_⟩
 ·have k:=(x.stored (i*2+0) (H C xs[i].codes.length c)).1
  rw[jD enC 2 (λ_=>rfl) vs i 0 _ (H C xs[i].codes.length c,vs[i].2) a O rfl]at k;have l:=(k.stored (i*2+1) (H E xs[i].elems.length d)).1;rw[jD enC 2 (λ_=>rfl) (vs.set i (H C xs[i].codes.length c,vs[i].2)) i 1 _ (H C xs[i].codes.length c,H E xs[i].elems.length d) (by simpa using a) O (by rw[List.getElem_set_self];rfl)]at l;exact l
 have b:iK (Z ⟨g,0,N⟩) z w C xs[i].codes:=⟨hC,λhne q hq=>⟨λe=>(hap hne q hq).1 (Option.some.inj (show Z g=Z q from e)),(hap hne q hq).2⟩⟩;have f:jL (Z ⟨g,0,N⟩) z w E xs[i].elems:=⟨hE,λhne q hq=>⟨λe=>(hape hne q hq).1 (Option.some.inj (show Z g=Z q from e)),(hape hne q hq).2⟩⟩;by_cases e:i=j
 ·subst e
  exact⟨C,c,E,d,by rw[List.getElem_set_self],(b.stored ⟨g,i*2,N⟩ (.inl rfl) _).stored ⟨g,i*2+1,N⟩ (.inl rfl) _,(f.stored ⟨g,i*2,N⟩ (.inl rfl) _).stored ⟨g,i*2+1,N⟩ (.inl rfl) _⟩
 obtain⟨m,o,n,p,r,s,t⟩:=y j hj O;exact⟨m,o,n,p,by rw[List.getElem_set_ne e,List.getElem_set_ne e,r],(s.stored ⟨g,i*2,N⟩ (.inl rfl) _).stored ⟨g,i*2+1,N⟩ (.inl rfl) _,(t.stored ⟨g,i*2,N⟩ (.inl rfl) _).stored ⟨g,i*2+1,N⟩ (.inl rfl) _⟩
theorem eW.off(h:eW w base z B cap xs)(hz:z<base)(p:Addr)(hp:p.block=z)(v:Value):eW (w.setCell p v) base z B cap xs:=by
 obtain⟨vs,f,g,j⟩:=h.ex;refine⟨vs,f,uD g hz p hp v,λi hi hv=>?_⟩;obtain⟨C,c,E,d,a,b,e⟩:=j i hi hv;exact⟨C,c,E,d,a,b.stored p (.inr hp) v,e.stored p (.inr hp) v⟩
end
end
section
open Go.Shelf Go.RowKit Go.Lib
theorem iB:(prog.info? 75).map (λi=>(i.zero,i.size,i.bytes))=Z (Z (.agg #[H N 0 0,H N 0 0]),2,48):=oK_
theorem qD:(prog.info? 75).map (·.size)=Z 2:=oK_
theorem qC{P:Program}(k:Nat)(w:Wv)(dT sT ty elem:TypeId)(b o dLen dCap:Nat)(a:Addr)(sLen sCap:Nat)(cs:Lv)
  (hu:P.underlying dT=Z (.slice elem)) (hs:(P.info? elem).map (·.size)=Z k) (hn:cs.length=Nat.min sLen dLen*k)
  (hsrc:∀j v,cs[j]?=Z v->w.cell? (a.add j)=Z v) (hc:∀j,j<cs.length->(w.cell? ⟨b,o+j,N⟩).isSome=true) (hf:∀j,j<cs.length->w.frozen? ⟨b,o+j,N⟩=false) (h1:∀v∈cs,v.oneCell'=true) :
  (Builtin.copy_ #[dT,sT] ty #[H (Z ⟨b,o,N⟩) dLen dCap,H (Z a) sLen sCap]).run P w=.ok (goInt (Nat.min sLen dLen)) (w.setCells b o cs):=by
 have hl:=run_loadCells_list (P:=P) w a cs hsrc;have c:=run_storeCells_cells (P:=P) b o cs 0 w (by simpa using hc) (by simpa using hf) h1;cases hq:P.info? elem with
 |none=>simp[hq]at hs
 |some i=>
  have hi:i.size=k:=by simpa[hq]using hs
  rw[hn]at hl;simp[Builtin.copy_,run_underlying hu,Builtin.lenOf,Builtin.firstCells,sizeOf,typeInfo,hq,hi,hl,c]
theorem PV(b n c i vb vc:Nat)(cs vs:Lv)(w:Wv)(hi:i<n)(hroom:n+1<=c)(hc63:c<=9223372036854775807)(hn:n<=1099511627776)(hvb:vb≠b)
  (hcl:cs.length=n*2) (hvl:vs.length=2)
  (hcs:∀j v,cs[j]?=Z v->w.cell? ⟨b,j,N⟩=Z v) (hsp:∀j,j<(n+1)*2->(w.cell? ⟨b,j,N⟩).isSome=true) (hfz:∀j,w.frozen? ⟨b,j,N⟩=false)
  (hvs:∀j v,vs[j]?=Z v->w.cell? ⟨vb,j,N⟩=Z v) (h1c:∀v∈cs,v.oneCell'=true) (h1v:∀v∈vs,v.oneCell'=true)
  (tA tB:TypeId) (kA kB:Nat) (hsa:w.shape? vb=Z (tA,kA)) (hsb:w.shape? b=Z (tB,kB)) (hkB:kB≠0) (hfa:w.frozen? ⟨vb,0,N⟩=false) (hfe:w.frozen? ⟨vb,kA,N⟩=false) :
  Calls prog 87 #[H (Z ⟨b,0,N⟩) n c,I J i,H (Z ⟨vb,0,N⟩) 1 vc] w λe w'=>
   e=.returned (H (Z ⟨b,0,N⟩) (n+1) c)/\w'=(w.drew.setCells b ((i+1)*2) (cs.drop (i*2))).setCells b (i*2) vs:=by
 have q:prog.follows Departure.mixedOrders=true:=oK_;have C:¬((i:Int)=(n:Int)):=O
 have p:∀o lb cb,(callFunc 145 #[H (Z ⟨vb,0,N⟩) 1 vc,H (Z ⟨b,o,N⟩) lb cb]).run prog w=.ok (.value (.bool false)) w:=λo lb cb=>by
  rw[run_callFunc_extern func145 oK_ oK_ oK_ (e:=Extern.SlicesOverlaps.overlaps #[29,29] #[4]) oK_,
   Lib.run_overlaps_apart w 29 4 75 underlying29 2 sizeOf75 ⟨vb,0,N⟩ ⟨b,o,N⟩ 1 vc lb cb hvb tA tB kA kB hsa hsb hkB hfa hfe]
  rfl
 have d:(cs.drop (i*2)).length=(n-i)*2:=by rw[List.length_drop,hcl];omega
 have f:∀ty dc sc,(Builtin.copy_ #[29,29] ty #[H (Z ⟨b,(i+1)*2,N⟩) (n-i) dc,H (Z ⟨b,i*2,N⟩) (n+1-i) sc]).run prog w.drew=.ok (goInt (Nat.min (n+1-i) (n-i))) (w.drew.setCells b ((i+1)*2) (cs.drop (i*2))):=λty dc sc=>
  qC 2 w.drew _ _ ty 75 b ((i+1)*2) (n-i) dc ⟨b,i*2,N⟩ (n+1-i) sc (cs.drop (i*2)) underlying29 qD (by rw[d];simp only[Nat.min_def];split<;>omega)
   (λj v hj=>by rw[Addr.add_lit];exact hcs (i*2+j) v (by rwa[List.getElem?_drop]at hj))
   (λj hj=>hsp _ (by rw[d]at hj;omega)) (λj hj=>hfz _) (λv hv=>h1c v (List.mem_of_mem_drop hv))
 obtain⟨l,a⟩:∃l,l=w.drew.setCells b ((i+1)*2) (cs.drop (i*2)):=⟨_,rfl⟩
 have g:∀k,k<(n+1)*2->(l.cell? ⟨b,k,N⟩).isSome=true:=λk hk=>by
  rw[a];exact isSome_setCells b (cs.drop (i*2)) ((i+1)*2) w.drew (λj hj=>hsp _ (by rw[d]at hj;omega)) k (hsp k hk)
 have m:∀ty dc,(Builtin.copy_ #[29,29] ty #[H (Z ⟨b,i*2,N⟩) (n+1-i) dc,H (Z ⟨vb,0,N⟩) 1 vc]).run prog l=.ok (goInt (Nat.min 1 (n+1-i))) (l.setCells b (i*2) vs):=λty dc=>
  qC 2 l _ _ ty 75 b (i*2) (n+1-i) dc ⟨vb,0,N⟩ 1 vc vs underlying29 qD (by rw[hvl];simp only[Nat.min_def];split<;>omega)
   (λj v hj=>by
    rw[Addr.add_lit,a,World.cell?_setCells_out b _ _ _ _ (λh _=>absurd h hvb),Nat.zero_add]
    exact hvs j v hj)
   (λj hj=>g _ O) (λj hj=>by rw[a,World.frozen?_setCells];exact hfz _) h1v
 rw[<-a]at f|-;clear a g hcs hsp hfz hvs hsa hsb hfa hfe d;have B:IntKind.i64.wrap ((i:Int)+1)=(i:Int)+1:=by rw[IntKind.wrap_i64];omega
 have t:(0:Int)<=(i:Int)+1:=O;have A:((i:Int)+1).toNat=i+1:=O;have r:(i:Int)+1<=(n:Int)+1:=O;have s:(i:Int)<=(n:Int)+1:=O;have z:i<=n:=O;have x:¬(c=i+1):=O;have y:¬(c=i):=O;go_enter func87,ntmps87;go_wp2_with(simp only[p]);go_region_law_o (refine step_copy_runI rfl _ _ 29 29 rfl _ _ (by simp[Act.eval,Act.put]) (by simp[Act.eval,Act.put]) (f _ _ _) ?_);go_wp2_with(at_builtin;refine wpList_copy_runI _ rfl _ _ 29 29 rfl _ _ rfl rfl (m _ _) ?_);go_ret;exact⟨rfl,rfl⟩
theorem PU(b n c i vb vc:Nat)(cs vs:Lv)(w:Wv)(hi:i<n)(hnc:n<=c)(hroom:c<n+1)(hn:n<=1048576)(hbw:b<w.heap.size)(hvw:vb<w.heap.size)
  (hcl:cs.length=n*2) (hvl:vs.length=2)
  (hcs:∀j v,cs[j]?=Z v->w.cell? ⟨b,j,N⟩=Z v)
  (hvs:∀j v,vs[j]?=Z v->w.cell? ⟨vb,j,N⟩=Z v) (h1c:∀v∈cs,v.oneCell'=true) (h1v:∀v∈vs,v.oneCell'=true) :
  Calls prog 87 #[H (Z ⟨b,0,N⟩) n c,I J i,H (Z ⟨vb,0,N⟩) 1 vc] w λe w'=>
   ∃ROW:Array Value,n+1<=grownCap w (n+1) c 75/\grownCap w (n+1) c 75<=maxLen/\ROW.size=grownCap w (n+1) c 75*2/\ROW.toList.take (i*2)=cs.take (i*2)/\e=.returned (H (Z ⟨w.heap.size,0,N⟩) (n+1) (grownCap w (n+1) c 75))/\
   w'=(((w.alloc (.cells ROW 75)).drew.setCells w.heap.size (i*2) vs).drew).setCells w.heap.size ((i+1)*2) (cs.drop (i*2)):=by
 obtain⟨i0,C,E,K,q⟩:=info_parts iB;have X:prog.follows Departure.mixedOrders=true:=oK_;have ap:¬((i:Int)=(n:Int)):=O;have aq:(c:Int)<(n:Int)+1:=O;have D:(n:Int)+1-(i:Int)=((n+1-i:Nat):Int):=O;have p:i+(n+1-i)=n+1:=O;have l:(Builtin.firstCells i0.size i (H (Z ⟨b,0,N⟩) i c)).run prog w.drew=.ok (cs.take (i*2)).toArray w.drew:=by
  rw[K]
  exact run_firstCells_some w.drew 2 i ⟨b,0,N⟩ i c (cs.take (i*2)) (by rw[List.length_take];omega) (λj v hj=>by
   rw[Addr.add_lit,Nat.zero_add]
   rw[List.getElem?_take]at hj
   split at hj
   ·exact hcs j v hj
   ·cases hj)
 have g:∀ty,(Builtin.append_ #[29,3] ty #[H (Z ⟨b,0,N⟩) i c,I J ((n:Int)+1-(i:Int))]).run prog w =
   .ok (H (Z ⟨w.heap.size,0,N⟩) (n+1) (grownCap w (n+1) c 75)) (w.drew.alloc (.cells ((cs.take (i*2)).toArray++Builtin.zeroCells (Value.agg #[H N 0 0,H N 0 0]).cells (n+1-i)++Builtin.zeroCells (Value.agg #[H N 0 0,H N 0 0]).cells (grownCap w (n+1) c 75-(n+1))) 75)):=λty=>by
  have h:=Lib.run_append_grow_zeros w 29 3 ty 75 i0 _ .i64 .i64 underlying29 underlying3 C E (Z ⟨b,0,N⟩) i c (cs.take (i*2)) l (n+1-i) O O O O (by rw[q];omega) (by rw[q,p];exact growslice_fits hroom O);rw[p]at h;rw[D];exact h
 have s:n+1<=grownCap w (n+1) c 75:=grownCap_ge w _ _ _;have m:=grownCap_le_maxLen w (n+1) c 75 (by unfold maxLen;omega);obtain⟨G,hG⟩:∃G,G=grownCap w (n+1) c 75:=⟨_,rfl⟩;rw[<-hG]at g s m|-;have F:(Value.agg #[H N 0 0,H N 0 0]).cells.size=2:=rfl;obtain⟨ROW,a⟩:∃ROW:Array Value,ROW=(cs.take (i*2)).toArray++Builtin.zeroCells (Value.agg #[H N 0 0,H N 0 0]).cells (n+1-i)++Builtin.zeroCells (Value.agg #[H N 0 0,H N 0 0]).cells (G-(n+1)):=⟨_,rfl⟩;rw[<-a]at g;have z:ROW.size=G*2:=by
  have Y:=size_zeroCells (Value.agg #[H N 0 0,H N 0 0]).cells (n+1-i);have e2:=size_zeroCells (Value.agg #[H N 0 0,H N 0 0]).cells (G-(n+1));rw[F]at Y e2;rw[a,Array.size_append,Array.size_append,Y,e2];simp;omega
 have A:ROW.toList.take (i*2)=cs.take (i*2):=by
  rw[a,Array.toList_append,Array.toList_append,List.append_assoc,List.take_append_of_le_length oU_,List.take_of_length_le oU_]
 obtain⟨f,d⟩:∃f,f=w.drew.alloc (.cells ROW 75):=⟨_,rfl⟩;rw[<-d]at g
 have R:∀j,j<(n+1)*2->(f.cell? ⟨w.heap.size,j,N⟩).isSome=true:=λj hj=>by
  rw[d,World.cell?_alloc_at (w:=w.drew) ROW _ w.heap.size j rfl,Array.getElem?_eq_getElem O];rfl
 have y:∀j,f.frozen? ⟨w.heap.size,j,N⟩=false:=λj=>by rw[d];exact World.frozen?_alloc_at (w:=w.drew) ROW _ w.heap.size j rfl
 have S:∀j v,w.cell? ⟨b,j,N⟩=Z v->f.cell? ⟨b,j,N⟩=Z v:=λj v h=>by rw[d,World.cell?_alloc_past (w:=w.drew) _ b j hbw];exact h
 have T:∀j v,w.cell? ⟨vb,j,N⟩=Z v->f.cell? ⟨vb,j,N⟩=Z v:=λj v h=>by rw[d,World.cell?_alloc_past (w:=w.drew) _ vb j hvw];exact h
 have B:∀(W:Wv),(∀x,W.cell? x=f.cell? x)->(∀x,W.frozen? x=f.frozen? x)->∀ty dc,(Builtin.copy_ #[29,29] ty #[H (Z ⟨w.heap.size,i*2,N⟩) (n+1-i) dc,H (Z ⟨vb,0,N⟩) 1 vc]).run prog W=.ok (goInt (Nat.min 1 (n+1-i))) (W.setCells w.heap.size (i*2) vs):=λW hWc hWf ty dc=>
  qC 2 W _ _ ty 75 w.heap.size (i*2) (n+1-i) dc ⟨vb,0,N⟩ 1 vc vs underlying29 qD (by rw[hvl];simp only[Nat.min_def];split<;>omega)
   (λj v hj=>by rw[Addr.add_lit,hWc,Nat.zero_add];exact T _ v (hvs j v hj))
   (λj hj=>by rw[hWc];exact R _ O) (λj hj=>by rw[hWf];exact y _) h1v
 have ad:G<=9223372036854775807:=by unfold maxLen at m;omega
 have ai:¬(G=i):=O;have ae:¬(G=i+1):=O;have al:¬(c=i):=O;have V:b≠w.heap.size:=O;have o:(cs.drop (i*2)).length=(n-i)*2:=by rw[List.length_drop,hcl];omega
 have k:∀(W:Wv),(∀x,W.cell? x=(f.setCells w.heap.size (i*2) vs).cell? x)->(∀x,W.frozen? x=(f.setCells w.heap.size (i*2) vs).frozen? x)->∀ty dc sc,(Builtin.copy_ #[29,29] ty #[H (Z ⟨w.heap.size,(i+1)*2,N⟩) (n-i) dc,H (Z ⟨b,i*2,N⟩) (n-i) sc]).run prog W=.ok (goInt (Nat.min (n-i) (n-i))) (W.setCells w.heap.size ((i+1)*2) (cs.drop (i*2))):=λW hWc hWf ty dc sc=>
  qC 2 W _ _ ty 75 w.heap.size ((i+1)*2) (n-i) dc ⟨b,i*2,N⟩ (n-i) sc (cs.drop (i*2)) underlying29 qD (by rw[o];simp only[Nat.min_def];split<;>omega)
   (λj v hj=>by
    rw[Addr.add_lit,hWc,World.cell?_setCells_out _ _ _ _ _ (λh _=>absurd h V)]
    exact S _ v (hcs (i*2+j) v (by rwa[List.getElem?_drop]at hj)))
   (λj hj=>by rw[o]at hj;rw[hWc];exact isSome_setCells _ _ _ _ (λt ht=>R _ O) _ (R _ O))
   (λj hj=>by rw[hWf,World.frozen?_setCells];exact y _) (λv hv=>h1c v (List.mem_of_mem_drop hv))
 subst d;have L:∀x,((w.alloc (.cells ROW 75)).drew).cell? x=(w.drew.alloc (.cells ROW 75)).cell? x:=λx=>rfl
 have M:∀x,((w.alloc (.cells ROW 75)).drew).frozen? x=(w.drew.alloc (.cells ROW 75)).frozen? x:=λx=>rfl
 have P:∀x,(((w.alloc (.cells ROW 75)).drew.setCells w.heap.size (i*2) vs).drew).cell? x=((w.drew.alloc (.cells ROW 75)).setCells w.heap.size (i*2) vs).cell? x:=λx=>rfl
 have Q:∀x,(((w.alloc (.cells ROW 75)).drew.setCells w.heap.size (i*2) vs).drew).frozen? x=((w.drew.alloc (.cells ROW 75)).setCells w.heap.size (i*2) vs).frozen? x:=λx=>rfl
 have r:=hG_ (λe' w'(h1:e'=Ending.returned (H (Z ⟨w.heap.size,0,N⟩) (n+1) G))(h2:w'=(((w.alloc (.cells ROW 75)).drew.setCells w.heap.size (i*2) vs).drew).setCells w.heap.size ((i+1)*2) (cs.drop (i*2)))=>show ∃ROW:Array Value,n+1<=G/\G<=maxLen/\ROW.size=G*2/\ROW.toList.take (i*2)=cs.take (i*2)/\e'=.returned (H (Z ⟨w.heap.size,0,N⟩) (n+1) G)/\w'=(((w.alloc (.cells ROW 75)).drew.setCells w.heap.size (i*2) vs).drew).setCells w.heap.size ((i+1)*2) (cs.drop (i*2))from⟨ROW,s,m,z,A,h1,h2⟩);have ao:IntKind.i64.wrap ((i:Int)+1)=(i:Int)+1:=by rw[IntKind.wrap_i64];omega
 have aj:(0:Int)<=(i:Int)+1:=O;have an:((i:Int)+1).toNat=i+1:=O;have af:(i:Int)+1<=(n:Int)+1:=O;have ag:(i:Int)<=(n:Int)+1:=O;have am:i<=n:=O;have ak:(i:Int)<=(n:Int):=O;clear D p l a hG z A K q E C F o hcl hvl hcs hvs;go_enter func87,ntmps87
 go_wp2_with(first
  |(at_builtin;refine Lib.wpList_append_run _ rfl _ _ _ _ rfl _ _ rfl rfl _ _ (g _) ?_)
  |(at_builtin;refine wpList_copy_runI _ rfl _ _ 29 29 rfl _ _ rfl rfl (B _ L M _ _) ?_)
  | (at_builtin;refine wpList_copy_runI _ rfl _ _ 29 29 rfl _ _ rfl rfl (k _ (λ_=>rfl) (λ_=>rfl) _ _ _) ?_))
 go_region_law_o (refine step_copy_runI rfl _ _ 29 29 rfl (H (Z ⟨w.heap.size,(i+1)*2,N⟩) (n-i) (G-(i+1))) (H (Z ⟨b,i*2,N⟩) (n-i) (c-i)) (by simp[Act.eval,Act.put]) (by simp[Act.eval,Act.put]) (k _ P Q 3 (G-(i+1)) (c-i)) ?_);go_wp2;go_ret;exact r.o _ _ rfl rfl
theorem PW{L D vs:Lv}{p N k:Nat}(hD:D.length=N)(hL:L.take N=D)(hl:N+k<=L.length)(hp:p<=N)(hk:vs.length=k):(splice (splice L (p+k) (D.drop p)) p vs).take (N+k)=D.take p++(vs++D.drop p)/\(splice (splice L (p+k) (D.drop p)) p vs).length=L.length:=by
 have d:p+k+(D.drop p).length=N+k:=by rw[List.length_drop];omega
 have a:(splice L (p+k) (D.drop p)).length=L.length:=length_splice _ _ _ O;refine⟨?_,by rw[length_splice _ _ _ (by rw[a];omega),a]⟩;have ei:L.take p=D.take p:=by rw[<-hL,List.take_take,Nat.min_eq_left hp]
 have b:(splice L (p+k) (D.drop p)).take p=D.take p:=by
  unfold splice;rw[List.take_append_of_le_length (by rw[List.length_take];omega),List.take_take,Nat.min_eq_left O,ei]
 have c:(splice L (p+k) (D.drop p)).drop (p+k)=D.drop p++L.drop (N+k):=by
  unfold splice;rw[List.drop_append_of_le_length (by rw[List.length_take];omega),List.drop_of_length_le (by rw[List.length_take];omega),List.nil_append,d]
 generalize splice L (p+k) (D.drop p)=X at *;unfold splice;rw[hk,b,c];have e:D.take p++(vs++(D.drop p++L.drop (N+k)))=(D.take p++(vs++D.drop p))++L.drop (N+k):=oL_;have el:(D.take p++(vs++D.drop p)).length=N+k:=by simp[hD,hk];omega
 rw[e,List.take_append_of_le_length O,List.take_of_length_le O]
theorem OZ{L D vs:Lv}{p N k:Nat}(hD:D.length=N)(hL:L.take p=D.take p)(hl:N+k<=L.length)(hp:p<=N)(hk:vs.length=k):(splice (splice L p vs) (p+k) (D.drop p)).take (N+k)=D.take p++(vs++D.drop p)/\(splice (splice L p vs) (p+k) (D.drop p)).length=L.length:=by
 have c:p+k+(D.drop p).length=N+k:=by rw[List.length_drop];omega
 have b:(splice L p vs).length=L.length:=length_splice _ _ _ O;refine⟨?_,by rw[length_splice _ _ _ O,b]⟩;have a:(splice L p vs).take (p+k)=D.take p++vs:=by
  unfold splice;have el:(D.take p++vs).length=p+k:=by simp[hD,hk];omega
  rw[hL,<-List.append_assoc,List.take_append_of_le_length O,List.take_of_length_le O]
 generalize splice L p vs=X at *;unfold splice;have el:(D.take p++(vs++D.drop p)).length=N+k:=by simp[hD,hk];omega
 have e:D.take p++vs++(D.drop p++X.drop (p+k+(D.drop p).length))=(D.take p++(vs++D.drop p))++X.drop (p+k+(D.drop p).length):=oL_;rw[a,e,List.take_append_of_le_length O,List.take_of_length_le O]
def eB{α:Type}(xs:List α)(i:Nat)(x:α):List α:=xs.take i++x::xs.drop i
theorem yF{α:Type}(enc:α->Lv)(k:Nat)(hk:∀x,(enc x).length=k)(xs:List α)(i:Nat)(hi:i<=xs.length):(aB enc xs).take (i*k)=aB enc (xs.take i)/\(aB enc xs).drop (i*k)=aB enc (xs.drop i):=by
 have e:=iA (enc:=enc) (xs.take i) (xs.drop i);rw[List.take_append_drop]at e;have l:=fY enc k hk (xs.take i);rw[List.length_take,Nat.min_eq_left hi]at l;rw[e];exact⟨by rw[List.take_append_of_le_length O,List.take_of_length_le O],by rw[List.drop_append_of_le_length O,List.drop_of_length_le O,List.nil_append]⟩
theorem OI{α:Type}(enc:α->Lv)(k:Nat)(hk:∀x,(enc x).length=k)(xs:List α)(i:Nat)(hi:i<=xs.length)(x:α):aB enc (eB xs i x)=(aB enc xs).take (i*k)++(enc x++(aB enc xs).drop (i*k)):=by
 obtain⟨a,b⟩:=yF enc k hk xs i hi;rw[a,b];unfold eB;rw[iA];rfl
theorem AQ{w:Wv}{base g n c:Nat}{t:TypeId}{k:Nat}{L xs:Lv}(h:Box w g t L)(hb:base<=g)(hc:L.length=c*k)(hn:n<=c)(hm:c<=maxLen)(ht:L.take (n*k)=xs)(hx:xs.length=n*k):w.ownsRow base t k (H (Z ⟨g,0,N⟩) n c) n xs:=
 ⟨hx,.inr ⟨g,c,L.toArray,rfl,hb,h,hn,hm,by simp[hc],by simpa using ht⟩⟩
def qY(vs:List (Value×Value))(i:Nat)(x:Value×Value)(base:Nat)(A:Oa)(w:Wv)(e:Ending)(w':Wv):Prop:=∃B k,e=.returned (H B (vs.length+1) k)/\w'.ownsRow base 75 2 (H B (vs.length+1) k) (vs.length+1) (aB enC (eB vs i x))/\w.grownBy w' (blk A)/\(blk B=blk A\/blk B=Z w.heap.size)
theorem PT(A:Oa)(n c base i:Nat)(ps:List (Value×Value))(x:Value×Value)(vb vc:Nat)(w:Wv)(h:w.ownsRow base 75 2 (H A n c) n (aB enC ps))(hbase:base<=w.heap.size)(hn:ps.length=n)(hi:i<=n)(hv:Box w vb 75 [x.1,x.2])(hvb:∀g,blk A=Z g->vb≠g)(hb:n<=1048576)(h1c:∀v∈aB enC ps,v.oneCell'=true)(h1v:x.1.oneCell'=true/\x.2.oneCell'=true):
  Calls prog 87 #[H A n c,I J i,H (Z ⟨vb,0,N⟩) 1 vc] w (qY ps i x base A w):=by
 subst hn;have o:∀j v,[x.1,x.2][j]?=Z v->w.cell? ⟨vb,j,N⟩=Z v:=λj v hj=>hv.cell hj
 have d:∀v∈[x.1,x.2],v.oneCell'=true:=by intro v hv;simp at hv;rcases hv with rfl|rfl;exact h1v.1;exact h1v.2
 have a:(aB enC ps).length=ps.length*2:=fY enC 2 (λ_=>rfl) ps;have y:(aB enC (eB ps i x)).length=(ps.length+1)*2:=by
  rw[fY enC 2 (λ_=>rfl)];unfold eB;simp;omega
 have m:=OI enC 2 (λ_=>rfl) ps i hi x;by_cases hin:i<ps.length
 ·rcases h.2 with⟨_,h0⟩|⟨g,aj,q,af,h1,Q,h3,h4,D,P⟩
  ·omega
  injection af with hA _ hc;subst hA;subst hc;have r:Box w g 75 q.toList:=Q;have F:q.toList.length=c*2:=by simpa using D
  have aa:vb≠g:=hvb g rfl
  have K:∀j v,(aB enC ps)[j]?=Z v->w.cell? ⟨g,j,N⟩=Z v:=λj v hj=>by
   rw[<-P]at hj;exact r.cell (by rw[List.getElem?_take]at hj;split at hj;exact hj;cases hj)
  by_cases hroom:ps.length+1<=c
  ·have ae:∀j,j<(ps.length+1)*2->(w.cell? ⟨g,j,N⟩).isSome=true:=λj hj=>by rw[r.cell (List.getElem?_eq_getElem O)];rfl
   refine(PV g ps.length c i vb vc (aB enC ps) [x.1,x.2] w hin hroom (by unfold maxLen at h4;omega) O aa a rfl K ae (λj=>r.free _) o h1c d 75 75 2 (c*2) (by unfold Box at hv;simp[World.shape?,hv]) (by unfold Box at r;simp[World.shape?,r,D]) O (hv.free _) (hv.free _)).mono ?_;rintro e M ⟨rfl,rfl⟩;obtain⟨s1,s2⟩:=PW (vs:=[x.1,x.2]) (p:=i*2) (k:=2) a P O O rfl;have s:Box w.drew g 75 q.toList:=r;have t:=nQ ((aB enC ps).drop (i*2)) ((i+1)*2) s (by simp[a];omega);have l:=nQ [x.1,x.2] (i*2) t (by rw[length_splice _ _ _ (by simp[a];omega)];simp;omega);rw[show(i+1)*2=i*2+2 by omega]at l|-;refine⟨_,_,rfl,AQ l h1 (by rw[s2,F]) hroom h4 (by rw[show(ps.length+1)*2=ps.length*2+2 by omega,s1,m];rfl) y,sX _ _ (sX _ _ (eP (aP w _))),.inl rfl⟩
  refine(PU g ps.length c i vb vc (aB enC ps) [x.1,x.2] w hin h3 O hb r.lt hv.lt a rfl K o h1c d).mono ?_;rintro e M ⟨b,R,S,T,W,rfl,rfl⟩;generalize grownCap w (ps.length+1) c 75=G at *;have X:=Box.newA w 75 b;have f:b.toList.length=G*2:=by simpa using T
  have s:Box (w.alloc (.cells b 75)).drew w.heap.size 75 b.toList:=X;have t:=nQ [x.1,x.2] (i*2) s (by rw[f];simp;omega);have l:Box ((w.alloc (.cells b 75)).drew.setCells w.heap.size (i*2) [x.1,x.2]).drew w.heap.size 75 _:=t;have E:=nQ ((aB enC ps).drop (i*2)) ((i+1)*2) l (by rw[length_splice _ _ _ (by rw[f];simp;omega),f,List.length_drop,a];omega);obtain⟨s1,s2⟩:=OZ (vs:=[x.1,x.2]) (L:=b.toList) (p:=i*2) (k:=2) a W (by rw[f];omega) O rfl;rw[show(i+1)*2=i*2+2 by omega]at E|-;refine⟨_,_,rfl,AQ E hbase (by rw[s2,f]) R S (by rw[show(ps.length+1)*2=ps.length*2+2 by omega,s1,m];rfl) y,?_,.inr rfl⟩;exact sS _ _ (eP (sS _ _ (eP (yL (aP w _) _)) (Nat.le_refl _))) (Nat.le_refl _)
 obtain rfl:i=ps.length:=O;have ad:Sl w (Z ⟨vb,0,N⟩) [x.1,x.2]:=λ_=>⟨vb,0,rfl,λj v hj=>by rw[Nat.zero_add];exact o j v hj⟩
 have C:=hG_ (λB k M(Q:M.ownsRow base 75 2 (H B (ps.length+1) k) (ps.length+1) (aB enC ps++[x.1,x.2]))(D:w.grownBy M (Value.ownBlock (H A ps.length c)))(P:B=A\/B=Z ⟨w.heap.size,0,N⟩)=>show qY ps ps.length x base A w (.returned (H B (ps.length+1) k)) M from⟨B,k,rfl,by rw[m,List.take_of_length_le O,List.drop_of_length_le O,List.append_nil];exact Q,by rw[bH]at D;exact D,by rcases P with rfl|rfl;exact .inl rfl;exact .inr rfl⟩);clear m y o hv;go_enter func87,ntmps87;go_wp2_with(at_builtin;refine a_ _ _ 29 75 (.agg #[H N 0 0,H N 0 0]) 2 48 rfl rfl underlying29 iB rfl V V rfl h rfl ad oL_ d O hbase ?_;intro B1 c1 w1 z an am Y ab)
 all_goals(
  go_ret
  exact C.o _ _ _ z Y ab)
end
section
open Go.RowKit Go.Maps Go.WideMaps
def eO{κ:Type}(P:Program)(k:TypeId)(kl:κ->Lit)(ok:κ->Prop)(w:Wv)(b n:Nat)(f:κ->Option Value)(sz:Nat):Prop:=
 ∃D:DataW Value,w.ownsMap P k mR b n D/\(∀x,ok x->Maps.has D (kl x)=(f x).isSome/\∀z,D.atKey (kl x) (.held z)=.held ((f x).getD z))/\Maps.size D=sz
section
variable {κ:Type}{P:Program}{k:TypeId}{kl:κ->Lit}{ok:κ->Prop}{w w':Wv}{b n sz:Nat}{f:κ->Option Value}
theorem eO.is(h:eO P k kl ok w b n f sz):aV P k kl ok w b n f:=by obtain⟨D,a,c,_⟩:=h;exact⟨D,a,c⟩
theorem eO.made(P:Program)(k:TypeId)(kl:κ->Lit)(ok:κ->Prop)(w:Wv):eO P k kl ok (w.alloc (.map #[] 0)) w.heap.size 0 (λ_=>N) 0:=
 ⟨.map [],World.ownsMap_made w P k mR,λ_ _=>⟨rfl,λ_=>rfl⟩,rfl⟩
theorem eO.lt(h:eO P k kl ok w b n f sz):b<w.heap.size:=h.is.lt
theorem eO.kept{row:Option Nat}(h:eO P k kl ok w b n f sz)(hg:w.grownBy w' row)(hne:Z b≠row):eO P k kl ok w' b n f sz:=by
 obtain⟨D,a,c⟩:=h;exact⟨D,a.kept hg hne,c⟩
theorem eO.below(h:eO P k kl ok w b n f sz)(hb:By w w'):eO P k kl ok w' b n f sz:=
 h.kept (row:=N) ⟨hb.os,hb.tape,hb.output,hb.size,λk hk _=>hb.block k hk⟩ L
theorem eO.put[DecidableEq κ]{t e:TypeId}(h:eO P k kl ok w b n f sz)(K:Keyed P k)(ht:P.underlying t=Z (.map k e))(hn:n<maxLen){key v:Value}{x:κ}(hx:ok x)(hkey:keyOf P k key=Z (kl x))
  (hinj:∀y,ok y->kl y=kl x->y=x) :
  ∃w',(Instr.mapUpdate t (.map (Z b)) key v).run P w=.ok () w'/\eO P k kl ok w' b (n+1) (λy=>if y=x then Z v else f y) (if(f x).isSome=true then sz else sz+1)/\w.grownBy w' (Z b):=by
 obtain⟨D,g,i,j⟩:=h;obtain⟨w',c,l,m⟩:=g.update K ht hn hkey (val:=v) (d:=.held v) (ps:=[]) rfl;refine⟨w',c,⟨_,l,λy hy=>?_,?_⟩,m⟩
 ·dsimp only
  by_cases e:y=x
  ·subst e
   rw[if_pos rfl];exact⟨by rw[has_put_same g.isMap (K.key hkey)];rfl,λz=>atKey_put_same g.isMap (K.key hkey) _ _⟩
  rw[if_neg e];have a:kl y≠kl x:=λe'=>e (hinj y hy e')
  rw[has_put_other a];exact⟨(i y hy).1,λz=>(atKey_put_other a _ _).trans ((i y hy).2 z)⟩
 rw[size_put (g.tidy K),(i x hx).1,j]
theorem eO.drop[DecidableEq κ]{t e:TypeId}(h:eO P k kl ok w b n f sz)(K:Keyed P k)(ht:P.underlying t=Z (.map k e)){key:Value}{x:κ}(hx:ok x)(hkey:keyOf P k key=Z (kl x))(hinj:∀y,ok y->kl y=kl x->y=x)(ty:TypeId):
  ∃w',(Builtin.delete_ #[t,k] ty #[.map (Z b),key]).run P w=.ok (.tuple #[]) w'/\eO P k kl ok w' b n (λy=>if y=x then N else f y) (sz-if(f x).isSome=true then 1 else 0)/\w.grownBy w' (Z b):=by
 obtain⟨D,g,d,i⟩:=h;obtain⟨w',c,l,m⟩:=g.drop K ht hkey ty;refine⟨w',c,⟨_,l,λy hy=>?_,?_⟩,m.grown⟩
 ·dsimp only
  by_cases e:y=x
  ·subst e
   rw[if_pos rfl];exact⟨has_del_same,λz=>atKey_del_same _⟩
  rw[if_neg e];have a:kl y≠kl x:=λe'=>e (hinj y hy e')
  rw[has_del_other a];exact⟨(d y hy).1,λz=>(atKey_del_other a _).trans ((d y hy).2 z)⟩
 have j:=size_del (k:=kl x) (g.tidy K);rw[(d x hx).1,i]at j;omega
theorem eO.len{t e:TypeId}(h:eO P k kl ok w b n f sz)(ht:P.underlying t=Z (.map k e))(ty:TypeId):(Builtin.len_ #[t] ty #[.map (Z b)]).run P w=.ok (.int .i64 sz) w:=by
 obtain⟨D,a,_,c⟩:=h;rw[a.len ht ty,c]
end
section
variable {κ:Type}{P:Program}{w:Wv}{ops:Array Oper}{rest:List Oper}{o:Oper}{a:Act}{Q:Exit->Act->Wv->Prop}{md:Region.Mode}{S:Wv->Prop}
variable {k:TypeId}{kl:κ->Lit}{ok:κ->Prop}{b n sz:Nat}{f:κ->Option Value}
end
theorem kK.low{w w':Wv}{s base:Nat}{va:Int}{a:Bool}(h:kK w s va a)(hb:Below base w w')(hs:s+1<base):kK w' s va a:=⟨h.b0.below hb O,h.b1.below hb hs⟩
theorem kK.set{w:Wv}{s:Nat}{va:Int}{a:Bool}(h:kK w s va a)(p:Addr)(hp:p.block<s)(v:Value):kK (w.setCell p v) s va a:=⟨dS h.b0 p O v,dS h.b1 p O v⟩
theorem NF{cl:Int->Int}{ent:Li->Option (List Elt)}{imp:Int->List Elt}(h:∀p q,(Mtc.ofPart ent imp p q).length<=16)(t:Li):(Mtc.elems cl ent imp t).length<=16*t.length:=by
 refine Mtc.parts_ind cl ent (P:=λt=>(Mtc.elems cl ent imp t).length<=16*t.length) (by simp[Mtc.elems_nil]) (λt ht ih=>?_) t;rw[Mtc.elems_step ht,List.length_append];have a:=h (Mtc.matched cl ent t).1 (Mtc.matched cl ent t).2.2;have b:=(Mtc.matched_len (cl:=cl) (ent:=ent) ht).1;omega
theorem sJ(x:Nrm)(c:Col)(t:Li):(aT x c t).length<=1024*t.length:=by
 have a:=NF (cl:=cls (usN x).cls) (uE (nR c)) (dtx x false t);have b:=pE x false t;unfold aT;omega
structure Grw(WD W:Wv)(base:Nat)(K0 K:Oa)(k:Nat)(zs:Li):Prop where
 own:W.ownsRow base 3 1 (H K zs.length k) zs.length (zs.map (Value.int .i64))
 gr:WD.grownBy W (blk K0)
 or_:K=K0\/∀q,blk K=Z q->WD.heap.size<=q
theorem Grw.app{WD W W':Wv}{base:Nat}{K0 K B:Oa}{k k':Nat}{zs ys:Li}{o:Obj}(h:Grw WD W base K0 K k zs)(ho:W'.ownsRow base 3 1 (H B (zs.length+ys.length) k') (zs.length+ys.length) (zs.map (Value.int .i64)++ys.map (Value.int .i64)))(hg:(W.alloc o).grownBy W' (Value.ownBlock (H K zs.length k)))(hB:B=K\/B=Z ⟨(W.alloc o).heap.size,0,N⟩):Grw WD W' base K0 B k' (zs++ys):=by
 rw[bH]at hg;have a:=yL h.gr o;have hz:=a.size;refine⟨by rw[List.length_append,List.map_append];exact ho,?_,?_⟩
 ·rcases h.or_ with rfl|g
  ·exact bK a hg
  exact⟨hg.os.trans a.os,hg.tape.trans a.tape,hg.output.trans a.output,Nat.le_trans hz hg.size,λq hq hne=>(hg.block q O (λe=>by have:=g q e.symm;omega)).trans (a.block q hq hne)⟩
 rcases hB with rfl|rfl
 ·exact h.or_
 right;intro q hq;have:q=(W.alloc o).heap.size:=by injection hq with hq;exact hq.symm
 omega
theorem Grw.low{WD W:Wv}{base:Nat}{K0 K:Oa}{k:Nat}{zs:Li}(h:Grw WD W base K0 K k zs)(hb:base<=WD.heap.size)(hk:∀q,blk K0=Z q->base<=q):Below base WD W:=
 ⟨h.gr.os,h.gr.tape,h.gr.output,h.gr.size,λq hq=>h.gr.block q O (λe=>by have:=hk q e.symm;omega)⟩
theorem Grw.ints{WD W:Wv}{base:Nat}{K0 K A:Oa}{k n c bd:Nat}{zs d:Li}(h:Grw WD W base K0 K k zs)(hA:WD.ownsRow bd 3 1 (H A n c) n (d.map (Value.int .i64)))(hk:∀q,blk K0=Z q->q<bd):aA W A d:=by
 refine Sl.of_own (hA.kept h.gr ?_);rw[bH];cases hb:blk A with
 |none=>exact .inl rfl
 |some q=>
  right;intro e;have a:=(hA.lt q (by rw[bH];exact hb)).1;have b:=hk q e.symm;omega
end
end Go.Proofs.YtkhmjidaeliccaaGreatDoor
