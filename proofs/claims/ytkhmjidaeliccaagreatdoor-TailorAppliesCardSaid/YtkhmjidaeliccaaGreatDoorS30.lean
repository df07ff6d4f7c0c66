import Derived.Test.YtkhmjidaeliccaaGreatDoorS22
import Derived.Test.YtkhmjidaeliccaaGreatDoorS29
set_option maxRecDepth 100000
set_option maxHeartbeats 51200000
namespace Go.Proofs.YtkhmjidaeliccaaGreatDoor
open Option renaming none->N,some->Z
open Value renaming int->I,slice->H
open IntKind renaming i64->J
open Go.Proofs.Tryz
namespace Tl
open Go.RowKit Go.Maps Go.WideMaps
def putF(x:Ent):List Ent->Bool->List Ent
 | [],done=>if done=true then []else [x]
 |y::ys,done=>(if 0<=aE y.codes x.codes/\done=false then [x]else [])++((if aE y.codes x.codes≠0 then [y]else [])++putF x ys (done||decide (0<=aE y.codes x.codes)))
theorem putF_done{x:Ent}:∀{es:List Ent},(∀y∈es,0<aE y.codes x.codes)->putF x es true=es
 | [],_=>rfl
 |y::ys,h=>by
  have a:=h y L;unfold putF;rw[if_neg L,if_pos O,Bool.true_or,putF_done (λz hz=>h z (by simp[hz]))];rfl
theorem putE_cons{x y:Ent}{ys:List Ent}:putE (y::ys) x=if aE y.codes x.codes<0 then y::(ys.filter (λz=>decide (aE z.codes x.codes<0))++x::ys.filter (λz=>decide (0<aE z.codes x.codes)))else ys.filter (λz=>decide (aE z.codes x.codes<0))++x::(if 0<aE y.codes x.codes then y::ys.filter (λz=>decide (0<aE z.codes x.codes))else ys.filter (λz=>decide (0<aE z.codes x.codes))):=by
 unfold putE;by_cases h:aE y.codes x.codes<0
 ·rw[if_pos h,List.filter_cons,if_pos (by simpa using h),List.filter_cons,if_neg oU_]
  rfl
 rw[if_neg h,List.filter_cons,if_neg (by simpa using h),List.filter_cons];by_cases h2:0<aE y.codes x.codes
 ·rw[if_pos (by simpa using h2),if_pos h2]
 rw[if_neg (by simpa using h2),if_neg h2]
theorem putF_eq{x:Ent}:∀{es:List Ent},es.Pairwise (λx y=>aE x.codes y.codes<0)->putF x es false=putE es x
 | [],_=>rfl
 |y::ys,h=>by
  obtain⟨i,j⟩:=List.pairwise_cons.1 h;rw[putE_cons];unfold putF;by_cases g:aE y.codes x.codes<0
  ·rw[if_neg O,if_pos O,if_pos g,decide_eq_false O,Bool.false_or,putF_eq j]
   rfl
  have c:∀z∈ys,0<aE z.codes x.codes:=λz hz=>by
   have a:=i z hz;by_cases e:aE y.codes x.codes=0
   ·rw[(mP _ _).1 e]at a
    rw[Pk.cmp_neg] ;omega
   have b:aE x.codes y.codes<0:=by rw[Pk.cmp_neg];omega
   have:=mQ b a;rw[Pk.cmp_neg];omega
  have d:ys.filter (λz=>decide (aE z.codes x.codes<0))=[]:=List.filter_eq_nil_iff.2 λz hz=>by have:=c z hz;simp;omega
  have f:ys.filter (λz=>decide (0<aE z.codes x.codes))=ys:=List.filter_eq_self.2 λz hz=>by simpa using c z hz
  rw[if_neg g,d,f,if_pos ⟨O,rfl⟩,decide_eq_true O,Bool.or_true,putF_done c];by_cases e:aE y.codes x.codes=0
  ·rw[if_neg (by simpa using e),if_neg O]
   rfl
  rw[if_pos e,if_pos O];rfl
end Tl
section
open Go.RowKit Go.Maps Go.WideMaps Tl
def SlN(Z:Nat->Prop)(w:Wv)(A:Oa)(cs:Lv):Prop:=Sl w A cs/\(cs≠[]->∀q,blk A=some q->¬Z q)
theorem SlN.chg{Z:Nat->Prop}{w w':Wv}{A:Oa}{cs:Lv}(h:SlN Z w A cs)(hc:Chg Z w w'):SlN Z w' A cs:=⟨hc.sl h.1 h.2,h.2⟩
theorem SlN.below{Z:Nat->Prop}{w w':Wv}{A:Oa}{cs:Lv}(h:SlN Z w A cs)(hb:By w w'):SlN Z w' A cs:=⟨h.1.below hb,h.2⟩
theorem SlN.mono{Z Z':Nat->Prop}{w:Wv}{A:Oa}{cs:Lv}(h:SlN Z w A cs)(hz:∀q,Z' q->Z q):SlN Z' w A cs:=⟨h.1,λhne q hq z=>h.2 hne q hq (hz q z)⟩
theorem SlN.none{w:Wv}{A:Oa}{cs:Lv}(h:Sl w A cs):SlN (λ_=>False) w A cs:=⟨h,λ_ _ _ z=>z⟩
theorem SlN.old{Z:Nat->Prop}{w:Wv}{A:Oa}{cs:Lv}(h:Sl w A cs)(hz:∀q,Z q->w.heap.size<=q):SlN Z w A cs:=⟨h,λhne q hq z=>by have:=kW h hne hq;have:=hz q z;omega⟩
theorem SlN.own{Z:Nat->Prop}{w:Wv}{base:Nat}{e:TypeId}{size n c:Nat}{A:Oa}{xs:Lv}(h:w.ownsRow base e size (H A n c) n xs)(hz:∀q,Z q->q<base):SlN Z w A xs:=⟨Sl.of_own h,λ_ q hq z=>by have:=(aN h hq).1;have:=hz q z;omega⟩
def bZ(Z:Nat->Prop)(w:Wv)(v:Value×Value)(x:Ent):Prop:=∃A c B d,v=(H A x.codes.length c,H B x.elems.length d)/\SlN Z w A (x.codes.map (Value.int .i64))/\SlN Z w B (aB Elt.cells x.elems)
theorem bZ.below{Z:Nat->Prop}{w w':Wv}{v:Value×Value}{x:Ent}(h:bZ Z w v x)(hb:By w w'):bZ Z w' v x:=by
 obtain⟨A,c,B,d,e,a,b⟩:=h;exact⟨A,c,B,d,e,a.below hb,b.below hb⟩
theorem bZ.chg{Z:Nat->Prop}{w w':Wv}{v:Value×Value}{x:Ent}(h:bZ Z w v x)(hc:Chg Z w w'):bZ Z w' v x:=by
 obtain⟨A,c,B,d,e,a,b⟩:=h;exact⟨A,c,B,d,e,a.chg hc,b.chg hc⟩
theorem bZ.mono{Z Z':Nat->Prop}{w:Wv}{v:Value×Value}{x:Ent}(h:bZ Z w v x)(hz:∀q,Z' q->Z q):bZ Z' w v x:=by
 obtain⟨A,c,B,d,e,a,b⟩:=h;exact⟨A,c,B,d,e,a.mono hz,b.mono hz⟩
theorem bZ.is{Z:Nat->Prop}{w:Wv}{v:Value×Value}{x:Ent}(h:bZ Z w v x):fH w v x:=by
 obtain⟨A,c,B,d,e,a,b⟩:=h;exact⟨A,c,B,d,e,a.1,b.1⟩
def nG(Z:Nat->Prop)(w:Wv)(A:Oa)(xs:List Ent):Prop:=∃vs:List (Value×Value),vs.length=xs.length/\SlN Z w A (aB (λv=>[v.1,v.2]) vs)/\∀i,(hi:i<xs.length)->(hv:i<vs.length)->bZ Z w vs[i] xs[i]
theorem nG.is{Z:Nat->Prop}{w:Wv}{A:Oa}{xs:List Ent}(h:nG Z w A xs):gH w A xs:=by
 obtain⟨vs,a,b,c⟩:=h;exact⟨vs,a,b.1,λi hi hv=>(c i hi hv).is⟩
theorem nG.at{Z:Nat->Prop}{w:Wv}{A:Oa}{xs:List Ent}(h:nG Z w A xs){m:Nat}(hm:m<xs.length):
  ∃b o,A=some ⟨b,o,N⟩/\b<w.heap.size/\∀i,(hi:i<xs.length)->∃C c E d,w.cell? ⟨b,o+i*2,N⟩=some (H C xs[i].codes.length c)/\w.cell? ⟨b,o+i*2+1,N⟩=some (H E xs[i].elems.length d)/\SlN Z w C (xs[i].codes.map (Value.int .i64))/\SlN Z w E (aB Elt.cells xs[i].elems):=by
 obtain⟨vs,j,f,g⟩:=h;obtain⟨b,o,rfl,hb,hc⟩:=dZ.at 2 (λ_=>rfl) O (show dZ (λv:Value×Value=>[v.1,v.2]) w A vs from f.1) (m:=m) O;refine⟨b,o,rfl,hb,λi hi=>?_⟩;obtain⟨C,c,E,d,hv,a,e⟩:=g i hi O;refine⟨C,c,E,d,?_,?_,a,e⟩
 ·have:=hc i O 0 vs[i].1 rfl;rw[hv]at this;exact this
 have:=hc i O 1 vs[i].2 rfl;rw[hv]at this;exact this
structure cR(Z:Nat->Prop)(w:Wv)(A B:Oa)(c:Col):Prop where
 ents:nG Z w A c.ents
 grps:SlN Z w B (aB Grp.cells c.grps)
 hs:∀g∈c.grps,g.name.size<=9223372036854775807
theorem cR.is{Z:Nat->Prop}{w:Wv}{A B:Oa}{c:Col}(h:cR Z w A B c):aO w A c.ents.length B c.grps.length c:=⟨h.ents.is,h.grps.1,rfl,rfl,h.hs⟩
theorem cR.below{Z:Nat->Prop}{w w':Wv}{A B:Oa}{c:Col}(h:cR Z w A B c)(hb:By w w'):cR Z w' A B c:=by
 obtain⟨vs,a,b,d⟩:=h.ents;exact⟨⟨vs,a,b.below hb,λi hi hv=>(d i hi hv).below hb⟩,h.grps.below hb,h.hs⟩
theorem cR.chg{Z:Nat->Prop}{w w':Wv}{A B:Oa}{c:Col}(h:cR Z w A B c)(hc:Chg Z w w'):cR Z w' A B c:=by
 obtain⟨vs,a,b,d⟩:=h.ents;exact⟨⟨vs,a,b.chg hc,λi hi hv=>(d i hi hv).chg hc⟩,h.grps.chg hc,h.hs⟩
theorem cR.mono{Z Z':Nat->Prop}{w:Wv}{A B:Oa}{c:Col}(h:cR Z w A B c)(hz:∀q,Z' q->Z q):cR Z' w A B c:=by
 obtain⟨vs,a,b,d⟩:=h.ents;exact⟨⟨vs,a,b.mono hz,λi hi hv=>(d i hi hv).mono hz⟩,h.grps.mono hz,h.hs⟩
theorem aO.old{Z:Nat->Prop}{w:Wv}{A B:Oa}{n m:Nat}{c:Col}(h:aO w A n B m c)(hz:∀q,Z q->w.heap.size<=q):cR Z w A B c:=by
 obtain⟨vs,f,g,j⟩:=h.ents;refine⟨⟨vs,f,SlN.old g hz,λi hi hv=>?_⟩,SlN.old h.grps hz,h.hs⟩;obtain⟨C,c,E,d,e,a,b⟩:=(j i hi hv).ex;exact⟨C,c,E,d,e,SlN.old a hz,SlN.old b hz⟩
def kZ(Y:Nat->Prop)(c:Col)(w:Wv)(e:Ending)(w':Wv):Prop:=∃A a B b,e=.returned (aJ A c.ents.length a B c.grps.length b c)/\cR Y w' A B c/\By w w'
theorem tQ{α:Type}{f:α->α}(h:∀x,f x=x)(l:List α):l.map f=l:=by
 induction l with
 |nil=>rfl
 |cons a r ih=>rw[List.map_cons,h,ih]
theorem YE(l:Int)(x:Ent):rsEnt 0 l x=x:=by
 unfold rsEnt;rw[tQ (λe=>rsE_0 O e)]
theorem room_0(w l:Int)(c:Col):roomC 0 w l c=c:=by
 unfold roomC;rw[tQ (YE l),tQ (f:=rsG 0 w) (λg=>if_neg O)];rfl
theorem uZ{k:Int}{e:Elt}(h:EOk e):0<=wt k e/\wt k e<=65535:=by
 have:=h.p0;have:=h.p1;have:=h.s0;have:=h.s1;have:=h.t0;have:=h.t1;unfold wt;split
 ·omega
 split<;>omega
theorem VP{k w l:Int}{c:Col}(h:aK c=0)(x:Ent):putF x (roomC k w l c).ents false=putE (roomC k w l c).ents x:=putF_eq (room_pair h)
def bJ(v:Value×Value):Lv:=[v.1,v.2]
structure fQ(Y:Nat->Prop)(w W0:Wv)(Z:List Ent)(S:Oa)(q k lm:Nat)(R:List Ent)(wr:Wv):Prop where
 ex:∃(vs:List (Value×Value))(L:List Ent),vs.length=q/\L.length=q/\wr.ownsRow W0.heap.size 75 2 (H S q k) q (aB bJ vs)/\(∀j,(hj:j<L.length)->(hv:j<vs.length)->bZ Y w vs[j] L[j])/\L++R=Z
 lim:q<=lm
 bel:By W0 wr
theorem NQ{Y:Nat->Prop}{w:Wv}{vs:List (Value×Value)}{L:List Ent}{v:Value×Value}{y:Ent}(hl:vs.length=L.length)(h:∀j,(hj:j<L.length)->(hv:j<vs.length)->bZ Y w vs[j] L[j])(hy:bZ Y w v y):∀j,(hj:j<(L++[y]).length)->(hv:j<(vs++[v]).length)->bZ Y w (vs++[v])[j] (L++[y])[j]:=λj hj hv=>by
 by_cases g:j<L.length
 ·rw[List.getElem_append_left O,List.getElem_append_left g]
  exact h j g O
 have e:j=L.length:=by simp at hj;omega
 subst e;rw[List.getElem_append_right O,List.getElem_append_right O];simp[hl];exact hy
theorem fQ.push{Y:Nat->Prop}{w W0:Wv}{Z:List Ent}{q lm:Nat}{y:Ent}{R:List Ent}{v:Value×Value}{B:Oa}{c3:Nat}{wr w3:Wv}{vs:List (Value×Value)}{L:List Ent}(e1:vs.length=q)(e2:L.length=q)(hev:∀j,(hj:j<L.length)->(hv:j<vs.length)->bZ Y w vs[j] L[j])(hinv:L++y::R=Z)(hlim:q<=lm)(hb:By W0 wr)(hy:bZ Y w v y)
  (ho:w3.ownsRow W0.heap.size 75 2 (H B (q+1) c3) (q+1) (aB bJ vs++bJ v)) (hb3:Below W0.heap.size wr w3):fQ Y w W0 Z B (q+1) c3 (lm+1) R w3:=
 ⟨⟨vs++[v],L++[y],by simp[e1],by simp[e2],by
  have e:aB bJ (vs++[v])=aB bJ vs++bJ v:=by unfold aB;rw[List.flatMap_append,List.flatMap_singleton]
  rw[e];exact ho,NQ O hev hy,by rw[List.append_assoc];exact hinv⟩,O,hb.trans hb3⟩
theorem fQ.drewN{Y:Nat->Prop}{w W0:Wv}{Z:List Ent}{S:Oa}{q k lm:Nat}{R:List Ent}{wr:Wv}(h:fQ Y w W0 Z S q k lm R wr)(j:Nat):fQ Y w W0 Z S q k lm R (wr.drewN j):=
 ⟨h.ex,h.lim,h.bel.trans ((fW wr j).mono h.bel.size)⟩
theorem fQ.weak{Y:Nat->Prop}{w W0:Wv}{Z:List Ent}{S:Oa}{q k lm lm2:Nat}{R R2:List Ent}{wr:Wv}(h:fQ Y w W0 Z S q k lm R wr)(hl:lm<=lm2)(e:R=R2):fQ Y w W0 Z S q k lm2 R2 wr:=e ▸ ⟨h.ex,Nat.le_trans h.lim hl,h.bel⟩
theorem yD{Y:Nat->Prop}{w W0 Wf:Wv}{Z:List Ent}{B:Oa}{gs:List Grp}{cb cs ct:Int}{S:Oa}{q k b:Nat}{vs:List (Value×Value)}(hY:∀q,Y q->q<w.heap.size)(hg:SlN Y w B (aB Grp.cells gs))(hs:∀g∈gs,g.name.size<=9223372036854775807)(e1:vs.length=q)(e2:Z.length=q)(hev:∀j,(hj:j<Z.length)->(hv:j<vs.length)->bZ Y w vs[j] Z[j])
  (ho:Wf.ownsRow W0.heap.size 75 2 (H S q k) q (aB bJ vs)) (hb:By w Wf) (hw:w.heap.size<=W0.heap.size) :
  ∃A a B' b',Ending.returned (.agg #[H S q k,H B gs.length b,I J cb,I J cs,I J ct])=.returned (.agg #[H A Z.length a,H B' gs.length b',I J cb,I J cs,I J ct])/\cR Y Wf A B' ⟨Z,gs,cb,cs,ct⟩/\By w Wf:=by
 subst e2;exact⟨S,k,B,b,rfl,⟨⟨vs,e1,SlN.own ho (λq hq=>Nat.lt_of_lt_of_le (hY q hq) hw),λi hi hv=>(hev i hi hv).below hb⟩,hg.below hb,hs⟩,hb⟩
theorem VM{x:Ent}{es:List Ent}{i:Nat}(hi:i<es.length)(done:Bool):putF x (es.drop i) done=(if 0<=aE es[i].codes x.codes/\done=false then [x]else [])++((if aE es[i].codes x.codes≠0 then [es[i]]else [])++putF x (es.drop (i+1)) (done||decide (0<=aE es[i].codes x.codes))):=by
 rw[List.drop_eq_getElem_cons hi];rfl
theorem CY(Y:Nat->Prop)(A:Oa)(a:Nat)(B:Oa)(b:Nat)(c:Col)(XC:Oa)(xc:Nat)(XE:Oa)(xe:Nat)(x:Ent)(w:Wv)(hY:∀q,Y q->q<w.heap.size)(h:cR Y w A B c)(hz:aQ c)(hx1:SlN Y w XC (x.codes.map (Value.int .i64)))(hx2:SlN Y w XE (aB Elt.cells x.elems))(hxl:x.codes.length<=1048576):
  Calls prog 49 #[aJ A c.ents.length a B c.grps.length b c,.agg #[H XC x.codes.length xc,H XE x.elems.length xe]] w (kZ Y ⟨putF x c.ents false,c.grps,c.base,c.second,c.third⟩ w):=by
 have B0:By w (((w.alloc (.cells #[H A c.ents.length a,H B c.grps.length b,I J c.base,I J c.second,I J c.third] 32)).alloc (.cells #[H XC x.codes.length xc,H XE x.elems.length xe] 75)).alloc (.cells #[H N 0 0,H N 0 0,I J 0,I J 0,I J 0] 32)):=((ba _ _).alloc L _).alloc oU_ _;have X0:Box (((w.alloc (.cells #[H A c.ents.length a,H B c.grps.length b,I J c.base,I J c.second,I J c.third] 32)).alloc (.cells #[H XC x.codes.length xc,H XE x.elems.length xe] 75)).alloc (.cells #[H N 0 0,H N 0 0,I J 0,I J 0,I J 0] 32)) w.heap.size 32 [H A c.ents.length a,H B c.grps.length b,I J c.base,I J c.second,I J c.third]:=fB (fB (Box.new w 32 [H A c.ents.length a,H B c.grps.length b,I J c.base,I J c.second,I J c.third] rfl) _) _;have X1:Box (((w.alloc (.cells #[H A c.ents.length a,H B c.grps.length b,I J c.base,I J c.second,I J c.third] 32)).alloc (.cells #[H XC x.codes.length xc,H XE x.elems.length xe] 75)).alloc (.cells #[H N 0 0,H N 0 0,I J 0,I J 0,I J 0] 32)) (w.heap.size+1) 75 [H XC x.codes.length xc,H XE x.elems.length xe]:=fB (Box.new _ 75 [H XC x.codes.length xc,H XE x.elems.length xe] L) _;have X2:Box (((w.alloc (.cells #[H A c.ents.length a,H B c.grps.length b,I J c.base,I J c.second,I J c.third] 32)).alloc (.cells #[H XC x.codes.length xc,H XE x.elems.length xe] 75)).alloc (.cells #[H N 0 0,H N 0 0,I J 0,I J 0,I J 0] 32)) (w.heap.size+2) 32 [H N 0 0,H N 0 0,I J 0,I J 0,I J 0]:=Box.new _ 32 [H N 0 0,H N 0 0,I J 0,I J 0,I J 0] L;have cx:∃W0,(((w.alloc (.cells #[H A c.ents.length a,H B c.grps.length b,I J c.base,I J c.second,I J c.third] 32)).alloc (.cells #[H XC x.codes.length xc,H XE x.elems.length xe] 75)).alloc (.cells #[H N 0 0,H N 0 0,I J 0,I J 0,I J 0] 32))=W0:=⟨_,rfl⟩;have HE:=G h.ents;have HG:=G h.grps;have HS:=G h.hs;have HZ:=G hz.e;have d8:=hz.n;have ca:=G hx1;have cb:=G hx2;have dt:=G (λr=>show putF x [] r=if r=true then []else [x]from rfl);have cv:=G (λi(hi:i<c.ents.length)D dk(hD:aA w D c.ents[i].codes)W(hb:By w W)=>qP D XC _ _ dk xc c.ents[i].codes x.codes W (hD.below hb) (Sl.below hx1.1 hb) rfl rfl (by have:=hz.e i hi;omega) O);unfold aJ kZ;clear h hz hx1 hx2;go_enter func49,ntmps49;go_upto_region 1 with(fail)
 obtain⟨W0,cl⟩:=cx;try rw[cl]at B0 X0 X1 X2|-
 clear cl;have Q:=G X0;have ai:=G X1;have bw:=G X2;have t:=G B0;clear X0 X1 X2 B0;have cp:=t.o.size;have K:=Q.o.lt;have aq:=ai.o.lt;have M:=bw.o.lt;have cw:=U (fQ Y w W0 (putF x c.ents false) N 0 0 0 (putF x c.ents false) W0) (⟨⟨[],[],rfl,rfl,World.ownsRow_nil _ _ _ _,λj hj=>absurd hj L,rfl⟩,L,Below.refl _ _⟩);go_wp2;go_loopw [5,6,7] (λs d u wr=>∃(i:Nat)(r:Bool)(S:Oa)(q k:Nat),i<=c.ents.length/\u=I J i/\d=.bool r/\s=H S q k/\fQ Y w W0 (putF x c.ents false) S q k (2*i) (putF x (c.ents.drop i) r) wr) (λ_ _ u _=>c.ents.length-(intOf u).toNat)
 case atStart=>exact⟨0,false,N,0,0,Nat.zero_le _,rfl,rfl,rfl,cw.o⟩
 obtain⟨i,r,S,q,k,hi,rfl,rfl,rfl,bk⟩:=hrel;have g0:=(Q.o.below bk.bel K).c 0 rfl;obtain⟨x0,x1⟩:=(ai.o.below bk.bel aq).k2;have av:=G (t.o.trans (bk.bel.mono t.o.size));have bo:=G bk;clear bk;by_cases hlt:i<c.ents.length
 ·obtain⟨b1,o1,rfl,z,bj⟩:=HE.o.at hlt
  obtain⟨C,cc,E,dd,c1,c2,hC,hE⟩:=bj i hlt;have al:=(av.o.cell (p:=⟨b1,_,N⟩) z).trans c1;have am:=(av.o.cell (p:=⟨b1,_,N⟩) z).trans c2;have q2:(i:Int)<(c.ents.length:Int):=O;have CI:=G (λj=>oF (cv.o i hlt C cc hC.1 (wr.drewN j) (av.o.trans ((fW wr j).mono av.o.size))));have bv:=U (bZ Y w (H C c.ents[i].codes.length cc,H E c.ents[i].elems.length dd) c.ents[i]) (⟨C,cc,E,dd,rfl,hC,hE⟩);have bp:=U (bZ Y w (H XC x.codes.length xc,H XE x.elems.length xe) x) (⟨XC,xc,XE,xe,rfl,ca.o,cb.o⟩);have co:=VM (x:=x) hlt r;have b8:=G (bo.o.weak (Nat.le_refl _) co);clear bj hC hE co bo;generalize aE c.ents[i].codes x.codes=kv at *;generalize putF x c.ents false=Z at *;go_wp2;go_quiet(with_reducible exact CI.o _);have P:=G (b8.o.drewN nq);have aw:=G c1;have ax:=G c2;clear x0 x1 g0 al am c1 c2 CI b8 av;generalize wr.drewN nq=Wq at *;by_cases hk:0<=kv
  ·have d1:decide (0<=kv)=true:=decide_eq_true hk
   rw[d1]at P;by_cases h0:kv=0
   ·have q5:(kv !=0)=false:=by simp[h0]
    cases r with
    |false=>
     have f:=G (P.o.weak (Nat.le_refl _) (show _=x::putF x (c.ents.drop (i+1)) true from by rw[if_pos ⟨hk,rfl⟩,if_neg (by simpa using h0)];rfl));clear P;have n:=G (t.o.trans (f.o.bel.mono t.o.size));have g0:=(Q.o.below f.o.bel K).c 0 rfl;obtain⟨x0,x1⟩:=(ai.o.below f.o.bel aq).k2;have al:=(n.o.cell (p:=⟨b1,_,N⟩) z).trans aw.o;have am:=(n.o.cell (p:=⟨b1,_,N⟩) z).trans ax.o;clear n;obtain⟨⟨cq,L7,e1,e2,l,v,g⟩,R,e⟩:=f.o;have bq:Below (Wq).heap.size (Wq) ((Wq).alloc (.cells #[H XC x.codes.length xc,H XE x.elems.length xe] 75)):=ba _ _;have af:=G (aG l bq);have ah:W0.heap.size<=((Wq).alloc (.cells #[H XC x.codes.length xc,H XE x.elems.length xe] 75)).heap.size:=Nat.le_trans e.size bq.size;have ag:=G (λB c3 w3 ho hb=>fQ.push (w3:=w3) (B:=B) (c3:=c3) e1 e2 v g R e bp.o ho ((bq.mono e.size).trans hb));clear v g e bq l e1 e2 f;go_wp2_with(at_builtin;refine a_ _ _ 29 75 (.agg #[H N 0 0,H N 0 0]) 2 48 rfl rfl underlying29 iB rfl oV_ oV_ rfl af.o rfl (bI _ (bJ (H XC x.codes.length xc,H XE x.elems.length xe)) _ rfl) rfl (by simp[bJ,Value.oneCell']) O ah ?_;intro A7 c7 w7 F cm ay _ _;have ad:=G (ag.o A7 c7 w7 F ay));go_roundw
     case rel=>exact⟨i+1,true,_,_,_,O,oN_,rfl,rfl,ad.o.weak O rfl⟩
     exact oI_
    |true=>
     have f:=G (P.o.weak (Nat.le_refl _) (show _=putF x (c.ents.drop (i+1)) true from by rw[if_neg L,if_neg (by simpa using h0)];rfl));clear P;have n:=G (t.o.trans (f.o.bel.mono t.o.size));have g0:=(Q.o.below f.o.bel K).c 0 rfl;obtain⟨x0,x1⟩:=(ai.o.below f.o.bel aq).k2;have al:=(n.o.cell (p:=⟨b1,_,N⟩) z).trans aw.o;have am:=(n.o.cell (p:=⟨b1,_,N⟩) z).trans ax.o;clear n;go_wp2;go_roundw
     case rel=>exact⟨i+1,true,_,_,_,O,oN_,rfl,rfl,f.o.weak O rfl⟩
     exact oI_
   have q5:(kv !=0)=true:=by simp[h0]
   cases r with
   |false=>
    have f:=G (P.o.weak (Nat.le_refl _) (show _=x::c.ents[i]::putF x (c.ents.drop (i+1)) true from by rw[if_pos ⟨hk,rfl⟩,if_pos h0];rfl));clear P;have n:=G (t.o.trans (f.o.bel.mono t.o.size));have g0:=(Q.o.below f.o.bel K).c 0 rfl;obtain⟨x0,x1⟩:=(ai.o.below f.o.bel aq).k2;have al:=(n.o.cell (p:=⟨b1,_,N⟩) z).trans aw.o;have am:=(n.o.cell (p:=⟨b1,_,N⟩) z).trans ax.o;clear n;obtain⟨⟨cq,L7,e1,e2,l,v,g⟩,R,e⟩:=f.o;have bq:Below (Wq).heap.size (Wq) ((Wq).alloc (.cells #[H XC x.codes.length xc,H XE x.elems.length xe] 75)):=ba _ _;have af:=G (aG l bq);have ah:W0.heap.size<=((Wq).alloc (.cells #[H XC x.codes.length xc,H XE x.elems.length xe] 75)).heap.size:=Nat.le_trans e.size bq.size;have ag:=G (λB c3 w3 ho hb=>fQ.push (w3:=w3) (B:=B) (c3:=c3) e1 e2 v g R e bp.o ho ((bq.mono e.size).trans hb));clear v g e bq l e1 e2 f;go_wp2_with(first|(at_builtin;refine a_ _ _ 29 75 (.agg #[H N 0 0,H N 0 0]) 2 48 rfl rfl underlying29 iB rfl oV_ oV_ rfl af.o rfl (bI _ (bJ (H XC x.codes.length xc,H XE x.elems.length xe)) _ rfl) rfl (by simp[bJ,Value.oneCell']) O ah ?_;intro A7 c7 w7 F cm ay _ _;have ad:=G (ag.o A7 c7 w7 F ay);clear ag af ah F ay g0 x0 x1 al am;have n:=G (t.o.trans (ad.o.bel.mono t.o.size));have g0:=(Q.o.below ad.o.bel K).c 0 rfl;obtain⟨x0,x1⟩:=(ai.o.below ad.o.bel aq).k2;have al:=(n.o.cell (p:=⟨b1,_,N⟩) z).trans aw.o;have am:=(n.o.cell (p:=⟨b1,_,N⟩) z).trans ax.o;clear n;obtain⟨⟨cr,L8,e1,e2,l,v,g⟩,T,e⟩:=ad.o;have bq:Below (w7).heap.size (w7) ((w7).alloc (.cells #[H C c.ents[i].codes.length cc,H E c.ents[i].elems.length dd] 75)):=ba _ _;have aj:=G (aG l bq);have ar:W0.heap.size<=((w7).alloc (.cells #[H C c.ents[i].codes.length cc,H E c.ents[i].elems.length dd] 75)).heap.size:=Nat.le_trans e.size bq.size;have ak:=G (λB c3 w3 ho hb=>fQ.push (w3:=w3) (B:=B) (c3:=c3) e1 e2 v g T e bv.o ho ((bq.mono e.size).trans hb));clear v g e bq l e1 e2 ad)|(at_builtin;refine a_ _ _ 29 75 (.agg #[H N 0 0,H N 0 0]) 2 48 rfl rfl underlying29 iB rfl oV_ oV_ rfl aj.o rfl (bI _ (bJ (H C c.ents[i].codes.length cc,H E c.ents[i].elems.length dd)) _ rfl) rfl (by simp[bJ,Value.oneCell']) O ar ?_;intro A8 c8 w8 X cn bi _ _;have a9:=G (ak.o A8 c8 w8 X bi)));go_roundw
    case rel=>exact⟨i+1,true,_,_,_,O,oN_,rfl,rfl,a9.o.weak O rfl⟩
    exact oI_
   |true=>
    have f:=G (P.o.weak (Nat.le_refl _) (show _=c.ents[i]::putF x (c.ents.drop (i+1)) true from by rw[if_neg L,if_pos h0];rfl));clear P;have n:=G (t.o.trans (f.o.bel.mono t.o.size));have g0:=(Q.o.below f.o.bel K).c 0 rfl;obtain⟨x0,x1⟩:=(ai.o.below f.o.bel aq).k2;have al:=(n.o.cell (p:=⟨b1,_,N⟩) z).trans aw.o;have am:=(n.o.cell (p:=⟨b1,_,N⟩) z).trans ax.o;clear n;obtain⟨⟨cr,L8,e1,e2,l,v,g⟩,T,e⟩:=f.o;have bq:Below (Wq).heap.size (Wq) ((Wq).alloc (.cells #[H C c.ents[i].codes.length cc,H E c.ents[i].elems.length dd] 75)):=ba _ _;have aj:=G (aG l bq);have ar:W0.heap.size<=((Wq).alloc (.cells #[H C c.ents[i].codes.length cc,H E c.ents[i].elems.length dd] 75)).heap.size:=Nat.le_trans e.size bq.size;have ak:=G (λB c3 w3 ho hb=>fQ.push (w3:=w3) (B:=B) (c3:=c3) e1 e2 v g T e bv.o ho ((bq.mono e.size).trans hb));clear v g e bq l e1 e2 f;go_wp2_with(at_builtin;refine a_ _ _ 29 75 (.agg #[H N 0 0,H N 0 0]) 2 48 rfl rfl underlying29 iB rfl oV_ oV_ rfl aj.o rfl (bI _ (bJ (H C c.ents[i].codes.length cc,H E c.ents[i].elems.length dd)) _ rfl) rfl (by simp[bJ,Value.oneCell']) O ar ?_;intro A8 c8 w8 X cn bi _ _;have a9:=G (ak.o A8 c8 w8 X bi));go_roundw
    case rel=>exact⟨i+1,true,_,_,_,O,oN_,rfl,rfl,a9.o.weak O rfl⟩
    exact oI_
  have d1:decide (0<=kv)=false:=decide_eq_false hk;have q5:(kv !=0)=true:=oU_;have f:=G (P.o.weak (Nat.le_refl _) (show _=c.ents[i]::putF x (c.ents.drop (i+1)) r from by rw[if_neg (λh=>hk h.1),if_pos O,d1,Bool.or_false];rfl));clear P;have n:=G (t.o.trans (f.o.bel.mono t.o.size));have g0:=(Q.o.below f.o.bel K).c 0 rfl;obtain⟨x0,x1⟩:=(ai.o.below f.o.bel aq).k2;have al:=(n.o.cell (p:=⟨b1,_,N⟩) z).trans aw.o;have am:=(n.o.cell (p:=⟨b1,_,N⟩) z).trans ax.o;clear n;obtain⟨⟨cr,L8,e1,e2,l,v,g⟩,T,e⟩:=f.o;have bq:Below (Wq).heap.size (Wq) ((Wq).alloc (.cells #[H C c.ents[i].codes.length cc,H E c.ents[i].elems.length dd] 75)):=ba _ _;have aj:=G (aG l bq);have ar:W0.heap.size<=((Wq).alloc (.cells #[H C c.ents[i].codes.length cc,H E c.ents[i].elems.length dd] 75)).heap.size:=Nat.le_trans e.size bq.size;have ak:=G (λB c3 w3 ho hb=>fQ.push (w3:=w3) (B:=B) (c3:=c3) e1 e2 v g T e bv.o ho ((bq.mono e.size).trans hb));clear v g e bq l e1 e2 f;go_wp2_with(at_builtin;refine a_ _ _ 29 75 (.agg #[H N 0 0,H N 0 0]) 2 48 rfl rfl underlying29 iB rfl oV_ oV_ rfl aj.o rfl (bI _ (bJ (H C c.ents[i].codes.length cc,H E c.ents[i].elems.length dd)) _ rfl) rfl (by simp[bJ,Value.oneCell']) O ar ?_;intro A8 c8 w8 X cn bi _ _;have a9:=G (ak.o A8 c8 w8 X bi));go_roundw
  case rel=>exact⟨i+1,r,_,_,_,O,oN_,rfl,rfl,a9.o.weak O rfl⟩
  exact oI_
 obtain rfl:i=c.ents.length:=O;have bn:=G (bo.o.weak (Nat.le_refl _) (show _=if r=true then []else [x]from by rw[List.drop_length];rfl));have bp:=U (bZ Y w (H XC x.codes.length xc,H XE x.elems.length xe) x) (⟨XC,xc,XE,xe,rfl,ca.o,cb.o⟩);clear bo av;cases r with
 |true=>
  have b9:=G (bn.o.weak (Nat.le_refl _) (show _=[]from rfl));clear bn x0 x1;go_upto_region 14 with(fail)
  obtain⟨⟨db,L9,bd,be,aa,ap,y⟩,b4,o⟩:=b9.o;rw[List.append_nil]at y;have a2:=G ap;have a6:=G y;have a8:=G aa;have b7:=G o;have bt:=G bd;have bu:=G be;have y0:=Q.o.below o K;have y2:=bw.o.below o M;have a1:=G (tb t.o o);have b2:=y0.free 0;have b3:=y0.c 0 rfl;have Z0:Box (wr.setCell ⟨w.heap.size,0,N⟩ (H S q k)) w.heap.size 32 [H S q k,H B c.grps.length b,I J c.base,I J c.second,I J c.third]:=y0.set 0 (H S q k);have Z2:Box (wr.setCell ⟨w.heap.size,0,N⟩ (H S q k)) (w.heap.size+2) 32 [H N 0 0,H N 0 0,I J 0,I J 0,I J 0]:=dS y2 ⟨w.heap.size,0,N⟩ oD_ (H S q k);have ZB:By w (wr.setCell ⟨w.heap.size,0,N⟩ (H S q k)):=a1.o.setCell (p:=⟨w.heap.size,0,N⟩) (Nat.le_refl _) (H S q k);have ZO:=ownsRow_setCell_below a8.o (a:=⟨w.heap.size,0,N⟩) K (H S q k);have bz:∃V,(wr.setCell ⟨w.heap.size,0,N⟩ (H S q k))=V:=⟨_,rfl⟩;have a5:=G Z0;have m:=G Z2;have a3:=G ZB;have a4:=G ZO;clear Z0 Z2 ZB ZO y0 y2 bd be aa ap y o b9;go_upto_region 15 with(fail)
  obtain⟨V1,bg⟩:=bz;rw[bg]at a5 m a3 a4|-;clear bg b2 b3;obtain⟨g0,g1,g2,g3,g4⟩:=a5.o.k5;have f0:=m.o.free 0;have h0:=m.o.c 0 rfl;have f1:=m.o.free 1;have h1:=m.o.c 1 rfl;have f2:=m.o.free 2;have h2:=m.o.c 2 rfl;have f3:=m.o.free 3;have h3:=m.o.c 3 rfl;have f4:=m.o.free 4;have h4:=m.o.c 4 rfl;have ZF:Box (((((V1.setCell ⟨w.heap.size+2,0,N⟩ (H S q k)).setCell ⟨w.heap.size+2,1,N⟩ (H B c.grps.length b)).setCell ⟨w.heap.size+2,2,N⟩ (I J c.base)).setCell ⟨w.heap.size+2,3,N⟩ (I J c.second)).setCell ⟨w.heap.size+2,4,N⟩ (I J c.third)) (w.heap.size+2) 32 [H S q k,H B c.grps.length b,I J c.base,I J c.second,I J c.third]:=(((((m.o.set 0 (H S q k)).set 1 (H B c.grps.length b)).set 2 (I J c.base)).set 3 (I J c.second)).set 4 (I J c.third));have BF:By w (((((V1.setCell ⟨w.heap.size+2,0,N⟩ (H S q k)).setCell ⟨w.heap.size+2,1,N⟩ (H B c.grps.length b)).setCell ⟨w.heap.size+2,2,N⟩ (I J c.base)).setCell ⟨w.heap.size+2,3,N⟩ (I J c.second)).setCell ⟨w.heap.size+2,4,N⟩ (I J c.third)):=(((((a3.o.setCell (p:=⟨w.heap.size+2,0,N⟩) oD_ (H S q k)).setCell (p:=⟨w.heap.size+2,1,N⟩) oD_ (H B c.grps.length b)).setCell (p:=⟨w.heap.size+2,2,N⟩) oD_ (I J c.base)).setCell (p:=⟨w.heap.size+2,3,N⟩) oD_ (I J c.second)).setCell (p:=⟨w.heap.size+2,4,N⟩) oD_ (I J c.third));have OF:=(ownsRow_setCell_below (ownsRow_setCell_below (ownsRow_setCell_below (ownsRow_setCell_below (ownsRow_setCell_below a4.o (a:=⟨w.heap.size+2,0,N⟩) M (H S q k)) (a:=⟨w.heap.size+2,1,N⟩) M (H B c.grps.length b)) (a:=⟨w.heap.size+2,2,N⟩) M (I J c.base)) (a:=⟨w.heap.size+2,3,N⟩) M (I J c.second)) (a:=⟨w.heap.size+2,4,N⟩) M (I J c.third));have b0:∃Wf,(((((V1.setCell ⟨w.heap.size+2,0,N⟩ (H S q k)).setCell ⟨w.heap.size+2,1,N⟩ (H B c.grps.length b)).setCell ⟨w.heap.size+2,2,N⟩ (I J c.base)).setCell ⟨w.heap.size+2,3,N⟩ (I J c.second)).setCell ⟨w.heap.size+2,4,N⟩ (I J c.third))=Wf:=⟨_,rfl⟩;have bb:=G ZF;have a0:=G BF;have a7:=G OF;clear ZF BF OF;go_wp2_with fail;obtain⟨Wf,bh⟩:=b0;try rw[bh]at bb a0 a7|-
  clear bh;obtain⟨z0,z1,z2,z3,z4⟩:=bb.o.k5;(try simp only[Exit.inBlock,Exit.then]);refine bodyPost_ret (kT (k:=4) rfl _ _ (b:=w.heap.size+2) rfl z0 z1 z2 z3 z4) rfl ?_;have hL:=a6.o;have hl:=bu.o;subst hL;exact yD hY HG.o HS.o bt.o hl a2.o a7.o a0.o cp
 |false=>
  have f:=G (bn.o.weak (Nat.le_refl _) (show _=x::[]from rfl));clear bn;have g0:=(Q.o.below f.o.bel K).c 0 rfl;obtain⟨x0,x1⟩:=(ai.o.below f.o.bel aq).k2;obtain⟨⟨cq,L7,e1,e2,l,v,g⟩,R,e⟩:=f.o;have bq:Below (wr).heap.size (wr) ((wr).alloc (.cells #[H XC x.codes.length xc,H XE x.elems.length xe] 75)):=ba _ _;have af:=G (aG l bq);have ah:W0.heap.size<=((wr).alloc (.cells #[H XC x.codes.length xc,H XE x.elems.length xe] 75)).heap.size:=Nat.le_trans e.size bq.size;have ag:=G (λB c3 w3 ho hb=>fQ.push (w3:=w3) (B:=B) (c3:=c3) e1 e2 v g R e bp.o ho ((bq.mono e.size).trans hb));clear v g e bq l e1 e2 f;go_upto_region 14 with(at_builtin;refine a_ _ _ 29 75 (.agg #[H N 0 0,H N 0 0]) 2 48 rfl rfl underlying29 iB rfl oV_ oV_ rfl af.o rfl (bI _ (bJ (H XC x.codes.length xc,H XE x.elems.length xe)) _ rfl) rfl (by simp[bJ,Value.oneCell']) O ah ?_;intro A7 c7 w7 F cm ay _ _;have ad:=G (ag.o A7 c7 w7 F ay))
  obtain⟨⟨db,L9,bd,be,aa,ap,y⟩,b4,o⟩:=ad.o;rw[List.append_nil]at y;have a2:=G ap;have a6:=G y;have a8:=G aa;have b7:=G o;have bt:=G bd;have bu:=G be;have y0:=Q.o.below o K;have y2:=bw.o.below o M;have a1:=G (tb t.o o);have b2:=y0.free 0;have b3:=y0.c 0 rfl;have Z0:Box (w7.setCell ⟨w.heap.size,0,N⟩ (H A7 (q+1) c7)) w.heap.size 32 [H A7 (q+1) c7,H B c.grps.length b,I J c.base,I J c.second,I J c.third]:=y0.set 0 (H A7 (q+1) c7);have Z2:Box (w7.setCell ⟨w.heap.size,0,N⟩ (H A7 (q+1) c7)) (w.heap.size+2) 32 [H N 0 0,H N 0 0,I J 0,I J 0,I J 0]:=dS y2 ⟨w.heap.size,0,N⟩ oD_ (H A7 (q+1) c7);have ZB:By w (w7.setCell ⟨w.heap.size,0,N⟩ (H A7 (q+1) c7)):=a1.o.setCell (p:=⟨w.heap.size,0,N⟩) (Nat.le_refl _) (H A7 (q+1) c7);have ZO:=ownsRow_setCell_below a8.o (a:=⟨w.heap.size,0,N⟩) K (H A7 (q+1) c7);have bz:∃V,(w7.setCell ⟨w.heap.size,0,N⟩ (H A7 (q+1) c7))=V:=⟨_,rfl⟩;have a5:=G Z0;have m:=G Z2;have a3:=G ZB;have a4:=G ZO;clear Z0 Z2 ZB ZO y0 y2 bd be aa ap y o ad;go_upto_region 15 with(fail)
  obtain⟨V1,bg⟩:=bz;rw[bg]at a5 m a3 a4|-;clear bg b2 b3;obtain⟨g0,g1,g2,g3,g4⟩:=a5.o.k5;have f0:=m.o.free 0;have h0:=m.o.c 0 rfl;have f1:=m.o.free 1;have h1:=m.o.c 1 rfl;have f2:=m.o.free 2;have h2:=m.o.c 2 rfl;have f3:=m.o.free 3;have h3:=m.o.c 3 rfl;have f4:=m.o.free 4;have h4:=m.o.c 4 rfl;have ZF:Box (((((V1.setCell ⟨w.heap.size+2,0,N⟩ (H A7 (q+1) c7)).setCell ⟨w.heap.size+2,1,N⟩ (H B c.grps.length b)).setCell ⟨w.heap.size+2,2,N⟩ (I J c.base)).setCell ⟨w.heap.size+2,3,N⟩ (I J c.second)).setCell ⟨w.heap.size+2,4,N⟩ (I J c.third)) (w.heap.size+2) 32 [H A7 (q+1) c7,H B c.grps.length b,I J c.base,I J c.second,I J c.third]:=(((((m.o.set 0 (H A7 (q+1) c7)).set 1 (H B c.grps.length b)).set 2 (I J c.base)).set 3 (I J c.second)).set 4 (I J c.third));have BF:By w (((((V1.setCell ⟨w.heap.size+2,0,N⟩ (H A7 (q+1) c7)).setCell ⟨w.heap.size+2,1,N⟩ (H B c.grps.length b)).setCell ⟨w.heap.size+2,2,N⟩ (I J c.base)).setCell ⟨w.heap.size+2,3,N⟩ (I J c.second)).setCell ⟨w.heap.size+2,4,N⟩ (I J c.third)):=(((((a3.o.setCell (p:=⟨w.heap.size+2,0,N⟩) oD_ (H A7 (q+1) c7)).setCell (p:=⟨w.heap.size+2,1,N⟩) oD_ (H B c.grps.length b)).setCell (p:=⟨w.heap.size+2,2,N⟩) oD_ (I J c.base)).setCell (p:=⟨w.heap.size+2,3,N⟩) oD_ (I J c.second)).setCell (p:=⟨w.heap.size+2,4,N⟩) oD_ (I J c.third));have OF:=(ownsRow_setCell_below (ownsRow_setCell_below (ownsRow_setCell_below (ownsRow_setCell_below (ownsRow_setCell_below a4.o (a:=⟨w.heap.size+2,0,N⟩) M (H A7 (q+1) c7)) (a:=⟨w.heap.size+2,1,N⟩) M (H B c.grps.length b)) (a:=⟨w.heap.size+2,2,N⟩) M (I J c.base)) (a:=⟨w.heap.size+2,3,N⟩) M (I J c.second)) (a:=⟨w.heap.size+2,4,N⟩) M (I J c.third));have b0:∃Wf,(((((V1.setCell ⟨w.heap.size+2,0,N⟩ (H A7 (q+1) c7)).setCell ⟨w.heap.size+2,1,N⟩ (H B c.grps.length b)).setCell ⟨w.heap.size+2,2,N⟩ (I J c.base)).setCell ⟨w.heap.size+2,3,N⟩ (I J c.second)).setCell ⟨w.heap.size+2,4,N⟩ (I J c.third))=Wf:=⟨_,rfl⟩;have bb:=G ZF;have a0:=G BF;have a7:=G OF;clear ZF BF OF;go_wp2_with fail;obtain⟨Wf,bh⟩:=b0;try rw[bh]at bb a0 a7|-
  clear bh;obtain⟨z0,z1,z2,z3,z4⟩:=bb.o.k5;(try simp only[Exit.inBlock,Exit.then]);refine bodyPost_ret (kT (k:=4) rfl _ _ (b:=w.heap.size+2) rfl z0 z1 z2 z3 z4) rfl ?_;have hL:=a6.o;have hl:=bu.o;subst hL;exact yD hY HG.o HS.o bt.o hl a2.o a7.o a0.o cp
end
end Go.Proofs.YtkhmjidaeliccaaGreatDoor
