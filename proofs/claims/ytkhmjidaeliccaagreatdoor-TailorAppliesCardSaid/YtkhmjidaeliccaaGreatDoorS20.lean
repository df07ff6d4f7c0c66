import Derived.Test.YtkhmjidaeliccaaGreatDoorS19
import Derived.Deep.CutBlock
set_option maxRecDepth 100000
set_option maxHeartbeats 51200000
namespace Go.Proofs.YtkhmjidaeliccaaGreatDoor
open Option renaming none->N,some->Z
open Value renaming int->I,slice->H
open IntKind renaming i64->J
open Go.Proofs.Tryz
section
open Go.RowKit Go.Maps Go.WideMaps Tl
theorem tR(W:Wv)(ts:Array TypeId)(ty:TypeId)(x y z m:Int)(hm:max (max x y) z=m):(Builtin.max_ ts ty #[I J x,I J y,I J z]).run prog W=.ok (I J m) W:=by
 rw[run_max_int3,<-hm];have e:(if z>(if y>x then y else x)then z else(if y>x then y else x))=max (max x y) z:=by
  split<;>split<;>omega
 rw[e]
theorem lC{W:Wv}{p q:Addr}{u:Value}(h:W.cell? p=Z u)(hne:p.block≠q.block)(v:Value):(W.setCell q v).cell? p=Z u:=(World.cell?_of_block (Below.heap_setCell W q v p.block hne)).trans h
theorem mV{W:Wv}{p q:Addr}(h:W.frozen? p=false)(v:Value):(W.setCell q v).frozen? p=false:=by simpa using h
structure Opd where
 N:Nat
 rb:Nat
 g:Nat
 lg:Nat
 le:Nat
 base:Nat
 zz:Nat
 top:Nat
 A:Oa
 a:Nat
 B:Oa
 bb:Nat
 E:Oa
 ec:Nat
 vs:List (Value×Value)
 m:Nat->Nat
 z:Int
 b:Bool
structure OpO(K:Opd):Prop where
 ng:K.N<=K.g
 nl:K.N<=K.lg
 ne:K.N<=K.le
 nb:K.N<=K.base
 gb:K.g<K.base
 bB:∀q,blk K.B=Z q->q<K.base/\q≠K.g
 bE:∀q,blk K.E=Z q->q<K.base/\q≠K.g/\blk K.B≠Z q
 rg:K.base<=K.rb
 rt:K.top<=K.rb
def GO(K:Opd)(q:Nat):Prop:=q=K.g\/blk K.B=Z q\/blk K.E=Z q\/(K.base<=q/\q<K.top)
structure OpS(K:Opd)(w0 w:Wv)(xs:List Ent)(gs:List Grp)(es:List Elt)(p s t:Int):Prop where
 room:Box w K.rb 85 [I J K.z,.bool K.b]
 col:Box w K.g 32 [H K.A xs.length K.a,H K.B gs.length K.bb,I J p,I J s,I J t]
 ents:OpV w K.base K.zz K.A K.a K.vs K.m K.top xs
 grps:w.ownsRow K.lg 98 3 (H K.B gs.length K.bb) gs.length (aB Grp.cells gs)
 els:w.ownsRow K.le 77 4 (H K.E es.length K.ec) es.length (aB Elt.cells es)
 bel:Below K.N w0 w
 chg:Chg (GO K) w0 w
section
variable {K:Opd}{w0 w w':Wv}{xs:List Ent}{gs:List Grp}{es:List Elt}{p s t:Int}
theorem OpS.below(h:OpS K w0 w xs gs es p s t)(hN:K.N<=w.heap.size)(hb:By w w'):OpS K w0 w' xs gs es p s t:=
 ⟨h.room.below hb h.room.lt,h.col.below hb h.col.lt,h.ents.below hb,aG h.grps hb,aG h.els hb,h.bel.trans (hb.mono hN),h.chg.trans (Chg.of_below hb)⟩
theorem OpS.n(h:OpS K w0 w xs gs es p s t)(o:OpO K):K.N<=w.heap.size:=Nat.le_trans o.ng (Nat.le_of_lt h.col.lt)
theorem OpS.col_set(h:OpS K w0 w xs gs es p s t)(o:OpO K)(i:Nat)(v:Value)(p' s' t':Int)(hv:[Value.slice K.A xs.length K.a,H K.B gs.length K.bb,I J p,I J s,I J t].set i v=[H K.A xs.length K.a,H K.B gs.length K.bb,I J p',I J s',I J t']):OpS K w0 (w.setCell ⟨K.g,i,N⟩ v) xs gs es p' s' t':=by
 have hg:w.grownBy (w.setCell ⟨K.g,i,N⟩ v) (Z K.g):=bR w ⟨K.g,i,N⟩ v;refine⟨dS h.room ⟨K.g,i,N⟩ (by have:=o.gb;have:=o.rg;dsimp only;omega) v,hv ▸ h.col.set i v,h.ents.low o.gb v,h.grps.kept hg ?_,h.els.kept hg ?_,h.bel.setCell o.ng v,h.chg.trans (Chg.of_grown hg (λq e=>.inl (Option.some.inj e).symm))⟩
 ·rw[bH]
  cases hq:blk K.B with
  |none=>exact .inl rfl
  |some q=>exact .inr (λe=>by injection e with e;exact(o.bB q hq).2 e)
 rw[bH];cases hq:blk K.E with
 |none=>exact .inl rfl
 |some q=>exact .inr (λe=>by injection e with e;exact(o.bE q hq).2.1 e)
theorem OpS.grp(h:OpS K w0 w xs gs es p s t)(o:OpO K){i:Nat}(hi:i<gs.length):∃q,K.B=Z ⟨q,0,N⟩/\(∀f,f<3->w.cell? ⟨q,i*3+f,N⟩=(Grp.cells gs[i])[f]?)/\(∀f,w.frozen? ⟨q,f,N⟩=false)/\q<K.rb/\
  ∀f v g',f<3->Grp.cells g'=(Grp.cells gs[i]).set f v->OpS K w0 (w.setCell ⟨q,i*3+f,N⟩ v) xs (gs.set i g') es p s t:=by
 have hr:=h.grps;obtain⟨q,a,b,d⟩:=jF hr O;have hb:=o.bB q (by rw[a];rfl);rw[a]at hr;refine⟨q,a,λf hf=>(hr.cellAt (i*3+f) O).trans (gR Grp.cells 3 (λ_=>rfl) gs i f hi hf),λf=>hr.frozenAt _,by have:=o.rg;omega,λf v g' hf hg'=>?_⟩;have hg:w.grownBy (w.setCell ⟨q,i*3+f,N⟩ v) (Z q):=bR w ⟨q,i*3+f,N⟩ v;have c:=(hr.stored (i*3+f) v).1;rw[jD Grp.cells 3 (λ_=>rfl) gs i f v g' hi hf hg']at c;refine⟨dS h.room ⟨q,i*3+f,N⟩ (by have:=o.rg;dsimp only;omega) v,?_,h.ents.low hb.1 v,by rw[a];simpa using c,h.els.kept hg ?_,h.bel.setCell (Nat.le_trans o.nl b) v,h.chg.trans (Chg.of_grown hg (λq' e=>.inr (.inl (by rw[a];exact congrArg Z (Option.some.inj e)))))⟩
 ·rw[List.length_set];exact dS h.col ⟨q,i*3+f,N⟩ (λe=>hb.2 e.symm) v
 rw[bH];cases hE:blk K.E with
 |none=>exact .inl rfl
 |some q'=>exact .inr (λe=>by injection e with e;exact(o.bE q' hE).2.2 (by rw[a,e];rfl))
theorem OpS.el(h:OpS K w0 w xs gs es p s t)(o:OpO K){i:Nat}(hi:i<es.length):∃q,K.E=Z ⟨q,0,N⟩/\(∀f,f<4->w.cell? ⟨q,i*4+f,N⟩=(Elt.cells es[i])[f]?)/\(∀f,w.frozen? ⟨q,f,N⟩=false)/\q<K.rb/\q≠K.g/\
  ∀f v e',f<4->Elt.cells e'=(Elt.cells es[i]).set f v->OpS K w0 (w.setCell ⟨q,i*4+f,N⟩ v) xs gs (es.set i e') p s t:=by
 have hr:=h.els;obtain⟨q,a,b,d⟩:=jF hr O;have hb:=o.bE q (by rw[a];rfl);rw[a]at hr;refine⟨q,a,λf hf=>(hr.cellAt (i*4+f) O).trans (gR Elt.cells 4 (λ_=>rfl) es i f hi hf),λf=>hr.frozenAt _,by have:=o.rg;omega,hb.2.1,λf v e' hf he'=>?_⟩;have hg:w.grownBy (w.setCell ⟨q,i*4+f,N⟩ v) (Z q):=bR w ⟨q,i*4+f,N⟩ v;have c:=(hr.stored (i*4+f) v).1;rw[jD Elt.cells 4 (λ_=>rfl) es i f v e' hi hf he']at c;refine⟨dS h.room ⟨q,i*4+f,N⟩ (by have:=o.rg;dsimp only;omega) v,dS h.col ⟨q,i*4+f,N⟩ (λe=>hb.2.1 e.symm) v,h.ents.low hb.1 v,h.grps.kept hg ?_,by rw[a];simpa using c,h.bel.setCell (Nat.le_trans o.ne b) v,h.chg.trans (Chg.of_grown hg (λq' e=>.inr (.inr (.inl (by rw[a];exact congrArg Z (Option.some.inj e))))))⟩;rw[bH];cases hB:blk K.B with
 |none=>exact .inl rfl
 |some q'=>exact .inr (λe=>by injection e with e;exact hb.2.2 (by rw[hB,e]))
theorem OpS.ent(h:OpS K w0 w xs gs es p s t)(o:OpO K){i:Nat}(hi:i<xs.length)(hv:i<K.vs.length){C:Oa}{n c:Nat}{E:Oa}{l d:Nat}(hvi:K.vs[i]=(H C n c,H E l d)){j:Nat}(hj:j<xs[i].elems.length):
  ∃q,E=Z ⟨q,0,N⟩/\K.base<=q/\q<K.top/\(∀f,f<4->w.cell? ⟨q,j*4+f,N⟩=xs[i].elems[j].cells[f]?)/\(∀o,w.frozen? ⟨q,o,N⟩=false)/\
   ∀f v e',f<4->Elt.cells e'=(Elt.cells xs[i].elems[j]).set f v->OpS K w0 (w.setCell ⟨q,j*4+f,N⟩ v) (xs.set i ⟨xs[i].codes,xs[i].elems.set j e'⟩) gs es p s t:=by
 obtain⟨q,r,a,x,b,g,k,m⟩:=h.ents.elt hi hv hvi hj;refine⟨q,r,a,b,g,k,λf v e' hf he'=>?_⟩;have hg:w.grownBy (w.setCell ⟨q,j*4+f,N⟩ v) (Z q):=bR w ⟨q,j*4+f,N⟩ v;refine⟨dS h.room ⟨q,j*4+f,N⟩ (by have:=o.rt;dsimp only;omega) v,?_,m f v e' hf he',h.grps.kept hg ?_,h.els.kept hg ?_,h.bel.setCell (Nat.le_trans o.nb a) v,h.chg.trans (Chg.of_grown hg (λq' e=>.inr (.inr (.inr (by have:=Option.some.inj e;omega)))))⟩
 ·rw[List.length_set];exact dS h.col ⟨q,j*4+f,N⟩ (by have:=o.gb;dsimp only;omega) v
 ·rw[bH]
  cases hB:blk K.B with
  |none=>exact .inl rfl
  |some q'=>exact .inr (λe=>by injection e with e;have:=(o.bB q' hB).1;omega)
 rw[bH];cases hB:blk K.E with
 |none=>exact .inl rfl
 |some q'=>exact .inr (λe=>by injection e with e;have:=(o.bE q' hB).1;omega)
end
theorem TY(K:Opd)(o:OpO K)(c:Col)(es:List Elt)(w:Wv)(hrb:K.rb=w.heap.size)(hc:aK c=0)(hcz:aQ c)(hes:∀e∈es,0<=wt 1 e/\wt 1 e<=65535)(hn:0<es.length)(hsz:es.length<=1099511627776)(hz:1<=K.z/\K.z<=65535)
  (hcol:Box w K.g 32 [H K.A c.ents.length K.a,H K.B c.grps.length K.bb,I J c.base,I J c.second,I J c.third]) (hents:OpV w K.base K.zz K.A K.a K.vs K.m K.top c.ents) (hgrps:w.ownsRow K.lg 98 3 (H K.B c.grps.length K.bb) c.grps.length (aB Grp.cells c.grps)) (hels:w.ownsRow K.le 77 4 (H K.E es.length K.ec) es.length (aB Elt.cells es)) :
  Calls prog 40 #[.agg #[I J K.z,.bool K.b],.pointer (Z ⟨K.g,0,none⟩),H K.E es.length K.ec,I J 1] w λe w'=>
   e=.returned (.bool (fitO 1 (lst K.z K.b) K.z c))/\OpS K w w' (roomC 1 K.z (lst K.z K.b) c).ents (roomC 1 K.z (lst K.z K.b) c).grps (newO 1 (lst K.z K.b) (roomC 1 K.z (lst K.z K.b) c) es) (roomC 1 K.z (lst K.z K.b) c).base (roomC 1 K.z (lst K.z K.b) c).second (roomC 1 K.z (lst K.z K.b) c).third:=by
 have B0:By w (w.alloc (.cells #[I J K.z,.bool K.b] 85)):=ba _ _;have X0:Box (w.alloc (.cells #[I J K.z,.bool K.b] 85)) w.heap.size 85 [I J K.z,.bool K.b]:=Box.new _ _ _ rfl;have hN:K.N<=w.heap.size:=Nat.le_trans o.ng (Nat.le_of_lt hcol.lt);have S0:OpS K w (w.alloc (.cells #[I J K.z,.bool K.b] 85)) c.ents c.grps es c.base c.second c.third:=⟨by rw[hrb];exact X0,bb hcol B0,hents.below B0,aG hgrps B0,aG hels B0,(Below.refl _ _).trans (B0.mono hN),Chg.of_below B0⟩;have ee:∃W0,(w.alloc (.cells #[I J K.z,.bool K.b] 85))=W0:=⟨_,rfl⟩;have CF:=G (colw hc);have ES:=G hes;have Q:=G o;obtain⟨gj,gk⟩:=hz;have KR:=G (λx W(hx:0<=x/\x<=65535)=>nC K.z K.b x W ⟨hx.1,O⟩);have KO:=G (λW=>uA K.z K.b W ⟨O,O⟩);have KC:=G (λd o x W(hx:0<=x/\x<=65535)hc hf=>VK K.z K.b d o x W ⟨hx.1,O⟩ hc hf);unfold aU at KR KO;obtain⟨l,hl⟩:=exQ (lst K.z K.b);have fs:=U (l=K.z\/l=K.z+1) (hl ▸ lst_c K.z K.b);rw[hl]at KR KO KC|-;have A:=G hrb;have d9:=G hcz.e;have ga:=hcz.n;have f9:=hcz.m;clear hl hrb hc hes hcol hents hgrps hels X0 o hcz;(try dsimp only at KR KO KC);go_enter func40,ntmps40;go_upto_region 1 with(fail)
 go_step;go_step;go_step;go_step;go_step;go_step;go_step;go_step;go_step;go_step;go_step;go_step;go_step;go_step;obtain⟨W0,dg⟩:=ee;try rw[dg]at S0 B0|-
 clear dg;have c7:=G S0;have c0:W0.cell? ⟨w.heap.size,0,none⟩=Z (I J K.z):=by rw[<-A.o];exact S0.room.cell rfl
 have c1:W0.cell? ⟨w.heap.size,1,none⟩=Z (.bool K.b):=by rw[<-A.o];exact S0.room.cell rfl
 have c2:=S0.col.c 2 rfl;have f2:=S0.col.free 2;have dl:=S0.col.lt;have hb:=S0.n Q.o;have ax:=G (λW=>KR.o c.base W CF.o.p);obtain⟨pv,ci⟩:=exQ (mvd l c.base);rw[ci]at ax;have c6:=G ci;clear ci S0 KR B0;go_cut [9] (λs9 wx=>s9=.func (.func 91) #[.agg #[I J K.z,.bool K.b]] #[]/\OpS K w wx c.ents (c.grps.map (rsG 1 K.z)) es pv c.second c.third)
 case first=>
  as_aux_lemma=>
  go_upto_region 4 with(fail)
  go_cut [] (λwx=>OpS K w wx c.ents c.grps es pv c.second c.third)
  case first=>
   as_aux_lemma=>
   go_region_with (go_at_call 92;refine(ax.o _).mono ?_;rintro e w2 ⟨rfl,L⟩;have g2:=(L.cell (p:=⟨K.g,2,none⟩) dl).trans c2;have g3:=(L.frozen (p:=⟨K.g,2,none⟩) dl).trans f2)
   all_goals(
    have an:=(show By W0 W0.drew from(Below.refl _ _).drew).trans L
    have HF:=G ((c7.o.below hb an).col_set Q.o 2 (I J pv) pv c.second c.third rfl)
    clear L g2 g3 c0 c1 c2 f2 ax an
    go_wp2
    go_meet
    exact HF.o)
  case rest=>
  as_aux_lemma=>
  have Y:=G hcut;have e1:=hcut.col.c 1 rfl;clear hcut c0 c1 c2 f2 ax;go_wp2;go_loopw [39] (λu wr=>∃i:Nat,i<=c.grps.length/\u=I J i/\OpS K w wr c.ents (aI (rsG 1 K.z) c.grps i) es pv c.second c.third) (λu _=>c.grps.length-(intOf u).toNat)
  case atStart=>exact⟨0,Nat.zero_le _,rfl,by rw[kE];exact Y.o⟩
  as_aux_lemma=>
  obtain⟨i,hi,rfl,m⟩:=hrel;by_cases hlt:i<c.grps.length
  ·have bi:=m.n Q.o
   have bc:=gF (rsG 1 K.z) c.grps i;have P:i<(aI (rsG 1 K.z) c.grps i).length:=O;have D:=iI (rsG 1 K.z) c.grps hlt P;have T:=G (kF (rsG 1 K.z) c.grps hlt);have ab:=U ((aI (rsG 1 K.z) c.grps i).set i c.grps[i]=aI (rsG 1 K.z) c.grps i) (by conv=>{ lhs;rw[<-D] };exact List.set_getElem_self P);have dm:=CF.o.g _ (List.getElem_mem hlt);have y:=λW(h:OpS K w W c.ents (aI (rsG 1 K.z) c.grps i) es pv c.second c.third)=>h.grp Q.o (i:=i) P
   have az:=λW(e:Grp)(h:OpS K w W c.ents ((aI (rsG 1 K.z) c.grps i).set i e) es pv c.second c.third)=>h.grp Q.o (i:=i) (by rw[List.length_set];exact P)
   simp only[D]at y;simp only[List.getElem_set_self,List.set_set]at az;have V:=G y;have cx:=G az;obtain⟨q,hq,r,s,et,-⟩:=y wr m;have cj:=G hq;clear y az D bc;have ds:(aI (rsG 1 K.z) c.grps i).length=c.grps.length:=gF _ _ _;have g1:=m.col.c 1 rfl;rw[ds]at g1;have ep:=m.col.lt;have ck:=m.room.lt;have r0:wr.cell? ⟨w.heap.size,0,none⟩=Z (I J K.z):=by rw[<-A.o];exact m.room.cell rfl
   rw[A.o]at ck;have du:¬q=K.g:=(Q.o.bB q (by rw[hq];rfl)).2;have bl:q<wr.heap.size:=World.block_lt_of_cell? wr ⟨q,i*3+0,none⟩ (r 0 O);have fj:¬q=w.heap.size:=by have:=A.o;omega
   rw[hq]at g1|-;clear hq ds P;generalize c.grps[i]=gr at *;obtain⟨nm,g,f⟩:=gr;dsimp only at dm;obtain⟨ae,L,f6,f7⟩:=dm;have k0:wr.cell? ⟨q,0+i*3,none⟩=Z (.string nm):=by rw[Nat.zero_add];exact r 0 O
   have ew:wr.cell? ⟨q,i*3,none⟩=Z (.string nm):=r 0 O;have k1:wr.cell? ⟨q,0+i*3+1,none⟩=Z (I J g):=by rw[Nat.zero_add];exact r 1 O
   have k2:wr.cell? ⟨q,0+i*3+2,none⟩=Z (I J f):=by rw[Nat.zero_add];exact r 2 O
   have m1:wr.cell? ⟨q,i*3+1,none⟩=Z (I J g):=r 1 O;have m2:wr.cell? ⟨q,i*3+2,none⟩=Z (I J f):=r 2 O;have f1:wr.frozen? ⟨q,i*3+1,none⟩=false:=s _;have f2:wr.frozen? ⟨q,i*3+2,none⟩=false:=s _;have BA:By wr (wr.alloc (.cells #[.string nm,I J g,I J f] 98)):=ba _ _;have XA:Box (wr.alloc (.cells #[.string nm,I J g,I J f] 98)) wr.heap.size 98 [.string nm,I J g,I J f]:=Box.new wr 98 [.string nm,I J g,I J f] rfl;have SA:=G (m.below bi BA);have HG:=U (rsG 1 K.z ⟨nm,g,f⟩=⟨nm,mvd (K.z+1) g,mvd K.z f⟩) rfl;have b1:∃Wa,(wr.alloc (.cells #[.string nm,I J g,I J f] 98))=Wa:=⟨_,rfl⟩;have z1:=(BA.cell (p:=⟨q,i*3+1,none⟩) bl).trans m1;have z2:=(BA.cell (p:=⟨q,i*3+2,none⟩) bl).trans m2;have z3:=(BA.frozen (p:=⟨q,i*3+1,none⟩) bl).trans f1;have z4:=(BA.frozen (p:=⟨q,i*3+2,none⟩) bl).trans f2;have z5:=(BA.cell (p:=⟨K.g,1,none⟩) ep).trans g1;have z6:=(BA.cell (p:=⟨w.heap.size,0,none⟩) ck).trans r0;have dv:¬q=wr.heap.size:=O;have er:¬K.g=wr.heap.size:=O;clear m r s;go_upto_region 8 with(fail)
   obtain⟨Wa,a2⟩:=b1;try rw[a2]at BA XA SA z1 z2 z3 z4 z5 z6|-
   clear a2 k0 ew k1 k2 m1 m2 f1 f2 g1 r0 BA;have x1:=XA.c 1 rfl;have x2:=XA.c 2 rfl;have al:=G XA;clear XA;have ev:w.heap.size<wr.heap.size:=ck;obtain⟨xb,bd⟩:=exQ (wr.heap.size);rw[bd]at dv er x1 x2 al ev|-;clear bd;obtain⟨bq,dh⟩:=exQ (decide (K.z<g));go_upto_if 48 with(fail);have cw:=G dh;clear dh;go_cut [] (λwx=>OpS K w wx c.ents ((aI (rsG 1 K.z) c.grps i).set i ⟨nm,mvd (K.z+1) g,f⟩) es pv c.second c.third/\Box wx xb 98 [.string nm,I J g,I J f])
   case first=>
    as_aux_lemma=>
    cases bq with
    |true=>
     have a0:mvd (K.z+1) g=g+1:=by have:=of_decide_eq_true cw.o;unfold mvd;rw[if_pos O]
     obtain⟨q',M,-,-,-,b⟩:=V.o Wa SA.o;obtain rfl:q=q':=by have hq:=cj.o.symm.trans M;injection hq with hq;injection hq
     have HA:=U (OpS K w (Wa.setCell ⟨q,i*3+1,none⟩ (I J (g+1))) c.ents ((aI (rsG 1 K.z) c.grps i).set i ⟨nm,mvd (K.z+1) g,f⟩) es pv c.second c.third) (by rw[a0];exact b 1 (I J (g+1)) ⟨nm,g+1,f⟩ O rfl);have HB:=G (dS al.o ⟨q,i*3+1,none⟩ (λe=>dv e.symm) (I J (g+1)));clear b M a0;go_wp2;go_meet;exact⟨HA.o,HB.o⟩
    |false=>
     have a0:mvd (K.z+1) g=g:=by have:=of_decide_eq_false cw.o;unfold mvd;rw[if_neg O]
     have HA:=U (OpS K w Wa c.ents ((aI (rsG 1 K.z) c.grps i).set i ⟨nm,mvd (K.z+1) g,f⟩) es pv c.second c.third) (by rw[a0,ab.o];exact SA.o);clear a0;go_wp2;go_meet;exact⟨HA.o,al.o⟩
   case rest=>
   as_aux_lemma=>
   obtain⟨am,b6⟩:=hcut;clear z1 z2 z3 z4 z5 z6 x1 x2;have a8:((aI (rsG 1 K.z) c.grps i).set i ⟨nm,mvd (K.z+1) g,f⟩).length=c.grps.length:=by rw[List.length_set,gF]
   have z5:=am.col.c 1 rfl;rw[a8]at z5;have z6:wc.cell? ⟨w.heap.size,0,none⟩=Z (I J K.z):=by rw[<-A.o];exact am.room.cell rfl
   have x2:=b6.c 2 rfl;obtain⟨q',M,r,s,-,b⟩:=cx.o wc ⟨nm,mvd (K.z+1) g,f⟩ am;obtain rfl:q=q':=by have hq:=cj.o.symm.trans M;injection hq with hq;injection hq
   have z2:wc.cell? ⟨q,i*3+2,none⟩=Z (I J f):=r 2 O;have z4:wc.frozen? ⟨q,i*3+2,none⟩=false:=s _;rw[cj.o]at z5;by_cases t2:K.z<=f
   ·have d2:decide (K.z<=f)=true:=decide_eq_true t2
    have a1:mvd K.z f=f+1:=by unfold mvd;rw[if_pos t2]
    have ad:=b 2 (I J (f+1)) ⟨nm,mvd (K.z+1) g,f+1⟩ O rfl;have e2:(⟨nm,mvd (K.z+1) g,f+1⟩:Grp)=rsG 1 K.z ⟨nm,g,f⟩:=by rw[HG.o,a1]
    rw[e2,T.o]at ad;have HA:=G ad;clear ad a1 e2 t2 b M r s a8 am b6;go_wp2;go_roundw
    case rel=>exact⟨i+1,O,oN_,HA.o⟩
    exact oI_
   have d2:decide (K.z<=f)=false:=decide_eq_false t2;have a1:mvd K.z f=f:=by unfold mvd;rw[if_neg t2]
   have e2:(⟨nm,mvd (K.z+1) g,f⟩:Grp)=rsG 1 K.z ⟨nm,g,f⟩:=by rw[HG.o,a1]
   have ad:=am;rw[e2,T.o]at ad;have HA:=G ad;clear ad a1 e2 t2 b M r s a8 am b6;go_wp2;go_roundw
   case rel=>exact⟨i+1,O,oN_,HA.o⟩
   exact oI_
  obtain rfl:i=c.grps.length:=O;rw[mK (rsG 1 K.z) c.grps (Nat.le_refl _)]at m;have ak:=G m;clear m;go_wp2;go_meet;exact⟨rfl,ak.o⟩
 as_aux_lemma=>
 obtain⟨rfl,m⟩:=hcut;obtain⟨f0,ap⟩:=exQ ((decide (pv<=65502)&&decide (c.second<=65535)&&decide (c.third<=65535)&&decide (l<=65535)));have au:=G ap;clear ap c0 c1 c2 f2 ax c7;go_upto_region 19 with(fail)
 have Y:=G m;have c2:=m.col.c 2 rfl;have c3:=m.col.c 3 rfl;have c4:=m.col.c 4 rfl;have r0:wc.cell? ⟨w.heap.size,0,none⟩=Z (I J K.z):=by rw[<-A.o];exact m.room.cell rfl
 have r1:wc.cell? ⟨w.heap.size,1,none⟩=Z (.bool K.b):=by rw[<-A.o];exact m.room.cell rfl
 have b7:=m.n Q.o;clear m;go_cut [12] (λs12 wx=>s12=.bool f0/\OpS K w wx c.ents (c.grps.map (rsG 1 K.z)) es pv c.second c.third)
 case first=>
  as_aux_lemma=>
  by_cases q0:pv<=65502
  ·have d0:decide (pv<=65502)=true:=decide_eq_true q0
   by_cases q1:c.second<=65535
   ·have d1:decide (c.second<=65535)=true:=decide_eq_true q1
    by_cases q2:c.third<=65535
    ·have d2:decide (c.third<=65535)=true:=decide_eq_true q2
     have HK:=U (decide (l<=65535)=f0) (by rw[<-au.o,decide_eq_true q0,decide_eq_true q1,decide_eq_true q2];simp);clear q0 q1 q2;go_wp2_with fail;refine(KO.o _).mono ?_
     rintro e W2 ⟨rfl,L⟩;have ak:=G (Y.o.below b7 L);clear L;go_wp2;go_meet;exact⟨by rw[HK.o],ak.o⟩
    have d2:decide (c.third<=65535)=false:=decide_eq_false q2;have HK:=U (false=f0) (by rw[<-au.o,d2];simp);clear q0 q1 q2;go_wp2;go_meet;exact⟨by rw[HK.o],Y.o⟩
   have d1:decide (c.second<=65535)=false:=decide_eq_false q1;have HK:=U (false=f0) (by rw[<-au.o,d1];simp);clear q0 q1;go_wp2;go_meet;exact⟨by rw[HK.o],Y.o⟩
  have d0:decide (pv<=65502)=false:=decide_eq_false q0;have HK:=U (false=f0) (by rw[<-au.o,d0];simp);clear q0;go_wp2;go_meet;exact⟨by rw[HK.o],Y.o⟩
 case rest=>
 as_aux_lemma=>
 obtain⟨rfl,m⟩:=hcut;have ak:=G m;have b7:=m.n Q.o;have e0:=m.col.c 0 rfl;have c9:=G m.ents.len;clear m c2 c3 c4 r0 r1 Y;go_wp2;go_loopw [12,132] (λv u wr=>∃i:Nat,i<=c.ents.length/\u=I J i/\v=.bool (f0&&okX 1 l c.ents i)/\OpS K w wr (aI (rsEnt 1 l) c.ents i) (c.grps.map (rsG 1 K.z)) es pv c.second c.third) (λ_ u _=>c.ents.length-(intOf u).toNat)
 case atStart=>exact⟨0,Nat.zero_le _,rfl,by rw[okX_0,Bool.and_true],by rw[kE];exact ak.o⟩
 as_aux_lemma=>
 obtain⟨i,hi,rfl,rfl,m⟩:=hrel;by_cases hlt:i<c.ents.length
 ·have cy:=U ((f0&&okX 1 l c.ents (i+1))=((f0&&okX 1 l c.ents i)&&okE 1 l c.ents[i].elems c.ents[i].elems.length)) (by rw[okX_succ 1 l c.ents hlt,Bool.and_assoc])
  obtain⟨fb,a6⟩:=exQ ((f0&&okX 1 l c.ents i));rw[a6]at cy|-;clear a6;have bi:=m.n Q.o;have cm:=gF (rsEnt 1 l) c.ents i;have P:i<(aI (rsEnt 1 l) c.ents i).length:=O;have co:i<K.vs.length:=by have:=c9.o;omega
  obtain⟨gA,C,cc,E,ec,hA,gb,gc,cn,ca,cb⟩:=m.ents.at P co;have cl:=iI (rsEnt 1 l) c.ents hlt P;rw[cl]at cn ca cb;have eq:gA<wr.heap.size:=World.block_lt_of_cell? wr ⟨gA,i*2,none⟩ ca;have eb:=G (CF.o.e _ (List.getElem_mem hlt));have a9:(aI (rsEnt 1 l) c.ents i).set i c.ents[i]=aI (rsEnt 1 l) c.ents i:=by
   conv=>lhs;rw[<-cl]
   exact List.set_getElem_self P
  have ab:=G a9;have c5:=U ((aI (rsEnt 1 l) c.ents i).set i ⟨c.ents[i].codes,c.ents[i].elems.map (rsE 1 l)⟩=aI (rsEnt 1 l) c.ents (i+1)) (kF (rsEnt 1 l) c.ents hlt);have ea:=G cm;have c8:=G cn;have gg:=d9.o i hlt;clear a9 cn cl P cm;generalize c.ents[i]=en at *;obtain⟨cd,el⟩:=en;dsimp only at *;rw[hA];have dp:¬gA=wr.heap.size:=O;have eh:wr.cell? ⟨gA,0+i*2,none⟩=Z (H C cd.length cc):=by rw[Nat.zero_add];exact ca
  have BA:By wr (wr.alloc (.cells #[H C cd.length cc,H E el.length ec] 75)):=ba _ _;have XA:Box (wr.alloc (.cells #[H C cd.length cc,H E el.length ec] 75)) wr.heap.size 75 [H C cd.length cc,H E el.length ec]:=Box.new wr 75 [H C cd.length cc,H E el.length ec] rfl;have SA:=G (m.below bi BA);have eu:=m.ents.tw;have b1:∃Wa,(wr.alloc (.cells #[H C cd.length cc,H E el.length ec] 75))=Wa:=⟨_,rfl⟩;clear m;go_upto_region 23 with(fail)
  obtain⟨Wa,a2⟩:=b1;try rw[a2]at BA XA SA|-
  clear a2 ca eh cb;have al:=G XA;have k1:=XA.c 1 rfl;clear XA;have f8:K.N<=Wa.heap.size:=Nat.le_trans bi BA.size;obtain⟨xb,bd⟩:=exQ (wr.heap.size);rw[bd]at al k1 eu|-;clear bd BA dp eq;go_wp2;go_loopw [12,139] (λv u wr2=>∃j:Nat,j<=el.length/\u=I J j/\v=.bool (fb&&okE 1 l el j)/\OpS K w wr2 ((aI (rsEnt 1 l) c.ents i).set i ⟨cd,aI (rsE 1 l) el j⟩) (c.grps.map (rsG 1 K.z)) es pv c.second c.third/\Box wr2 xb 75 [H C cd.length cc,H E el.length ec]) (λ_ u _=>el.length-(intOf u).toNat)
  case atStart=>exact⟨0,Nat.zero_le _,rfl,by rw[okE_0,Bool.and_true],by rw[kE,ab.o];exact SA.o,al.o⟩
  as_aux_lemma=>
  obtain⟨j,hj,rfl,rfl,m,hX⟩:=hrel;by_cases hlj:j<el.length
  ·have bx:=U ((fb&&okE 1 l el (j+1))=((fb&&okE 1 l el j)&&!bigE (rsE 1 l el[j]))) (by rw[okE_succ 1 l el hlj,Bool.and_assoc])
   obtain⟨fe,dk⟩:=exQ ((fb&&okE 1 l el j));rw[dk]at bx|-;clear dk;have ah:=m.n Q.o;have bc:=gF (rsE 1 l) el j;have bs:i<((aI (rsEnt 1 l) c.ents i).set i ⟨cd,aI (rsE 1 l) el j⟩).length:=by have cm:=ea.o;rw[List.length_set];omega
   have ce:((aI (rsEnt 1 l) c.ents i).set i ⟨cd,aI (rsE 1 l) el j⟩)[i]=⟨cd,aI (rsE 1 l) el j⟩:=List.getElem_set_self _;have D:=iI (rsE 1 l) el hlj O;have T:=G (kF (rsE 1 l) el hlj);have ar:=eb.o _ (List.getElem_mem hlj);have dt:=rsE_nn 1 l (λk=>(ar k).1);have y:=λW(h:OpS K w W ((aI (rsEnt 1 l) c.ents i).set i ⟨cd,aI (rsE 1 l) el j⟩) (c.grps.map (rsG 1 K.z)) es pv c.second c.third)=>h.ent Q.o bs co c8.o (j:=j) (by rw[ce];dsimp only;omega)
   simp only[ce,D,List.set_set]at y;have V:=G y;obtain⟨q,em,ge,gf,r,s,-⟩:=y wr m;clear y D ce;generalize el[j]=e at *;subst em;have gh:=hX.c 1 rfl;have cz:wr.cell? ⟨q,j*4,none⟩=Z (I J e.p):=r 0 O;have fz:wr.frozen? ⟨q,j*4,none⟩=false:=s _;have bf:=G m;have da:=G hX;have aw:=G (KC.o q (j*4) e.p wr (ar 1) cz fz);clear m hX r s ar cz fz;go_wp2_with fail;refine aw.o.mono ?_
   rintro e' W3 ⟨rfl,w1,ae,rfl⟩;have de:=bf.o.below ah ae;obtain⟨q',M,-,-,-,-,b⟩:=V.o w1 de;obtain rfl:q=q':=by injection M with M;injection M
   have R:=b 0 (I J (mvd l e.p)) (rsE 1 l e) O rfl;have dj:=R.ent Q.o (i:=i) (j:=j) (by simpa using bs) co c8.o (by simp[bc];omega);simp only[List.getElem_set_self]at dj;obtain⟨q',ai,-,-,bj,-,-⟩:=dj;obtain rfl:q=q':=by injection ai with ai;injection ai
   have b5:=dS (bb da.o ae) ⟨q,j*4,none⟩ oD_ (I J (mvd l e.p));have y0:(w1.setCell ⟨q,j*4,none⟩ (I J (mvd l e.p))).cell? ⟨q,j*4,none⟩=Z (I J (rsE 1 l e).p):=bj 0 O;have y1:(w1.setCell ⟨q,j*4,none⟩ (I J (mvd l e.p))).cell? ⟨q,j*4+1,none⟩=Z (I J (rsE 1 l e).s):=bj 1 O;have y2:(w1.setCell ⟨q,j*4,none⟩ (I J (mvd l e.p))).cell? ⟨q,j*4+2,none⟩=Z (I J (rsE 1 l e).t):=bj 2 O;simp only[T.o]at R;have b4:OpS K w (w1.setCell ⟨q,j*4,none⟩ (I J (mvd l e.p))) ((aI (rsEnt 1 l) c.ents i).set i ⟨cd,aI (rsE 1 l) el (j+1)⟩) (c.grps.map (rsG 1 K.z)) es pv c.second c.third:=R;have HT:=G (b4.below (b4.n Q.o) (Below.refl _ _).drew);have HX:=G (b5.below (B:=_) (Below.refl _ _).drew b5.lt);clear R b4 b5 bj b de M ai ae T V bf da aw;have a3:=bigE_eq _ dt;generalize rsE 1 l e=e3 at *;generalize w1.setCell ⟨q,j*4,none⟩ (I J (mvd l e.p))=W3 at *;obtain⟨mm,ch⟩:=exQ (max (max e3.p e3.s) e3.t);rw[ch]at a3;have cv:=G a3;have gd:=λ(W:Wv) (ts:Array TypeId) (ty:TypeId)=>tR W ts ty e3.p e3.s e3.t mm ch
   clear ch a3 dt;cases fe with
   |false=>
    go_wp2_with fail;go_region;go_wp2;go_roundw
    case rel=>exact⟨j+1,O,oN_,by rw[bx.o];rfl,HT.o,HX.o⟩
    exact oI_
   |true=>
    have d8:=U ((fb&&okE 1 l el (j+1))=decide (mm<=65535)) (by rw[bx.o,cv.o,Bool.not_not,Bool.true_and]);go_wp2_with fail;go_region;go_wp2;go_roundw
    case rel=>exact⟨j+1,O,oN_,by rw[d8.o],HT.o,HX.o⟩
    exact oI_
  obtain rfl:j=el.length:=O;have aa:=U (OpS K w wr ((aI (rsEnt 1 l) c.ents i).set i ⟨cd,el.map (rsE 1 l)⟩) (c.grps.map (rsG 1 K.z)) es pv c.second c.third) (by rw[<-mK (rsE 1 l) el (Nat.le_refl _)];exact m);clear m hX;go_wp2;go_roundw
  case rel=>exact⟨i+1,O,oN_,by rw[cy.o],by have:=aa.o;rw[c5.o]at this;exact this⟩
  exact oI_
 obtain rfl:i=c.ents.length:=O
 have bn:=U ((f0&&okX 1 l c.ents c.ents.length)=fitO 1 l K.z c) (by
  rw[fit_eq,<-au.o,<-c6.o];rfl)
 obtain⟨fb,a6⟩:=exQ ((f0&&okX 1 l c.ents c.ents.length));rw[a6]at bn|-;clear a6;rw[mK (rsEnt 1 l) c.ents (Nat.le_refl _)]at m;obtain⟨nl,bk⟩:∃nl,es.length=nl+1:=⟨es.length-1,O⟩;have X:=G bk;have di:=oE m.els;have df:=m;obtain⟨a,b3,-,-,et,du,-⟩:=df.el Q.o (i:=0) O;have aj:=G b3;have bf:=G m;rw[b3,bk];rw[bk]at hsz di;have eo:nl<=K.ec:=O;clear bk df m hn b3 ak e0 b7 c9;go_wp2;go_loopw [175] (λu wr2=>∃j:Nat,j<=nl/\u=I J j/\OpS K w wr2 (c.ents.map (rsEnt 1 l)) (c.grps.map (rsG 1 K.z)) (aI (rsE 1 l) es j) pv c.second c.third) (λu _=>nl-(intOf u).toNat)
 case atStart=>exact⟨0,Nat.zero_le _,rfl,by rw[kE];exact bf.o⟩
 as_aux_lemma=>
 obtain⟨j,hj,rfl,m⟩:=hrel;have ah:=m.n Q.o;by_cases hlj:j<nl
 ·have cf:j<es.length:=by have:=X.o;omega
  have bc:=gF (rsE 1 l) es j;have D:=iI (rsE 1 l) es cf O;have T:=G (kF (rsE 1 l) es cf);have ar:=ES.o _ (List.getElem_mem cf);have y:=λW(h:OpS K w W (c.ents.map (rsEnt 1 l)) (c.grps.map (rsG 1 K.z)) (aI (rsE 1 l) es j) pv c.second c.third)=>h.el Q.o (i:=j) O
  simp only[D]at y;have V:=G y;obtain⟨q,hq,r,s,-⟩:=y wr m;obtain rfl:a=q:=by have hq:=aj.o.symm.trans hq;injection hq with hq;injection hq
  clear y D bc hq;generalize es[j]=e at *;have cz:wr.cell? ⟨a,j*4,none⟩=Z (I J e.p):=r 0 O;have fz:wr.frozen? ⟨a,j*4,none⟩=false:=s _;have aa:=G m;have aw:=G (KC.o a (j*4) e.p wr ar cz fz);clear m r s ar cz fz;go_wp2_with fail;refine aw.o.mono ?_
  rintro e' W3 ⟨rfl,w1,ae,rfl⟩;obtain⟨q,hq,-,-,-,-,b⟩:=V.o w1 (aa.o.below ah ae);obtain rfl:a=q:=by have hq:=aj.o.symm.trans hq;injection hq with hq;injection hq
  have R:=b 0 (I J (mvd l e.p)) (rsE 1 l e) O rfl;rw[T.o]at R;have HT:=G R;clear R b hq ae V T aw aa;go_wp2;go_roundw
  case rel=>exact⟨j+1,O,oN_,HT.o⟩
  exact oI_
 obtain rfl:j=nl:=O;have aa:=G m;have r0:wr.cell? ⟨w.heap.size,0,none⟩=Z (I J K.z):=by rw[<-A.o];exact m.room.cell rfl
 have r1:wr.cell? ⟨w.heap.size,1,none⟩=Z (.bool K.b):=by rw[<-A.o];exact m.room.cell rfl
 have s3:=m.col.c 3 rfl;have s4:=m.col.c 4 rfl;have dq:=m.col.lt;have cg:(aI (rsE 1 l) es j).length=es.length:=gF _ _ _;obtain⟨q,hq,r,s,-⟩:=m.el Q.o (i:=j) (by have:=X.o;omega);obtain rfl:a=q:=by have hq:=aj.o.symm.trans hq;injection hq with hq;injection hq
 have aq:a<wr.heap.size:=World.block_lt_of_cell? wr ⟨a,j*4+0,none⟩ (r 0 O);have af:j<(aI (rsE 1 l) es j).length:=by rw[cg];have:=X.o;omega
 have ap:wr.frozen? ⟨a,j*4,none⟩=false:=s _;have b8:wr.frozen? ⟨a,j*4+1,none⟩=false:=s _;have b9:wr.frozen? ⟨a,j*4+2,none⟩=false:=s _;have ao:=r 0 O;have a4:=r 1 O;have a5:=r 2 O;simp only[Nat.add_zero]at ao;replace ao:=ao.trans (show _=Z (Value.int .i64 ((aI (rsE 1 l) es j)[j]'af).p)from rfl);replace a4:=a4.trans (show _=Z (Value.int .i64 ((aI (rsE 1 l) es j)[j]'af).s)from rfl);replace a5:=a5.trans (show _=Z (Value.int .i64 ((aI (rsE 1 l) es j)[j]'af).t)from rfl);have ft:=G cg;have b0:=G (λW=>KO.o W);have cp:=m.room.lt;rw[A.o]at cp;have bo:w.heap.size≠a:=by have:=A.o;omega
 have bp:K.g≠a:=λe=>du e.symm
 clear m r s hq cg KC KO;go_upto_block 9 with(fail);go_cut [] (λwx=>OpS K w wx (c.ents.map (rsEnt 1 l)) (c.grps.map (rsG 1 K.z)) (newO 1 l (roomC 1 K.z l c) es) pv c.second c.third)
 case first=>
  as_aux_lemma=>
  go_upto_region 40 with(fail)
  have SH:=G (λt(z:By wr t)=>show t.cell? ⟨w.heap.size,0,none⟩=Z (I J K.z)/\t.cell? ⟨w.heap.size,1,none⟩=Z (.bool K.b)/\t.cell? ⟨K.g,3,none⟩=Z (I J c.second)/\t.cell? ⟨K.g,4,none⟩=Z (I J c.third)/\t.frozen? ⟨a,j*4,none⟩=false/\t.frozen? ⟨a,j*4+1,none⟩=false/\t.frozen? ⟨a,j*4+2,none⟩=false from⟨(z.cell (p:=⟨w.heap.size,0,none⟩) cp).trans r0,(z.cell (p:=⟨w.heap.size,1,none⟩) cp).trans r1,(z.cell (p:=⟨K.g,3,none⟩) dq).trans s3,(z.cell (p:=⟨K.g,4,none⟩) dq).trans s4,(z.frozen (p:=⟨a,j*4,none⟩) aq).trans ap,(z.frozen (p:=⟨a,j*4+1,none⟩) aq).trans b8,(z.frozen (p:=⟨a,j*4+2,none⟩) aq).trans b9⟩);have SP:=G (λ(W:Wv) (o:Nat) (v:Value) (h:W.cell? ⟨w.heap.size,0,none⟩=Z (I J K.z)/\W.cell? ⟨w.heap.size,1,none⟩=Z (.bool K.b)/\W.cell? ⟨K.g,3,none⟩=Z (I J c.second)/\W.cell? ⟨K.g,4,none⟩=Z (I J c.third)/\W.frozen? ⟨a,j*4,none⟩=false/\W.frozen? ⟨a,j*4+1,none⟩=false/\W.frozen? ⟨a,j*4+2,none⟩=false)=>show(W.setCell ⟨a,o,none⟩ v).cell? ⟨w.heap.size,0,none⟩=Z (I J K.z)/\(W.setCell ⟨a,o,none⟩ v).cell? ⟨w.heap.size,1,none⟩=Z (.bool K.b)/\(W.setCell ⟨a,o,none⟩ v).cell? ⟨K.g,3,none⟩=Z (I J c.second)/\(W.setCell ⟨a,o,none⟩ v).cell? ⟨K.g,4,none⟩=Z (I J c.third)/\(W.setCell ⟨a,o,none⟩ v).frozen? ⟨a,j*4,none⟩=false/\(W.setCell ⟨a,o,none⟩ v).frozen? ⟨a,j*4+1,none⟩=false/\(W.setCell ⟨a,o,none⟩ v).frozen? ⟨a,j*4+2,none⟩=false from⟨lC h.1 bo v,lC h.2.1 bo v,lC h.2.2.1 bp v,lC h.2.2.2.1 bp v,mV h.2.2.2.2.1 v,mV h.2.2.2.2.2.1 v,mV h.2.2.2.2.2.2 v⟩);have TO:=G (λW(hb:By wr W)=>(b0.o W).mono (R':=λe t=>∃v,e=.returned v/\(t.cell? ⟨w.heap.size,0,none⟩=Z (I J K.z)/\t.cell? ⟨w.heap.size,1,none⟩=Z (.bool K.b)/\t.cell? ⟨K.g,3,none⟩=Z (I J c.second)/\t.cell? ⟨K.g,4,none⟩=Z (I J c.third)/\t.frozen? ⟨a,j*4,none⟩=false/\t.frozen? ⟨a,j*4+1,none⟩=false/\t.frozen? ⟨a,j*4+2,none⟩=false)/\v=I J l/\By wr t) (by rintro e t ⟨rfl,z⟩;have L:=tb hb z;exact⟨_,rfl,SH.o t L,rfl,L⟩));have HC:=G (λt(z:By wr t)=>show(∃v,t.cell? ⟨a,j*4,none⟩=Z v)/\(∃v,t.cell? ⟨a,j*4+1,none⟩=Z v)/\(∃v,t.cell? ⟨a,j*4+2,none⟩=Z v)from⟨⟨_,(z.cell (p:=⟨a,j*4,none⟩) aq).trans ao⟩,⟨_,(z.cell (p:=⟨a,j*4+1,none⟩) aq).trans a4⟩,⟨_,(z.cell (p:=⟨a,j*4+2,none⟩) aq).trans a5⟩⟩);clear r0 r1 s3 s4 ap b8 b9 ao a4 a5;refine wp_region_held_drew (S:=λt=>t.cell? ⟨w.heap.size,0,none⟩=Z (I J K.z)/\t.cell? ⟨w.heap.size,1,none⟩=Z (.bool K.b)/\t.cell? ⟨K.g,3,none⟩=Z (I J c.second)/\t.cell? ⟨K.g,4,none⟩=Z (I J c.third)/\t.frozen? ⟨a,j*4,none⟩=false/\t.frozen? ⟨a,j*4+1,none⟩=false/\t.frozen? ⟨a,j*4+2,none⟩=false) oK_ (SH.o _ ((Below.refl _ _).drew)) (λn=>?_);refine tK 0 190 ?_;refine tK 1 191 ?_;refine tK 2 192 ?_;refine tK 3 193 ?_;refine tK 5 195 ?_;refine tK 6 196 ?_;refine tK 7 197 ?_;refine tK 8 198 ?_;refine tK 9 199 ?_;refine tK 10 200 ?_;refine tK 11 201 ?_;refine tK 12 202 ?_;refine qE 4 194 (TO.o _ (Below.refl _ _).drew) ?_;clear n;rintro _ w2 n ⟨rfl,an⟩;obtain⟨⟨v0,ei⟩,⟨v1,ej⟩,⟨v2,ek⟩⟩:=HC.o w2 an;refine tK 13 203 ?_;refine tK 14 204 ?_;have F:=SP.o w2 (j*4) (I J l) n;refine dJ (w':=w2.setCell ⟨a,j*4,none⟩ (I J l)) (i:=15) none rfl rfl oK_ oR_ (by go_split_ands;go_simp) F ?_;clear n;have n:=F;clear F;try simp only[Act.put]
  refine tK 16 205 ?_;refine tK 17 206 ?_;have F:=SP.o (w2.setCell ⟨a,j*4,none⟩ (I J l)) (j*4+1) (I J c.second) n;refine dJ (w':=(w2.setCell ⟨a,j*4,none⟩ (I J l)).setCell ⟨a,j*4+1,none⟩ (I J c.second)) (i:=18) none rfl rfl oK_ oR_ (by go_split_ands;go_simp) F ?_;clear n;have n:=F;clear F;try simp only[Act.put]
  refine tK 19 207 ?_;refine tK 20 208 ?_;have F:=SP.o ((w2.setCell ⟨a,j*4,none⟩ (I J l)).setCell ⟨a,j*4+1,none⟩ (I J c.second)) (j*4+2) (I J c.third) n;refine dJ (w':=((w2.setCell ⟨a,j*4,none⟩ (I J l)).setCell ⟨a,j*4+1,none⟩ (I J c.second)).setCell ⟨a,j*4+2,none⟩ (I J c.third)) (i:=21) none rfl rfl oK_ oR_ (by go_split_ands;go_simp) F ?_;clear n;have n:=F;clear F;try simp only[Act.put]
  refine wpAnyH_done oK_ ?_ _;clear SH SP TO HC n ei ej ek
  all_goals(
   have R:=aa.o.below ah an
   have dr:j<es.length:=by have:=X.o;omega
   have D:(aI (rsE 1 l) es j)[j]=es[j]:=iI (rsE 1 l) es dr af
   have dn:es.getD (es.length-1) ⟨0,0,0,false⟩=es[j]:=by
    rw[show es.length-1=j by have:=X.o;omega,List.getD_eq_getElem?_getD,List.getElem?_eq_getElem dr];rfl
   have a7:=uV (rsE 1 l) es j X.o
   clear b0 aa an
   obtain⟨q,hq,-,-,-,-,b⟩:=R.el Q.o (i:=j) af
   obtain rfl:a=q:=by have hq:=aj.o.symm.trans hq;injection hq with hq;injection hq
   rw[D]at b
   have R:=b 0 (I J l) ⟨l,es[j].s,es[j].t,es[j].v⟩ O rfl
   clear b hq
   obtain⟨q,hq,-,-,-,-,b⟩:=R.el Q.o (i:=j) (by simp only[List.length_set];exact af)
   obtain rfl:a=q:=by have hq:=aj.o.symm.trans hq;injection hq with hq;injection hq
   simp only[List.getElem_set_self,List.set_set]at b
   have R:=b 1 (I J c.second) ⟨l,c.second,es[j].t,es[j].v⟩ O rfl
   clear b hq
   obtain⟨q,hq,-,-,-,-,b⟩:=R.el Q.o (i:=j) (by simp only[List.length_set];exact af)
   obtain rfl:a=q:=by have hq:=aj.o.symm.trans hq;injection hq with hq;injection hq
   simp only[List.getElem_set_self,List.set_set]at b
   have R:=b 2 (I J c.third) ⟨l,c.second,c.third,es[j].v⟩ O rfl
   clear b hq
   have br:newO 1 l (roomC 1 K.z l c) es=(es.take j).map (rsE 1 l)++[⟨l,c.second,c.third,es[j].v⟩]:=by
    unfold newO
    rw[dn,show es.length-1=j by have:=X.o;omega]
    rfl
   rw[a7,<-br]at R
   have av:=G R
   clear R br D dn a7
   go_wp2
   go_meet
   exact av.o)
 case rest=>
 as_aux_lemma=>
 have av:=G hcut;clear hcut ao a4 a5 ap b8 b9 r0 r1 s3 s4 b0;go_wp2;go_ret;refine⟨by rw[bn.o];rfl,?_⟩;rw[show(roomC 1 K.z l c).second=c.second from rfl,show(roomC 1 K.z l c).third=c.third from rfl,show(roomC 1 K.z l c).base=pv from c6.o,show(roomC 1 K.z l c).grps=(c.grps.map (rsG 1 K.z))from rfl];exact av.o
end
end Go.Proofs.YtkhmjidaeliccaaGreatDoor
