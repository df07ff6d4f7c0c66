import Derived.Test.YtkhmjidaeliccaaGreatDoorD00
import Derived.Test.YtkhmjidaeliccaaGreatDoorD08
import Derived.Test.YtkhmjidaeliccaaGreatDoorD16
import Derived.Test.YtkhmjidaeliccaaGreatDoorD19
import Derived.Laws.Cover1
import Derived.Deep.Cut
import Derived.Deep.DeepCutAuto
import Derived.Deep.CutBlock
set_option maxRecDepth 100000
set_option maxHeartbeats 51200000
namespace Go.Proofs.YtkhmjidaeliccaaGreatDoor
open Option renaming none->N,some->Z
open Value renaming int->I,slice->H
open IntKind renaming i64->J
open Go.Proofs.Tryz
section
open Go.RowKit Go.Maps Go.WideMaps Tl
theorem sE(W:Wv)(ts:Array TypeId)(ty:TypeId)(x y z m:Int)(hm:max (max x y) z=m):(Builtin.max_ ts ty #[I J x,I J y,I J z]).run prog W=.ok (I J m) W:=by
 rw[run_max_int3,<-hm];have e:(if z>(if y>x then y else x)then z else(if y>x then y else x))=max (max x y) z:=by
  split<;>split<;>omega
 rw[e]
theorem jV{W:Wv}{p q:Addr}{u:Value}(h:W.cell? p=Z u)(hne:p.block≠q.block)(v:Value):(W.setCell q v).cell? p=Z u:=(World.cell?_of_block (Below.heap_setCell W q v p.block hne)).trans h
theorem lW{W:Wv}{p q:Addr}(h:W.frozen? p=false)(v:Value):(W.setCell q v).frozen? p=false:=by simpa using h
structure Opd where
 N:Nat
 rb:Nat
 g:Nat
 lg:Nat
 le:Nat
 base:Nat
 zz:Nat
 top:Nat
 A:Oa
 a:Nat
 B:Oa
 bb:Nat
 E:Oa
 ec:Nat
 vs:List (Value×Value)
 m:Nat->Nat
 z:Int
 b:Bool
structure OpO(K:Opd):Prop where
 ng:K.N<=K.g
 nl:K.N<=K.lg
 ne:K.N<=K.le
 nb:K.N<=K.base
 gb:K.g<K.base
 bB:∀q,blk K.B=Z q->q<K.base/\q≠K.g
 bE:∀q,blk K.E=Z q->q<K.base/\q≠K.g/\blk K.B≠Z q
 rg:K.base<=K.rb
 rt:K.top<=K.rb
def AZ(K:Opd)(q:Nat):Prop:=q=K.g\/blk K.B=Z q\/blk K.E=Z q\/(K.base<=q/\q<K.top)
structure OpS(K:Opd)(w0 w:Wv)(xs:List Ent)(gs:List Grp)(es:List Elt)(p s t:Int):Prop where
 room:Box w K.rb 85 [I J K.z,.bool K.b]
 col:Box w K.g 32 [H K.A xs.length K.a,H K.B gs.length K.bb,I J p,I J s,I J t]
 ents:OpV w K.base K.zz K.A K.a K.vs K.m K.top xs
 grps:w.ownsRow K.lg 98 3 (H K.B gs.length K.bb) gs.length (aE Grp.cells gs)
 els:w.ownsRow K.le 77 4 (H K.E es.length K.ec) es.length (aE Elt.cells es)
 bel:Below K.N w0 w
 chg:Chg (AZ K) w0 w
section
variable {K:Opd}{w0 w w':Wv}{xs:List Ent}{gs:List Grp}{es:List Elt}{p s t:Int}
theorem OpS.below(h:OpS K w0 w xs gs es p s t)(hN:K.N<=w.heap.size)(hb:By w w'):OpS K w0 w' xs gs es p s t:=
 ⟨h.room.below hb h.room.lt,h.col.below hb h.col.lt,h.ents.below hb,bI h.grps hb,bI h.els hb,h.bel.trans (hb.mono hN),h.chg.trans (Chg.of_below hb)⟩
theorem OpS.n(h:OpS K w0 w xs gs es p s t)(o:OpO K):K.N<=w.heap.size:=Nat.le_trans o.ng (Nat.le_of_lt h.col.lt)
theorem OpS.col_set(h:OpS K w0 w xs gs es p s t)(o:OpO K)(i:Nat)(v:Value)(p' s' t':Int)(hv:[Value.slice K.A xs.length K.a,H K.B gs.length K.bb,I J p,I J s,I J t].set i v=[H K.A xs.length K.a,H K.B gs.length K.bb,I J p',I J s',I J t']):OpS K w0 (w.setCell ⟨K.g,i,N⟩ v) xs gs es p' s' t':=by
 have hg:w.grownBy (w.setCell ⟨K.g,i,N⟩ v) (Z K.g):=bT w ⟨K.g,i,N⟩ v;refine⟨aW h.room ⟨K.g,i,N⟩ (by have:=o.gb;have:=o.rg;dsimp only;omega) v,hv ▸ h.col.set i v,h.ents.low o.gb v,h.grps.kept hg ?_,h.els.kept hg ?_,h.bel.setCell o.ng v,h.chg.trans (Chg.of_grown hg (fun q e=>.inl (Option.some.inj e).symm))⟩
 ·rw[cH]
  cases hq:blk K.B with
  |none=>exact .inl rfl
  |some q=>exact .inr (fun e=>by injection e with e;exact(o.bB q hq).2 e)
 rw[cH];cases hq:blk K.E with
 |none=>exact .inl rfl
 |some q=>exact .inr (fun e=>by injection e with e;exact(o.bE q hq).2.1 e)
theorem OpS.grp(h:OpS K w0 w xs gs es p s t)(o:OpO K){i:Nat}(hi:i<gs.length):∃q,K.B=Z ⟨q,0,N⟩/\(∀f,f<3->w.cell? ⟨q,i*3+f,N⟩=(Grp.cells gs[i])[f]?)/\(∀f,w.frozen? ⟨q,f,N⟩=false)/\q<K.rb/\
  ∀f v g',f<3->Grp.cells g'=(Grp.cells gs[i]).set f v->OpS K w0 (w.setCell ⟨q,i*3+f,N⟩ v) xs (gs.set i g') es p s t:=by
 have hr:=h.grps;obtain⟨q,hB,hq1,hq2⟩:=gY hr (by omega);have hb:=o.bB q (by rw[hB];rfl);rw[hB]at hr;refine⟨q,hB,fun f hf=>(hr.cellAt (i*3+f) (by omega)).trans (gW Grp.cells 3 (fun _=>rfl) gs i f hi hf),fun f=>hr.frozenAt _,by have:=o.rg;omega,fun f v g' hf hg'=>?_⟩;have hg:w.grownBy (w.setCell ⟨q,i*3+f,N⟩ v) (Z q):=bT w ⟨q,i*3+f,N⟩ v;have t1:=(hr.stored (i*3+f) v).1;rw[gX Grp.cells 3 (fun _=>rfl) gs i f v g' hi hf hg']at t1;refine⟨aW h.room ⟨q,i*3+f,N⟩ (by have:=o.rg;dsimp only;omega) v,?_,h.ents.low hb.1 v,by rw[hB];simpa using t1,h.els.kept hg ?_,h.bel.setCell (Nat.le_trans o.nl hq1) v,h.chg.trans (Chg.of_grown hg (fun q' e=>.inr (.inl (by rw[hB];exact congrArg Z (Option.some.inj e)))))⟩
 ·rw[List.length_set];exact aW h.col ⟨q,i*3+f,N⟩ (fun e=>hb.2 e.symm) v
 rw[cH];cases hE:blk K.E with
 |none=>exact .inl rfl
 |some q'=>exact .inr (fun e=>by injection e with e;exact(o.bE q' hE).2.2 (by rw[hB,e];rfl))
theorem OpS.el(h:OpS K w0 w xs gs es p s t)(o:OpO K){i:Nat}(hi:i<es.length):∃q,K.E=Z ⟨q,0,N⟩/\(∀f,f<4->w.cell? ⟨q,i*4+f,N⟩=(Elt.cells es[i])[f]?)/\(∀f,w.frozen? ⟨q,f,N⟩=false)/\q<K.rb/\q≠K.g/\
  ∀f v e',f<4->Elt.cells e'=(Elt.cells es[i]).set f v->OpS K w0 (w.setCell ⟨q,i*4+f,N⟩ v) xs gs (es.set i e') p s t:=by
 have hr:=h.els;obtain⟨q,hE,hq1,hq2⟩:=gY hr (by omega);have hb:=o.bE q (by rw[hE];rfl);rw[hE]at hr;refine⟨q,hE,fun f hf=>(hr.cellAt (i*4+f) (by omega)).trans (gW Elt.cells 4 (fun _=>rfl) es i f hi hf),fun f=>hr.frozenAt _,by have:=o.rg;omega,hb.2.1,fun f v e' hf he'=>?_⟩;have hg:w.grownBy (w.setCell ⟨q,i*4+f,N⟩ v) (Z q):=bT w ⟨q,i*4+f,N⟩ v;have t1:=(hr.stored (i*4+f) v).1;rw[gX Elt.cells 4 (fun _=>rfl) es i f v e' hi hf he']at t1;refine⟨aW h.room ⟨q,i*4+f,N⟩ (by have:=o.rg;dsimp only;omega) v,aW h.col ⟨q,i*4+f,N⟩ (fun e=>hb.2.1 e.symm) v,h.ents.low hb.1 v,h.grps.kept hg ?_,by rw[hE];simpa using t1,h.bel.setCell (Nat.le_trans o.ne hq1) v,h.chg.trans (Chg.of_grown hg (fun q' e=>.inr (.inr (.inl (by rw[hE];exact congrArg Z (Option.some.inj e))))))⟩;rw[cH];cases hB:blk K.B with
 |none=>exact .inl rfl
 |some q'=>exact .inr (fun e=>by injection e with e;exact hb.2.2 (by rw[hB,e]))
theorem OpS.ent(h:OpS K w0 w xs gs es p s t)(o:OpO K){i:Nat}(hi:i<xs.length)(hv:i<K.vs.length){C:Oa}{n c:Nat}{E:Oa}{l d:Nat}(hvi:K.vs[i]=(H C n c,H E l d)){j:Nat}(hj:j<xs[i].elems.length):
  ∃q,E=Z ⟨q,0,N⟩/\K.base<=q/\q<K.top/\(∀f,f<4->w.cell? ⟨q,j*4+f,N⟩=xs[i].elems[j].cells[f]?)/\(∀o,w.frozen? ⟨q,o,N⟩=false)/\
   ∀f v e',f<4->Elt.cells e'=(Elt.cells xs[i].elems[j]).set f v->OpS K w0 (w.setCell ⟨q,j*4+f,N⟩ v) (xs.set i ⟨xs[i].codes,xs[i].elems.set j e'⟩) gs es p s t:=by
 obtain⟨q,hE,h1,h2,h3,h4,h5,h6⟩:=h.ents.elt hi hv hvi hj;refine⟨q,hE,h1,h3,h4,h5,fun f v e' hf he'=>?_⟩;have hg:w.grownBy (w.setCell ⟨q,j*4+f,N⟩ v) (Z q):=bT w ⟨q,j*4+f,N⟩ v;refine⟨aW h.room ⟨q,j*4+f,N⟩ (by have:=o.rt;dsimp only;omega) v,?_,h6 f v e' hf he',h.grps.kept hg ?_,h.els.kept hg ?_,h.bel.setCell (Nat.le_trans o.nb h1) v,h.chg.trans (Chg.of_grown hg (fun q' e=>.inr (.inr (.inr (by have:=Option.some.inj e;omega)))))⟩
 ·rw[List.length_set];exact aW h.col ⟨q,j*4+f,N⟩ (by have:=o.gb;dsimp only;omega) v
 ·rw[cH]
  cases hB:blk K.B with
  |none=>exact .inl rfl
  |some q'=>exact .inr (fun e=>by injection e with e;have:=(o.bB q' hB).1;omega)
 rw[cH];cases hB:blk K.E with
 |none=>exact .inl rfl
 |some q'=>exact .inr (fun e=>by injection e with e;have:=(o.bE q' hB).1;omega)
end
theorem PU(K:Opd)(o:OpO K)(c:Col)(es:List Elt)(w:Wv)(hrb:K.rb=w.heap.size)(hc:aH c=0)(hcz:aZ c)(hes:∀e∈es,0<=wt 1 e/\wt 1 e<=65535)(hn:0<es.length)(hsz:es.length<=1099511627776)(hz:1<=K.z/\K.z<=65535)
  (hcol:Box w K.g 32 [H K.A c.ents.length K.a,H K.B c.grps.length K.bb,I J c.base,I J c.second,I J c.third]) (hents:OpV w K.base K.zz K.A K.a K.vs K.m K.top c.ents) (hgrps:w.ownsRow K.lg 98 3 (H K.B c.grps.length K.bb) c.grps.length (aE Grp.cells c.grps)) (hels:w.ownsRow K.le 77 4 (H K.E es.length K.ec) es.length (aE Elt.cells es)) :
  Calls prog 40 #[.agg #[I J K.z,.bool K.b],.pointer (Z ⟨K.g,0,none⟩),H K.E es.length K.ec,I J 1] w fun e w'=>
   e=.returned (.bool (fitO 1 (lst K.z K.b) K.z c))/\OpS K w w' (roomC 1 K.z (lst K.z K.b) c).ents (roomC 1 K.z (lst K.z K.b) c).grps (newO 1 (lst K.z K.b) (roomC 1 K.z (lst K.z K.b) c) es) (roomC 1 K.z (lst K.z K.b) c).base (roomC 1 K.z (lst K.z K.b) c).second (roomC 1 K.z (lst K.z K.b) c).third:=by
 have B0:By w (w.alloc (.cells #[I J K.z,.bool K.b] 85)):=ba _ _;have X0:Box (w.alloc (.cells #[I J K.z,.bool K.b] 85)) w.heap.size 85 [I J K.z,.bool K.b]:=Box.new _ _ _ rfl;have hN:K.N<=w.heap.size:=Nat.le_trans o.ng (Nat.le_of_lt hcol.lt);have S0:OpS K w (w.alloc (.cells #[I J K.z,.bool K.b] 85)) c.ents c.grps es c.base c.second c.third:=⟨by rw[hrb];exact X0,hcol.below B0 hcol.lt,hents.below B0,bI hgrps B0,bI hels B0,(Below.refl _ _).trans (B0.mono hN),Chg.of_below B0⟩;have W0E:∃W0,(w.alloc (.cells #[I J K.z,.bool K.b] 85))=W0:=⟨_,rfl⟩;have CF:=G (colw hc);have ES:=G hes;have HO:=G o;obtain⟨hz1,hz2⟩:=hz;have KR:=G (fun x W(hx:0<=x/\x<=65535)=>mD K.z K.b x W ⟨hx.1,by omega⟩);have KO:=G (fun W=>sN K.z K.b W ⟨by omega,by omega⟩);have KC:=G (fun d o x W(hx:0<=x/\x<=65535)hc hf=>RF K.z K.b d o x W ⟨hx.1,by omega⟩ hc hf);unfold bU at KR KO;obtain⟨l,hl⟩:∃l,lst K.z K.b=l:=⟨_,rfl⟩;have HLC:=U (l=K.z\/l=K.z+1) (hl ▸ lst_c K.z K.b);rw[hl]at KR KO KC|-;have HRB:=G hrb;have HCZ:=G hcz.e;have hcn:=hcz.n;have hcm:=hcz.m;clear hl hrb hc hes hcol hents hgrps hels X0 o hcz;(try dsimp only at KR KO KC);go_enter func40,ntmps40;go_upto_region 1 with(fail)
 go_step;go_step;go_step;go_step;go_step;go_step;go_step;go_step;go_step;go_step;go_step;go_step;go_step;go_step;obtain⟨W0,hW0⟩:=W0E;try rw[hW0]at S0 B0|-
 clear hW0;have HS0:=G S0;have c0:W0.cell? ⟨w.heap.size,0,none⟩=Z (I J K.z):=by rw[<-HRB.out];exact S0.room.cell rfl
 have c1:W0.cell? ⟨w.heap.size,1,none⟩=Z (.bool K.b):=by rw[<-HRB.out];exact S0.room.cell rfl
 have c2:=S0.col.c 2 rfl;have f2:=S0.col.free 2;have hg0:=S0.col.lt;have hb:=S0.n HO.out;have KR2:=G (fun W=>KR.out c.base W CF.out.p);obtain⟨pv,hpv⟩:∃pv,mvd l c.base=pv:=⟨_,rfl⟩;rw[hpv]at KR2;have HPV:=G hpv;clear hpv S0 KR B0;go_cut [9] (fun s9 wx=>s9=.func (.func 91) #[.agg #[I J K.z,.bool K.b]] #[]/\OpS K w wx c.ents (c.grps.map (rsG 1 K.z)) es pv c.second c.third)
 case first=>
  as_aux_lemma=>
  go_upto_region 4 with(fail)
  go_cut [] (fun wx=>OpS K w wx c.ents c.grps es pv c.second c.third)
  case first=>
   as_aux_lemma=>
   go_region_with (go_at_call 92;refine(KR2.out _).mono ?_;rintro e w2 ⟨rfl,hb2⟩;have g2:=(hb2.cell (p:=⟨K.g,2,none⟩) hg0).trans c2;have g3:=(hb2.frozen (p:=⟨K.g,2,none⟩) hg0).trans f2)
   all_goals(
    have hbf:=(show By W0 W0.drew from(Below.refl _ _).drew).trans hb2
    have HF:=G ((HS0.out.below hb hbf).col_set HO.out 2 (I J pv) pv c.second c.third rfl)
    clear hb2 g2 g3 c0 c1 c2 f2 KR2 hbf
    go_wp2_with fail
    go_meet
    exact HF.out)
  case rest=>
  as_aux_lemma=>
  have HS1:=G hcut;have e1:=hcut.col.c 1 rfl;clear hcut c0 c1 c2 f2 KR2;go_wp2_with fail;go_loopw [39] (fun u wr=>∃i:Nat,i<=c.grps.length/\u=I J i/\OpS K w wr c.ents (aD (rsG 1 K.z) c.grps i) es pv c.second c.third) (fun u _=>c.grps.length-(intOf u).toNat)
  case atStart=>exact⟨0,Nat.zero_le _,rfl,by rw[iR];exact HS1.out⟩
  as_aux_lemma=>
  obtain⟨i,hi,rfl,hS⟩:=hrel;by_cases hlt:i<c.grps.length
  ·have hbr:=hS.n HO.out
   have hul:=fJ (rsG 1 K.z) c.grps i;have hi':i<(aD (rsG 1 K.z) c.grps i).length:=by omega
   have hue:=gG (rsG 1 K.z) c.grps hlt hi';have HUS:=G (iS (rsG 1 K.z) c.grps hlt);have HSELF:=U ((aD (rsG 1 K.z) c.grps i).set i c.grps[i]=aD (rsG 1 K.z) c.grps i) (by conv=>{ lhs;rw[<-hue] };exact List.set_getElem_self hi');have hgb:=CF.out.g _ (List.getElem_mem hlt);have hEN:=fun W(h:OpS K w W c.ents (aD (rsG 1 K.z) c.grps i) es pv c.second c.third)=>h.grp HO.out (i:=i) hi'
   have hEN2:=fun W(e:Grp)(h:OpS K w W c.ents ((aD (rsG 1 K.z) c.grps i).set i e) es pv c.second c.third)=>h.grp HO.out (i:=i) (by rw[List.length_set];exact hi')
   simp only[hue]at hEN;simp only[List.getElem_set_self,List.set_set]at hEN2;have HEN:=G hEN;have HEN2:=G hEN2;obtain⟨q,hq,hcl,hfr,hqr,-⟩:=hEN wr hS;have hq0:=G hq;clear hEN hEN2 hue hul;have hlg:(aD (rsG 1 K.z) c.grps i).length=c.grps.length:=fJ _ _ _;have g1:=hS.col.c 1 rfl;rw[hlg]at g1;have hgl:=hS.col.lt;have hrl:=hS.room.lt;have r0:wr.cell? ⟨w.heap.size,0,none⟩=Z (I J K.z):=by rw[<-HRB.out];exact hS.room.cell rfl
   rw[HRB.out]at hrl;have hqg:¬q=K.g:=(HO.out.bB q (by rw[hq];rfl)).2;have hqw:q<wr.heap.size:=World.block_lt_of_cell? wr ⟨q,i*3+0,none⟩ (hcl 0 (by omega));have hqrr:¬q=w.heap.size:=by have:=HRB.out;omega
   rw[hq]at g1|-;clear hq hlg hi';generalize c.grps[i]=gr at *;obtain⟨nm,glo,ghi⟩:=gr;dsimp only at hgb;obtain⟨hb1,hb2,hb3,hb4⟩:=hgb;have k0:wr.cell? ⟨q,0+i*3,none⟩=Z (.string nm):=by rw[Nat.zero_add];exact hcl 0 (by omega)
   have k0':wr.cell? ⟨q,i*3,none⟩=Z (.string nm):=hcl 0 (by omega);have k1:wr.cell? ⟨q,0+i*3+1,none⟩=Z (I J glo):=by rw[Nat.zero_add];exact hcl 1 (by omega)
   have k2:wr.cell? ⟨q,0+i*3+2,none⟩=Z (I J ghi):=by rw[Nat.zero_add];exact hcl 2 (by omega)
   have m1:wr.cell? ⟨q,i*3+1,none⟩=Z (I J glo):=hcl 1 (by omega);have m2:wr.cell? ⟨q,i*3+2,none⟩=Z (I J ghi):=hcl 2 (by omega);have f1:wr.frozen? ⟨q,i*3+1,none⟩=false:=hfr _;have f2:wr.frozen? ⟨q,i*3+2,none⟩=false:=hfr _;have BA:By wr (wr.alloc (.cells #[.string nm,I J glo,I J ghi] 98)):=ba _ _;have XA:Box (wr.alloc (.cells #[.string nm,I J glo,I J ghi] 98)) wr.heap.size 98 [.string nm,I J glo,I J ghi]:=Box.new wr 98 [.string nm,I J glo,I J ghi] rfl;have SA:=G (hS.below hbr BA);have HG:=U (rsG 1 K.z ⟨nm,glo,ghi⟩=⟨nm,mvd (K.z+1) glo,mvd K.z ghi⟩) rfl;have WaE:∃Wa,(wr.alloc (.cells #[.string nm,I J glo,I J ghi] 98))=Wa:=⟨_,rfl⟩;have z1:=(BA.cell (p:=⟨q,i*3+1,none⟩) hqw).trans m1;have z2:=(BA.cell (p:=⟨q,i*3+2,none⟩) hqw).trans m2;have z3:=(BA.frozen (p:=⟨q,i*3+1,none⟩) hqw).trans f1;have z4:=(BA.frozen (p:=⟨q,i*3+2,none⟩) hqw).trans f2;have z5:=(BA.cell (p:=⟨K.g,1,none⟩) hgl).trans g1;have z6:=(BA.cell (p:=⟨w.heap.size,0,none⟩) hrl).trans r0;have hqx:¬q=wr.heap.size:=by omega
   have hgx:¬K.g=wr.heap.size:=by omega
   clear hS hcl hfr;go_upto_region 8 with(fail)
   obtain⟨Wa,hWa⟩:=WaE;try rw[hWa]at BA XA SA z1 z2 z3 z4 z5 z6|-
   clear hWa k0 k0' k1 k2 m1 m2 f1 f2 g1 r0 BA;have x1:=XA.c 1 rfl;have x2:=XA.c 2 rfl;have HXA:=G XA;clear XA;have hwx:w.heap.size<wr.heap.size:=hrl;obtain⟨xb,hxb⟩:∃xb,wr.heap.size=xb:=⟨_,rfl⟩;rw[hxb]at hqx hgx x1 x2 HXA hwx|-;clear hxb;obtain⟨bq,hbq⟩:∃bq,decide (K.z<glo)=bq:=⟨_,rfl⟩;go_upto_if 48 with(fail);have HBQ:=G hbq;clear hbq;go_cut [] (fun wx=>OpS K w wx c.ents ((aD (rsG 1 K.z) c.grps i).set i ⟨nm,mvd (K.z+1) glo,ghi⟩) es pv c.second c.third/\Box wx xb 98 [.string nm,I J glo,I J ghi])
   case first=>
    as_aux_lemma=>
    cases bq with
    |true=>
     have hN1:mvd (K.z+1) glo=glo+1:=by have:=of_decide_eq_true HBQ.out;unfold mvd;rw[if_pos (by omega)]
     obtain⟨q',hq',-,-,-,hset⟩:=HEN.out Wa SA.out;obtain rfl:q=q':=by have hq:=hq0.out.symm.trans hq';injection hq with hq;injection hq
     have HA:=U (OpS K w (Wa.setCell ⟨q,i*3+1,none⟩ (I J (glo+1))) c.ents ((aD (rsG 1 K.z) c.grps i).set i ⟨nm,mvd (K.z+1) glo,ghi⟩) es pv c.second c.third) (by rw[hN1];exact hset 1 (I J (glo+1)) ⟨nm,glo+1,ghi⟩ (by omega) rfl);have HB:=G (aW HXA.out ⟨q,i*3+1,none⟩ (fun e=>hqx e.symm) (I J (glo+1)));clear hset hq' hN1;go_wp2_with fail;go_meet;exact⟨HA.out,HB.out⟩
    |false=>
     have hN1:mvd (K.z+1) glo=glo:=by have:=of_decide_eq_false HBQ.out;unfold mvd;rw[if_neg (by omega)]
     have HA:=U (OpS K w Wa c.ents ((aD (rsG 1 K.z) c.grps i).set i ⟨nm,mvd (K.z+1) glo,ghi⟩) es pv c.second c.third) (by rw[hN1,HSELF.out];exact SA.out);clear hN1;go_wp2_with fail;go_meet;exact⟨HA.out,HXA.out⟩
   case rest=>
   as_aux_lemma=>
   obtain⟨hS2,hXc⟩:=hcut;clear z1 z2 z3 z4 z5 z6 x1 x2;have hlg2:((aD (rsG 1 K.z) c.grps i).set i ⟨nm,mvd (K.z+1) glo,ghi⟩).length=c.grps.length:=by rw[List.length_set,fJ]
   have z5:=hS2.col.c 1 rfl;rw[hlg2]at z5;have z6:wc.cell? ⟨w.heap.size,0,none⟩=Z (I J K.z):=by rw[<-HRB.out];exact hS2.room.cell rfl
   have x2:=hXc.c 2 rfl;obtain⟨q',hq',hcl,hfr,-,hset⟩:=HEN2.out wc ⟨nm,mvd (K.z+1) glo,ghi⟩ hS2;obtain rfl:q=q':=by have hq:=hq0.out.symm.trans hq';injection hq with hq;injection hq
   have z2:wc.cell? ⟨q,i*3+2,none⟩=Z (I J ghi):=hcl 2 (by omega);have z4:wc.frozen? ⟨q,i*3+2,none⟩=false:=hfr _;rw[hq0.out]at z5;by_cases t2:K.z<=ghi
   ·have d2:decide (K.z<=ghi)=true:=decide_eq_true t2
    have hN2:mvd K.z ghi=ghi+1:=by unfold mvd;rw[if_pos t2]
    have hA2:=hset 2 (I J (ghi+1)) ⟨nm,mvd (K.z+1) glo,ghi+1⟩ (by omega) rfl;have e2:(⟨nm,mvd (K.z+1) glo,ghi+1⟩:Grp)=rsG 1 K.z ⟨nm,glo,ghi⟩:=by rw[HG.out,hN2]
    rw[e2,HUS.out]at hA2;have HA:=G hA2;clear hA2 hN2 e2 t2 hset hq' hcl hfr hlg2 hS2 hXc;go_wp2_with fail;go_roundw
    case rel=>exact⟨i+1,by omega,by go_num,HA.out⟩
    simp[intOf];omega
   have d2:decide (K.z<=ghi)=false:=decide_eq_false t2;have hN2:mvd K.z ghi=ghi:=by unfold mvd;rw[if_neg t2]
   have e2:(⟨nm,mvd (K.z+1) glo,ghi⟩:Grp)=rsG 1 K.z ⟨nm,glo,ghi⟩:=by rw[HG.out,hN2]
   have hA2:=hS2;rw[e2,HUS.out]at hA2;have HA:=G hA2;clear hA2 hN2 e2 t2 hset hq' hcl hfr hlg2 hS2 hXc;go_wp2_with fail;go_roundw
   case rel=>exact⟨i+1,by omega,by go_num,HA.out⟩
   simp[intOf];omega
  obtain rfl:i=c.grps.length:=by omega
  rw[lI (rsG 1 K.z) c.grps (Nat.le_refl _)]at hS;have HS2:=G hS;clear hS;go_wp2_with fail;go_meet;exact⟨rfl,HS2.out⟩
 as_aux_lemma=>
 obtain⟨rfl,hS⟩:=hcut;obtain⟨f0,hf0⟩:∃f0,(decide (pv<=65502)&&decide (c.second<=65535)&&decide (c.third<=65535)&&decide (l<=65535))=f0:=⟨_,rfl⟩;have HF0:=G hf0;clear hf0 c0 c1 c2 f2 KR2 HS0;go_upto_region 19 with(fail)
 have HS1:=G hS;have c2:=hS.col.c 2 rfl;have c3:=hS.col.c 3 rfl;have c4:=hS.col.c 4 rfl;have r0:wc.cell? ⟨w.heap.size,0,none⟩=Z (I J K.z):=by rw[<-HRB.out];exact hS.room.cell rfl
 have r1:wc.cell? ⟨w.heap.size,1,none⟩=Z (.bool K.b):=by rw[<-HRB.out];exact hS.room.cell rfl
 have hbn:=hS.n HO.out;clear hS;go_cut [12] (fun s12 wx=>s12=.bool f0/\OpS K w wx c.ents (c.grps.map (rsG 1 K.z)) es pv c.second c.third)
 case first=>
  as_aux_lemma=>
  by_cases q0:pv<=65502
  ·have d0:decide (pv<=65502)=true:=decide_eq_true q0
   by_cases q1:c.second<=65535
   ·have d1:decide (c.second<=65535)=true:=decide_eq_true q1
    by_cases q2:c.third<=65535
    ·have d2:decide (c.third<=65535)=true:=decide_eq_true q2
     have HK:=U (decide (l<=65535)=f0) (by rw[<-HF0.out,decide_eq_true q0,decide_eq_true q1,decide_eq_true q2];simp);clear q0 q1 q2;go_wp2_with fail;with_reducible refine(KO.out _).mono ?_
     rintro e W2 ⟨rfl,hb2⟩;have HS2:=G (HS1.out.below hbn hb2);clear hb2;go_wp2_with fail;go_meet;exact⟨by rw[HK.out],HS2.out⟩
    have d2:decide (c.third<=65535)=false:=decide_eq_false q2;have HK:=U (false=f0) (by rw[<-HF0.out,d2];simp);clear q0 q1 q2;go_wp2_with fail;go_meet;exact⟨by rw[HK.out],HS1.out⟩
   have d1:decide (c.second<=65535)=false:=decide_eq_false q1;have HK:=U (false=f0) (by rw[<-HF0.out,d1];simp);clear q0 q1;go_wp2_with fail;go_meet;exact⟨by rw[HK.out],HS1.out⟩
  have d0:decide (pv<=65502)=false:=decide_eq_false q0;have HK:=U (false=f0) (by rw[<-HF0.out,d0];simp);clear q0;go_wp2_with fail;go_meet;exact⟨by rw[HK.out],HS1.out⟩
 case rest=>
 as_aux_lemma=>
 obtain⟨rfl,hS⟩:=hcut;have HS2:=G hS;have hbn:=hS.n HO.out;have e0:=hS.col.c 0 rfl;have HVL:=G hS.ents.len;clear hS c2 c3 c4 r0 r1 HS1;go_wp2_with fail;go_loopw [12,132] (fun v u wr=>∃i:Nat,i<=c.ents.length/\u=I J i/\v=.bool (f0&&okX 1 l c.ents i)/\OpS K w wr (aD (rsEnt 1 l) c.ents i) (c.grps.map (rsG 1 K.z)) es pv c.second c.third) (fun _ u _=>c.ents.length-(intOf u).toNat)
 case atStart=>exact⟨0,Nat.zero_le _,rfl,by rw[okX_0,Bool.and_true],by rw[iR];exact HS2.out⟩
 as_aux_lemma=>
 obtain⟨i,hi,rfl,rfl,hS⟩:=hrel;by_cases hlt:i<c.ents.length
 ·have HFB:=U ((f0&&okX 1 l c.ents (i+1))=((f0&&okX 1 l c.ents i)&&okE 1 l c.ents[i].elems c.ents[i].elems.length)) (by rw[okX_succ 1 l c.ents hlt,Bool.and_assoc])
  obtain⟨fb,hfb⟩:∃fb,(f0&&okX 1 l c.ents i)=fb:=⟨_,rfl⟩;rw[hfb]at HFB|-;clear hfb;have hbr:=hS.n HO.out;have hup:=fJ (rsEnt 1 l) c.ents i;have hi':i<(aD (rsEnt 1 l) c.ents i).length:=by omega
  have hvi:i<K.vs.length:=by have:=HVL.out;omega
  obtain⟨gA,C,cc,E,ec,hA,hg1,hg2,hve,ca,cb⟩:=hS.ents.at hi' hvi;have hua:=gG (rsEnt 1 l) c.ents hlt hi';rw[hua]at hve ca cb;have hgw:gA<wr.heap.size:=World.block_lt_of_cell? wr ⟨gA,i*2,none⟩ ca;have HWE:=G (CF.out.e _ (List.getElem_mem hlt));have hself:(aD (rsEnt 1 l) c.ents i).set i c.ents[i]=aD (rsEnt 1 l) c.ents i:=by
   conv=>lhs;rw[<-hua]
   exact List.set_getElem_self hi'
  have HSELF:=G hself;have HNXT:=U ((aD (rsEnt 1 l) c.ents i).set i ⟨c.ents[i].codes,c.ents[i].elems.map (rsE 1 l)⟩=aD (rsEnt 1 l) c.ents (i+1)) (iS (rsEnt 1 l) c.ents hlt);have HUP:=G hup;have HVE:=G hve;have hsl:=HCZ.out i hlt;clear hself hve hua hi' hup;generalize c.ents[i]=en at *;obtain⟨cd,el⟩:=en;dsimp only at *;rw[hA];have hgne:¬gA=wr.heap.size:=by omega
  have ca':wr.cell? ⟨gA,0+i*2,none⟩=Z (H C cd.length cc):=by rw[Nat.zero_add];exact ca
  have BA:By wr (wr.alloc (.cells #[H C cd.length cc,H E el.length ec] 75)):=ba _ _;have XA:Box (wr.alloc (.cells #[H C cd.length cc,H E el.length ec] 75)) wr.heap.size 75 [H C cd.length cc,H E el.length ec]:=Box.new wr 75 [H C cd.length cc,H E el.length ec] rfl;have SA:=G (hS.below hbr BA);have htp:=hS.ents.tw;have WaE:∃Wa,(wr.alloc (.cells #[H C cd.length cc,H E el.length ec] 75))=Wa:=⟨_,rfl⟩;clear hS;go_upto_region 23 with(fail)
  obtain⟨Wa,hWa⟩:=WaE;try rw[hWa]at BA XA SA|-
  clear hWa ca ca' cb;have HXA:=G XA;have k1:=XA.c 1 rfl;clear XA;have hbA:K.N<=Wa.heap.size:=Nat.le_trans hbr BA.size;obtain⟨xb,hxb⟩:∃xb,wr.heap.size=xb:=⟨_,rfl⟩;rw[hxb]at HXA k1 htp|-;clear hxb BA hgne hgw;go_wp2_with fail;go_loopw [12,139] (fun v u wr2=>∃j:Nat,j<=el.length/\u=I J j/\v=.bool (fb&&okE 1 l el j)/\OpS K w wr2 ((aD (rsEnt 1 l) c.ents i).set i ⟨cd,aD (rsE 1 l) el j⟩) (c.grps.map (rsG 1 K.z)) es pv c.second c.third/\Box wr2 xb 75 [H C cd.length cc,H E el.length ec]) (fun _ u _=>el.length-(intOf u).toNat)
  case atStart=>exact⟨0,Nat.zero_le _,rfl,by rw[okE_0,Bool.and_true],by rw[iR,HSELF.out];exact SA.out,HXA.out⟩
  as_aux_lemma=>
  obtain⟨j,hj,rfl,rfl,hS,hX⟩:=hrel;by_cases hlj:j<el.length
  ·have HFE:=U ((fb&&okE 1 l el (j+1))=((fb&&okE 1 l el j)&&!bigE (rsE 1 l el[j]))) (by rw[okE_succ 1 l el hlj,Bool.and_assoc])
   obtain⟨fe,hfe⟩:∃fe,(fb&&okE 1 l el j)=fe:=⟨_,rfl⟩;rw[hfe]at HFE|-;clear hfe;have hbr2:=hS.n HO.out;have hul:=fJ (rsE 1 l) el j;have hsl2:i<((aD (rsEnt 1 l) c.ents i).set i ⟨cd,aD (rsE 1 l) el j⟩).length:=by have hup:=HUP.out;rw[List.length_set];omega
   have hgt:((aD (rsEnt 1 l) c.ents i).set i ⟨cd,aD (rsE 1 l) el j⟩)[i]=⟨cd,aD (rsE 1 l) el j⟩:=List.getElem_set_self _;have hue:=gG (rsE 1 l) el hlj (by omega);have HUS:=G (iS (rsE 1 l) el hlj);have hwe:=HWE.out _ (List.getElem_mem hlj);have hnn:=rsE_nn 1 l (fun k=>(hwe k).1);have hEN:=fun W(h:OpS K w W ((aD (rsEnt 1 l) c.ents i).set i ⟨cd,aD (rsE 1 l) el j⟩) (c.grps.map (rsG 1 K.z)) es pv c.second c.third)=>h.ent HO.out hsl2 hvi HVE.out (j:=j) (by rw[hgt];dsimp only;omega)
   simp only[hgt,hue,List.set_set]at hEN;have HEN:=G hEN;obtain⟨q,hEq,hq1,hq2,hcl,hfr,-⟩:=hEN wr hS;clear hEN hue hgt;generalize el[j]=e at *;subst hEq;have hx0:=hX.c 1 rfl;have cz:wr.cell? ⟨q,j*4,none⟩=Z (I J e.p):=hcl 0 (by omega);have fz:wr.frozen? ⟨q,j*4,none⟩=false:=hfr _;have HS3:=G hS;have HX3:=G hX;have KC2:=G (KC.out q (j*4) e.p wr (hwe 1) cz fz);clear hS hX hcl hfr hwe cz fz;go_wp2_with fail;with_reducible refine KC2.out.mono ?_
   rintro e' W3 ⟨rfl,w1,hb1,rfl⟩;have hS1:=HS3.out.below hbr2 hb1;obtain⟨q',hq',-,-,-,-,hset⟩:=HEN.out w1 hS1;obtain rfl:q=q':=by injection hq' with hq';injection hq'
   have hT:=hset 0 (I J (mvd l e.p)) (rsE 1 l e) (by omega) rfl;have hce:=hT.ent HO.out (i:=i) (j:=j) (by simpa using hsl2) hvi HVE.out (by simp[hul];omega);simp only[List.getElem_set_self]at hce;obtain⟨q',hq2',-,-,hc3,-,-⟩:=hce;obtain rfl:q=q':=by injection hq2' with hq2';injection hq2'
   have hX1:=aW (HX3.out.below hb1 HX3.out.lt) ⟨q,j*4,none⟩ (by dsimp only;omega) (I J (mvd l e.p));have y0:(w1.setCell ⟨q,j*4,none⟩ (I J (mvd l e.p))).cell? ⟨q,j*4,none⟩=Z (I J (rsE 1 l e).p):=hc3 0 (by omega);have y1:(w1.setCell ⟨q,j*4,none⟩ (I J (mvd l e.p))).cell? ⟨q,j*4+1,none⟩=Z (I J (rsE 1 l e).s):=hc3 1 (by omega);have y2:(w1.setCell ⟨q,j*4,none⟩ (I J (mvd l e.p))).cell? ⟨q,j*4+2,none⟩=Z (I J (rsE 1 l e).t):=hc3 2 (by omega);simp only[HUS.out]at hT;have hT2:OpS K w (w1.setCell ⟨q,j*4,none⟩ (I J (mvd l e.p))) ((aD (rsEnt 1 l) c.ents i).set i ⟨cd,aD (rsE 1 l) el (j+1)⟩) (c.grps.map (rsG 1 K.z)) es pv c.second c.third:=hT;have HT:=G (hT2.below (hT2.n HO.out) (Below.refl _ _).drew);have HX:=G (hX1.below (B:=_) (Below.refl _ _).drew hX1.lt);clear hT hT2 hX1 hc3 hset hS1 hq' hq2' hb1 HUS HEN HS3 HX3 KC2;have hbig:=bigE_eq _ hnn;generalize rsE 1 l e=e3 at *;generalize w1.setCell ⟨q,j*4,none⟩ (I J (mvd l e.p))=W3 at *;obtain⟨mm,hmm⟩:∃mm,max (max e3.p e3.s) e3.t=mm:=⟨_,rfl⟩;rw[hmm]at hbig;have HBIG:=G hbig;have hmx:=fun(W:Wv) (ts:Array TypeId) (ty:TypeId)=>sE W ts ty e3.p e3.s e3.t mm hmm
   clear hmm hbig hnn;cases fe with
   |false=>
    go_wp2_with fail;go_region;go_wp2_with fail;go_roundw
    case rel=>exact⟨j+1,by omega,by go_num,by rw[HFE.out];rfl,HT.out,HX.out⟩
    simp[intOf];omega
   |true=>
    have HB2:=U ((fb&&okE 1 l el (j+1))=decide (mm<=65535)) (by rw[HFE.out,HBIG.out,Bool.not_not,Bool.true_and]);go_wp2_with fail;go_region;go_wp2_with fail;go_roundw
    case rel=>exact⟨j+1,by omega,by go_num,by rw[HB2.out],HT.out,HX.out⟩
    simp[intOf];omega
  obtain rfl:j=el.length:=by omega
  have HS4:=U (OpS K w wr ((aD (rsEnt 1 l) c.ents i).set i ⟨cd,el.map (rsE 1 l)⟩) (c.grps.map (rsG 1 K.z)) es pv c.second c.third) (by rw[<-lI (rsE 1 l) el (Nat.le_refl _)];exact hS);clear hS hX;go_wp2_with fail;go_roundw
  case rel=>exact⟨i+1,by omega,by go_num,by rw[HFB.out],by have:=HS4.out;rw[HNXT.out]at this;exact this⟩
  simp[intOf];omega
 obtain rfl:i=c.ents.length:=by omega
 have HRES:=U ((f0&&okX 1 l c.ents c.ents.length)=fitO 1 l K.z c) (by
  rw[fit_eq,<-HF0.out,<-HPV.out];rfl)
 obtain⟨fb,hfb⟩:∃fb,(f0&&okX 1 l c.ents c.ents.length)=fb:=⟨_,rfl⟩;rw[hfb]at HRES|-;clear hfb;rw[lI (rsEnt 1 l) c.ents (Nat.le_refl _)]at hS;obtain⟨nl,hnl⟩:∃nl,es.length=nl+1:=⟨es.length-1,by omega⟩;have HNL:=G hnl;have hcap:=nM hS.els;have hSI:=hS;obtain⟨qel,hKE,-,-,hqr,hqg,-⟩:=hSI.el HO.out (i:=0) (by omega);have HKE:=G hKE;have HS3:=G hS;rw[hKE,hnl];rw[hnl]at hsz hcap;have hcap1:nl<=K.ec:=by omega
 clear hnl hSI hS hn hKE HS2 e0 hbn HVL;go_wp2_with fail;go_loopw [175] (fun u wr2=>∃j:Nat,j<=nl/\u=I J j/\OpS K w wr2 (c.ents.map (rsEnt 1 l)) (c.grps.map (rsG 1 K.z)) (aD (rsE 1 l) es j) pv c.second c.third) (fun u _=>nl-(intOf u).toNat)
 case atStart=>exact⟨0,Nat.zero_le _,rfl,by rw[iR];exact HS3.out⟩
 as_aux_lemma=>
 obtain⟨j,hj,rfl,hS⟩:=hrel;have hbr2:=hS.n HO.out;by_cases hlj:j<nl
 ·have hje:j<es.length:=by have:=HNL.out;omega
  have hul:=fJ (rsE 1 l) es j;have hue:=gG (rsE 1 l) es hje (by omega);have HUS:=G (iS (rsE 1 l) es hje);have hwe:=ES.out _ (List.getElem_mem hje);have hEN:=fun W(h:OpS K w W (c.ents.map (rsEnt 1 l)) (c.grps.map (rsG 1 K.z)) (aD (rsE 1 l) es j) pv c.second c.third)=>h.el HO.out (i:=j) (by omega)
  simp only[hue]at hEN;have HEN:=G hEN;obtain⟨q,hq,hcl,hfr,-⟩:=hEN wr hS;obtain rfl:qel=q:=by have hq:=HKE.out.symm.trans hq;injection hq with hq;injection hq
  clear hEN hue hul hq;generalize es[j]=e at *;have cz:wr.cell? ⟨qel,j*4,none⟩=Z (I J e.p):=hcl 0 (by omega);have fz:wr.frozen? ⟨qel,j*4,none⟩=false:=hfr _;have HS4:=G hS;have KC2:=G (KC.out qel (j*4) e.p wr hwe cz fz);clear hS hcl hfr hwe cz fz;go_wp2_with fail;with_reducible refine KC2.out.mono ?_
  rintro e' W3 ⟨rfl,w1,hb1,rfl⟩;obtain⟨q,hq,-,-,-,-,hset⟩:=HEN.out w1 (HS4.out.below hbr2 hb1);obtain rfl:qel=q:=by have hq:=HKE.out.symm.trans hq;injection hq with hq;injection hq
  have hT:=hset 0 (I J (mvd l e.p)) (rsE 1 l e) (by omega) rfl;rw[HUS.out]at hT;have HT:=G hT;clear hT hset hq hb1 HEN HUS KC2 HS4;go_wp2_with fail;go_roundw
  case rel=>exact⟨j+1,by omega,by go_num,HT.out⟩
  simp[intOf];omega
 obtain rfl:j=nl:=by omega
 have HS4:=G hS;have r0:wr.cell? ⟨w.heap.size,0,none⟩=Z (I J K.z):=by rw[<-HRB.out];exact hS.room.cell rfl
 have r1:wr.cell? ⟨w.heap.size,1,none⟩=Z (.bool K.b):=by rw[<-HRB.out];exact hS.room.cell rfl
 have s3:=hS.col.c 3 rfl;have s4:=hS.col.c 4 rfl;have hgs:=hS.col.lt;have hln:(aD (rsE 1 l) es j).length=es.length:=fJ _ _ _;obtain⟨q,hq,hcl,hfr,-⟩:=hS.el HO.out (i:=j) (by have:=HNL.out;omega);obtain rfl:qel=q:=by have hq:=HKE.out.symm.trans hq;injection hq with hq;injection hq
 have hqs:qel<wr.heap.size:=World.block_lt_of_cell? wr ⟨qel,j*4+0,none⟩ (hcl 0 (by omega));have hj1:j<(aD (rsE 1 l) es j).length:=by rw[hln];have:=HNL.out;omega
 have hf0:wr.frozen? ⟨qel,j*4,none⟩=false:=hfr _;have hf1:wr.frozen? ⟨qel,j*4+1,none⟩=false:=hfr _;have hf2:wr.frozen? ⟨qel,j*4+2,none⟩=false:=hfr _;have hc0:=hcl 0 (by omega);have hc1:=hcl 1 (by omega);have hc2:=hcl 2 (by omega);simp only[Nat.add_zero]at hc0;replace hc0:=hc0.trans (show _=Z (Value.int .i64 ((aD (rsE 1 l) es j)[j]'hj1).p)from rfl);replace hc1:=hc1.trans (show _=Z (Value.int .i64 ((aD (rsE 1 l) es j)[j]'hj1).s)from rfl);replace hc2:=hc2.trans (show _=Z (Value.int .i64 ((aD (rsE 1 l) es j)[j]'hj1).t)from rfl);have HLN:=G hln;have HKO:=G (fun W=>KO.out W);have hws:=hS.room.lt;rw[HRB.out]at hws;have hne1:w.heap.size≠qel:=by have:=HRB.out;omega
 have hne2:K.g≠qel:=fun e=>hqg e.symm
 clear hS hcl hfr hq hln KC KO;go_upto_block 9 with(fail);go_cut [] (fun wx=>OpS K w wx (c.ents.map (rsEnt 1 l)) (c.grps.map (rsG 1 K.z)) (newO 1 l (roomC 1 K.z l c) es) pv c.second c.third)
 case first=>
  as_aux_lemma=>
  go_upto_region 40 with(fail)
  have SH:=G (fun W'(hb':By wr W')=>show W'.cell? ⟨w.heap.size,0,none⟩=Z (I J K.z)/\W'.cell? ⟨w.heap.size,1,none⟩=Z (.bool K.b)/\W'.cell? ⟨K.g,3,none⟩=Z (I J c.second)/\W'.cell? ⟨K.g,4,none⟩=Z (I J c.third)/\W'.frozen? ⟨qel,j*4,none⟩=false/\W'.frozen? ⟨qel,j*4+1,none⟩=false/\W'.frozen? ⟨qel,j*4+2,none⟩=false from⟨(hb'.cell (p:=⟨w.heap.size,0,none⟩) hws).trans r0,(hb'.cell (p:=⟨w.heap.size,1,none⟩) hws).trans r1,(hb'.cell (p:=⟨K.g,3,none⟩) hgs).trans s3,(hb'.cell (p:=⟨K.g,4,none⟩) hgs).trans s4,(hb'.frozen (p:=⟨qel,j*4,none⟩) hqs).trans hf0,(hb'.frozen (p:=⟨qel,j*4+1,none⟩) hqs).trans hf1,(hb'.frozen (p:=⟨qel,j*4+2,none⟩) hqs).trans hf2⟩);have SP:=G (fun(W:Wv) (o:Nat) (v:Value) (h:W.cell? ⟨w.heap.size,0,none⟩=Z (I J K.z)/\W.cell? ⟨w.heap.size,1,none⟩=Z (.bool K.b)/\W.cell? ⟨K.g,3,none⟩=Z (I J c.second)/\W.cell? ⟨K.g,4,none⟩=Z (I J c.third)/\W.frozen? ⟨qel,j*4,none⟩=false/\W.frozen? ⟨qel,j*4+1,none⟩=false/\W.frozen? ⟨qel,j*4+2,none⟩=false)=>show(W.setCell ⟨qel,o,none⟩ v).cell? ⟨w.heap.size,0,none⟩=Z (I J K.z)/\(W.setCell ⟨qel,o,none⟩ v).cell? ⟨w.heap.size,1,none⟩=Z (.bool K.b)/\(W.setCell ⟨qel,o,none⟩ v).cell? ⟨K.g,3,none⟩=Z (I J c.second)/\(W.setCell ⟨qel,o,none⟩ v).cell? ⟨K.g,4,none⟩=Z (I J c.third)/\(W.setCell ⟨qel,o,none⟩ v).frozen? ⟨qel,j*4,none⟩=false/\(W.setCell ⟨qel,o,none⟩ v).frozen? ⟨qel,j*4+1,none⟩=false/\(W.setCell ⟨qel,o,none⟩ v).frozen? ⟨qel,j*4+2,none⟩=false from⟨jV h.1 hne1 v,jV h.2.1 hne1 v,jV h.2.2.1 hne2 v,jV h.2.2.2.1 hne2 v,lW h.2.2.2.2.1 v,lW h.2.2.2.2.2.1 v,lW h.2.2.2.2.2.2 v⟩);have TO:=G (fun W(hb:By wr W)=>(HKO.out W).mono (R':=fun e W'=>∃v,e=.returned v/\(W'.cell? ⟨w.heap.size,0,none⟩=Z (I J K.z)/\W'.cell? ⟨w.heap.size,1,none⟩=Z (.bool K.b)/\W'.cell? ⟨K.g,3,none⟩=Z (I J c.second)/\W'.cell? ⟨K.g,4,none⟩=Z (I J c.third)/\W'.frozen? ⟨qel,j*4,none⟩=false/\W'.frozen? ⟨qel,j*4+1,none⟩=false/\W'.frozen? ⟨qel,j*4+2,none⟩=false)/\v=I J l/\By wr W') (by rintro e W' ⟨rfl,hb'⟩;have hb2:=hb.trans (hb'.mono hb.size);exact⟨_,rfl,SH.out W' hb2,rfl,hb2⟩));have HC:=G (fun W'(hb':By wr W')=>show(∃v,W'.cell? ⟨qel,j*4,none⟩=Z v)/\(∃v,W'.cell? ⟨qel,j*4+1,none⟩=Z v)/\(∃v,W'.cell? ⟨qel,j*4+2,none⟩=Z v)from⟨⟨_,(hb'.cell (p:=⟨qel,j*4,none⟩) hqs).trans hc0⟩,⟨_,(hb'.cell (p:=⟨qel,j*4+1,none⟩) hqs).trans hc1⟩,⟨_,(hb'.cell (p:=⟨qel,j*4+2,none⟩) hqs).trans hc2⟩⟩);clear r0 r1 s3 s4 hf0 hf1 hf2 hc0 hc1 hc2;refine wp_region_held_drew (S:=fun W'=>W'.cell? ⟨w.heap.size,0,none⟩=Z (I J K.z)/\W'.cell? ⟨w.heap.size,1,none⟩=Z (.bool K.b)/\W'.cell? ⟨K.g,3,none⟩=Z (I J c.second)/\W'.cell? ⟨K.g,4,none⟩=Z (I J c.third)/\W'.frozen? ⟨qel,j*4,none⟩=false/\W'.frozen? ⟨qel,j*4+1,none⟩=false/\W'.frozen? ⟨qel,j*4+2,none⟩=false) (by kernel_rfl) (SH.out _ ((Below.refl _ _).drew)) (fun hHeld=>?_);refine tK 0 190 ?_;refine tK 1 191 ?_;refine tK 2 192 ?_;refine tK 3 193 ?_;refine tK 5 195 ?_;refine tK 6 196 ?_;refine tK 7 197 ?_;refine tK 8 198 ?_;refine tK 9 199 ?_;refine tK 10 200 ?_;refine tK 11 201 ?_;refine tK 12 202 ?_;refine qE 4 194 (TO.out _ (Below.refl _ _).drew) ?_;clear hHeld;rintro _ w2 hHeld ⟨rfl,hbf⟩;obtain⟨⟨v0,cq0⟩,⟨v1,cq1⟩,⟨v2,cq2⟩⟩:=HC.out w2 hbf;refine tK 13 203 ?_;refine tK 14 204 ?_;have hHn:=SP.out w2 (j*4) (I J l) hHeld;refine jT (w':=w2.setCell ⟨qel,j*4,none⟩ (I J l)) (i:=15) none rfl rfl (by kernel_rfl) (by rfl) (by go_split_ands;go_simp) hHn ?_;clear hHeld;have hHeld:=hHn;clear hHn;try simp only[Act.put]
  refine tK 16 205 ?_;refine tK 17 206 ?_;have hHn:=SP.out (w2.setCell ⟨qel,j*4,none⟩ (I J l)) (j*4+1) (I J c.second) hHeld;refine jT (w':=(w2.setCell ⟨qel,j*4,none⟩ (I J l)).setCell ⟨qel,j*4+1,none⟩ (I J c.second)) (i:=18) none rfl rfl (by kernel_rfl) (by rfl) (by go_split_ands;go_simp) hHn ?_;clear hHeld;have hHeld:=hHn;clear hHn;try simp only[Act.put]
  refine tK 19 207 ?_;refine tK 20 208 ?_;have hHn:=SP.out ((w2.setCell ⟨qel,j*4,none⟩ (I J l)).setCell ⟨qel,j*4+1,none⟩ (I J c.second)) (j*4+2) (I J c.third) hHeld;refine jT (w':=((w2.setCell ⟨qel,j*4,none⟩ (I J l)).setCell ⟨qel,j*4+1,none⟩ (I J c.second)).setCell ⟨qel,j*4+2,none⟩ (I J c.third)) (i:=21) none rfl rfl (by kernel_rfl) (by rfl) (by go_split_ands;go_simp) hHn ?_;clear hHeld;have hHeld:=hHn;clear hHn;try simp only[Act.put]
  refine wpAnyH_done (by kernel_rfl) ?_ _;clear SH SP TO HC hHeld cq0 cq1 cq2
  all_goals(
   have hT:=HS4.out.below hbr2 hbf
   have hjl:j<es.length:=by have:=HNL.out;omega
   have hue:(aD (rsE 1 l) es j)[j]=es[j]:=gG (rsE 1 l) es hjl hj1
   have hgd:es.getD (es.length-1) ⟨0,0,0,false⟩=es[j]:=by
    rw[show es.length-1=j by have:=HNL.out;omega,List.getD_eq_getElem?_getD,List.getElem?_eq_getElem hjl];rfl
   have hlast:=tH (rsE 1 l) es j HNL.out
   clear HKO HS4 hbf
   obtain⟨q,hq,-,-,-,-,hset⟩:=hT.el HO.out (i:=j) hj1
   obtain rfl:qel=q:=by have hq:=HKE.out.symm.trans hq;injection hq with hq;injection hq
   rw[hue]at hset
   have hT:=hset 0 (I J l) ⟨l,es[j].s,es[j].t,es[j].v⟩ (by omega) rfl
   clear hset hq
   obtain⟨q,hq,-,-,-,-,hset⟩:=hT.el HO.out (i:=j) (by simp only[List.length_set];exact hj1)
   obtain rfl:qel=q:=by have hq:=HKE.out.symm.trans hq;injection hq with hq;injection hq
   simp only[List.getElem_set_self,List.set_set]at hset
   have hT:=hset 1 (I J c.second) ⟨l,c.second,es[j].t,es[j].v⟩ (by omega) rfl
   clear hset hq
   obtain⟨q,hq,-,-,-,-,hset⟩:=hT.el HO.out (i:=j) (by simp only[List.length_set];exact hj1)
   obtain rfl:qel=q:=by have hq:=HKE.out.symm.trans hq;injection hq with hq;injection hq
   simp only[List.getElem_set_self,List.set_set]at hset
   have hT:=hset 2 (I J c.third) ⟨l,c.second,c.third,es[j].v⟩ (by omega) rfl
   clear hset hq
   have hnew:newO 1 l (roomC 1 K.z l c) es=(es.take j).map (rsE 1 l)++[⟨l,c.second,c.third,es[j].v⟩]:=by
    unfold newO
    rw[hgd,show es.length-1=j by have:=HNL.out;omega]
    rfl
   rw[hlast,<-hnew]at hT
   have HFIN:=G hT
   clear hT hnew hue hgd hlast
   go_wp2_with fail
   go_meet
   exact HFIN.out)
 case rest=>
 as_aux_lemma=>
 have HFIN:=G hcut;clear hcut hc0 hc1 hc2 hf0 hf1 hf2 r0 r1 s3 s4 HKO;go_wp2_with fail;go_ret;refine⟨by rw[HRES.out];rfl,?_⟩;rw[show(roomC 1 K.z l c).second=c.second from rfl,show(roomC 1 K.z l c).third=c.third from rfl,show(roomC 1 K.z l c).base=pv from HPV.out,show(roomC 1 K.z l c).grps=(c.grps.map (rsG 1 K.z))from rfl];exact HFIN.out
end
end Go.Proofs.YtkhmjidaeliccaaGreatDoor
