import Derived.Test.YtkhmjidaeliccaaGreatDoorS16
import Derived.Deep.DeepCutAuto
set_option maxRecDepth 100000
set_option maxHeartbeats 51200000
namespace Go.Proofs.YtkhmjidaeliccaaGreatDoor
open Option renaming none->N,some->Z
open Value renaming int->I,slice->H
open IntKind renaming i64->J
open Go.Proofs.Tryz
section
open Go.RowKit Go.Maps Go.WideMaps
def dO(x:Nrm)(c:Col)(t:Li):Bool:=Mtc.known (cls (usN x).cls) (aF (aW c).ents) (dtx x false t)
theorem rZ(x:Nrm):clz (usN x).cls=cls (usN x).cls:=by
 funext z;unfold clz;rw[zAu]
theorem OQ(u v z:Value)(W:Wv):(Instr.field 28 (.agg #[u,v,z]) 0).run prog W=.ok u W:=oK_
def rI(es:List Elt)(k:Bool)(w:Wv)(e:Ending)(w':Wv):Prop:=∃A d,e=.returned (.tuple #[H A es.length d,.bool k])/\w'.ownsRow w.heap.size 77 4 (H A es.length d) es.length (aB Elt.cells es)/\By w w'
structure WL(cl:Int->Int)(ent:Li->Option (List Elt))(imp:Int->List Elt)(els:List Elt)(kn:Bool)(tot:Nat)(w1:Wv)(t:Li)(A:Oa)(cap:Nat)(E:Oa)(k:Nat)(es:List Elt)(q:Bool)(W:Wv):Prop where
 eq:es++Mtc.elems cl ent imp t=els
 kq:(q&&Mtc.known cl ent t)=kn
 own:W.ownsRow w1.heap.size 77 4 (H E es.length k) es.length (aB Elt.cells es)
 low:By w1 W
 bd:es.length+16*t.length<=16*tot
 cp:t.length<=cap
 row:aA W A t
 ap:t≠[]->∀q,blk A=Z q->blk E≠Z q
section
variable {cl:Int->Int}{ent:Li->Option (List Elt)}{imp:Int->List Elt}{els:List Elt}{kn:Bool}{tot:Nat}{w1:Wv}{t:Li}{A:Oa}{cap:Nat}{E:Oa}{k:Nat}{es:List Elt}{q:Bool}{W:Wv}
theorem WL.next(h:WL cl ent imp els kn tot w1 t A cap E k es q W)(ht:t≠[]){L:Oa}{l:Nat}{W' W2:Wv}(hb:By W W')(hp:(Mtc.ofPart ent imp (Mtc.matched cl ent t).1 (Mtc.matched cl ent t).2.2).length<=16)(hL:aA W' L (Mtc.matched cl ent t).2.1)(hl:(Mtc.matched cl ent t).2.1.length<=l)(hf:∀q,blk L=Z q->blk A=Z q\/W.heap.size<=q)
  {E':Oa} {k':Nat} (ho:W2.ownsRow w1.heap.size 77 4 (H E' (es.length+(Mtc.ofPart ent imp (Mtc.matched cl ent t).1 (Mtc.matched cl ent t).2.2).length) k') (es.length+(Mtc.ofPart ent imp (Mtc.matched cl ent t).1 (Mtc.matched cl ent t).2.2).length) (aB Elt.cells es++aB Elt.cells (Mtc.ofPart ent imp (Mtc.matched cl ent t).1 (Mtc.matched cl ent t).2.2))) (hb2:Below w1.heap.size W' W2) (hg:W'.grownBy W2 (Value.ownBlock (H E es.length k))) (hE:E'=E\/E'=Z ⟨W'.heap.size,0,N⟩) :
  WL cl ent imp els kn tot w1 (Mtc.matched cl ent t).2.1 L l E' k' (es++Mtc.ofPart ent imp (Mtc.matched cl ent t).1 (Mtc.matched cl ent t).2.2) (q&&(Mtc.matched cl ent t).2.2) W2:=by
 obtain⟨v,w⟩:=Mtc.matched_len (cl:=cl) (ent:=ent) ht;have s:=h.bd;have d:=h.eq;rw[Mtc.elems_step ht,<-List.append_assoc]at d;have f:=h.kq;rw[Mtc.known_step ht,<-Bool.and_assoc]at f;have n:=h.ap ht;have p:∀g,blk E=Z g->w1.heap.size<=g/\g<W.heap.size:=λg hg=>h.own.lt g (by rw[bH];exact hg)
 have hs:=hb.size;rw[bH]at hg
 have i:∀g,blk L=Z g->blk E≠Z g:=λg hg e=>by
  rcases hf g hg with c|c
  ·exact n g c e
  have:=(p g e).2;omega
 refine⟨d,f,by rw[List.length_append,iA];exact ho,(h.low.trans (hb.mono h.low.size)).trans hb2,by rw[List.length_append];omega,hl,?_,λhn2 g hgl e=>?_⟩
 ·intro r
  obtain⟨b,o,m,hc⟩:=hL r;refine⟨b,o,m,λj u hu=>?_⟩;have c:=hc j u hu;have a:=World.block_lt_of_cell? W' _ c;rw[World.cell?_of_block (hg.block b a (λe=>i b (by rw[m];rfl) e.symm))];exact c
 rcases hE with rfl|rfl
 ·exact i g hgl e
 have x:g=W'.heap.size:=by injection e with e;exact e.symm
 obtain⟨b,o,m,hc⟩:=aA.at hL (k:=0) (List.length_pos_iff.2 hn2);have a:=World.block_lt_of_cell? W' _ (hc 0 (List.length_pos_iff.2 hn2));rw[m]at hgl;have y:b=g:=by injection hgl
 dsimp only at a;omega
end
theorem B_(A0:Oa)(n0 k0:Nat)(A1:Oa)(n1 k1:Nat)(A2:Oa)(n2 k2:Nat)(x:Nrm)(C:Oa)(n a:Nat)(B:Oa)(m b:Nat)(c:Col)(D:Oa)(dn dk:Nat)(t:Li)(w:Wv)(hN:cB w A0 n0 A1 n1 A2 n2 x)(hz:cZ x)(hC:aO w C n B m c)(hcz:aQ c)(hD:aA w D t)(hn:t.length=dn)(hbig:dn<=16384):
  Calls prog 111 #[.agg #[H A0 n0 k0,H A1 n1 k1,H A2 n2 k2],aJ C n a B m b c,H D dn dk] w (rI (aT x c t) (dO x c t) w):=by
 subst hn;have B0:By w ((w.alloc (.cells #[H A0 n0 k0,H A1 n1 k1,H A2 n2 k2] 28)).alloc (.cells #[H C n a,H B m b,I J c.base,I J c.second,I J c.third] 32)):=(ba _ _).alloc oL_ _;have X0:Box ((w.alloc (.cells #[H A0 n0 k0,H A1 n1 k1,H A2 n2 k2] 28)).alloc (.cells #[H C n a,H B m b,I J c.base,I J c.second,I J c.third] 32)) w.heap.size 28 [H A0 n0 k0,H A1 n1 k1,H A2 n2 k2]:=fB (Box.new w 28 [H A0 n0 k0,H A1 n1 k1,H A2 n2 k2] rfl) _;have X1:Box ((w.alloc (.cells #[H A0 n0 k0,H A1 n1 k1,H A2 n2 k2] 28)).alloc (.cells #[H C n a,H B m b,I J c.base,I J c.second,I J c.third] 32)) (w.heap.size+1) 32 [H C n a,H B m b,I J c.base,I J c.second,I J c.third]:=Box.new _ _ _ oL_;have d8:∃X,((w.alloc (.cells #[H A0 n0 k0,H A1 n1 k1,H A2 n2 k2] 28)).alloc (.cells #[H C n a,H B m b,I J c.base,I J c.second,I J c.third] 32))=X:=⟨_,rfl⟩;have fi:=pE x false t;have TT:=G (λW(hb:By w W)=>VU A0 n0 k0 A1 n1 k1 A2 n2 k2 x D t.length dk t false W (hN.below hb) hz (hD.below hb) rfl hbig);have d4:=G (λz W(hb:By w W)=>V_ C n a B m b c z W (hC.below hb) hcz);have bp:=G (λW(hb:By w W)=>BR A0 n0 k0 A1 n1 k1 A2 n2 k2 x W (hN.below hb) hz);obtain⟨ao,aq,b4,ci,b5,cj,hv,bw⟩:=uW hN k0 k1 k2;rw[hv]at bp;have bq:=G (λW(hb:By w W)=>xE C n a B m b c W (hC.below hb) hcz);obtain⟨C',n',a',B',m',b',c2,bd⟩:=wH hC a b;rw[c2]at bq;have e7:=G bd;have am:=nR c;have b0:=hcz.d;have c6:(usN x).cls.length<=1099511627776:=by have:=hz.us.z0;omega
 have PL:=G (uE am);have dw:=G (λW(hb:By w W)=>(bw W hb).s0);have LF:=G (zC am);have HE:=U (aT x c t=Mtc.elems (clz (usN x).cls) (aF (aW c).ents) (aZ (aW c)) (dtx x false t)) (by rw[rZ];rfl);have dr:=U (dO x c t=Mtc.known (clz (usN x).cls) (aF (aW c).ents) (dtx x false t)) (by rw[rZ];rfl);have ch:=G (λW hb=>show Calls prog 45 #[.agg #[H A0 n0 k0,H A1 n1 k1,H A2 n2 k2],H D t.length dk,.bool false] W (kI (dtx x false t) W)from TT.o W hb);have ds:=G (λ(A:Oa) cap s W (hb:By w W) hA hna hne hbg=>WG ao aq (usN x).cls C' n' a' B' m' b' (aW c) A cap s W ((bw W hb).s0) c6 (bd W hb) b0 am hA hna hne hbg);have dq:=G (λ(E:Oa) k kc zs W (hb:By w W) hE hk hk2=>by have h:=BU C' n' a' B' m' b' (aW c) E k kc zs W (bd W hb) b0 hE hk hk2;rw[<-LF.o zs]at h;exact h);clear hN hz hC hcz hD hv bw c2 bd am b0 c6 TT dw LF;generalize aT x c t=els at *;generalize dO x c t=kn at *;generalize dtx x false t=d at *;generalize (usN x).cls=cs at *;generalize (usN x).dec.length=cs1 at *;generalize (usN x).exc.length=cs2 at *;generalize aW c=e at *;unfold aJ at *;go_enter func111,ntmps111;go_upto_region 1 with(fail)
 obtain⟨X,cy⟩:=d8;try rw[cy]at B0 X0 X1|-
 clear cy;have l0:=X0.lt;have l1:=X1.lt;have bm:=G X0;have ax:=G X1;have SH:=G (λW'(hb':By X W')=>show W'.cell? ⟨w.heap.size,0,N⟩=Z (H A0 n0 k0)/\W'.cell? ⟨w.heap.size,1,N⟩=Z (H A1 n1 k1)/\W'.cell? ⟨w.heap.size,2,N⟩=Z (H A2 n2 k2)/\W'.cell? ⟨w.heap.size+1,0,N⟩=Z (H C n a)/\W'.cell? ⟨w.heap.size+1,1,N⟩=Z (H B m b)/\W'.cell? ⟨w.heap.size+1,2,N⟩=Z (I J c.base)/\W'.cell? ⟨w.heap.size+1,3,N⟩=Z (I J c.second)/\W'.cell? ⟨w.heap.size+1,4,N⟩=Z (I J c.third)/\By X W' from⟨(hb'.cell l0).trans (bm.o.c 0 rfl),(hb'.cell l0).trans (bm.o.c 1 rfl),(hb'.cell l0).trans (bm.o.c 2 rfl),(hb'.cell l1).trans (ax.o.c 0 rfl),(hb'.cell l1).trans (ax.o.c 1 rfl),(hb'.cell l1).trans (ax.o.c 2 rfl),(hb'.cell l1).trans (ax.o.c 3 rfl),(hb'.cell l1).trans (ax.o.c 4 rfl),hb'⟩);have TD:=G (λW(hb':By X W)=>(bp.o W (tb B0 hb')).mono (R':=λe' W'=>∃v,e'=.returned v/\(W'.cell? ⟨w.heap.size,0,N⟩=Z (H A0 n0 k0)/\W'.cell? ⟨w.heap.size,1,N⟩=Z (H A1 n1 k1)/\W'.cell? ⟨w.heap.size,2,N⟩=Z (H A2 n2 k2)/\W'.cell? ⟨w.heap.size+1,0,N⟩=Z (H C n a)/\W'.cell? ⟨w.heap.size+1,1,N⟩=Z (H B m b)/\W'.cell? ⟨w.heap.size+1,2,N⟩=Z (I J c.base)/\W'.cell? ⟨w.heap.size+1,3,N⟩=Z (I J c.second)/\W'.cell? ⟨w.heap.size+1,4,N⟩=Z (I J c.third)/\By X W')/\(v=.agg #[H ao cs.length aq,H b4 cs1 ci,H b5 cs2 cj]/\By W W')) (λe' W'⟨he,g⟩=>⟨_,he,SH.o W' (tb hb' g),rfl,g⟩));have TC:=G (λW(hb':By X W)=>(bq.o W (tb B0 hb')).mono (R':=λe' W'=>∃v,e'=.returned v/\(W'.cell? ⟨w.heap.size,0,N⟩=Z (H A0 n0 k0)/\W'.cell? ⟨w.heap.size,1,N⟩=Z (H A1 n1 k1)/\W'.cell? ⟨w.heap.size,2,N⟩=Z (H A2 n2 k2)/\W'.cell? ⟨w.heap.size+1,0,N⟩=Z (H C n a)/\W'.cell? ⟨w.heap.size+1,1,N⟩=Z (H B m b)/\W'.cell? ⟨w.heap.size+1,2,N⟩=Z (I J c.base)/\W'.cell? ⟨w.heap.size+1,3,N⟩=Z (I J c.second)/\W'.cell? ⟨w.heap.size+1,4,N⟩=Z (I J c.third)/\By X W')/\(v=.agg #[H C' n' a',H B' m' b',I J e.base,I J e.second,I J e.third]/\By W W')) (λe' W'⟨he,g⟩=>⟨_,he,SH.o W' (tb hb' g),rfl,g⟩));clear X0 X1 bp bq;have e5:=λW=>OQ (H ao cs.length aq) (H b4 cs1 ci) (H b5 cs2 cj) W
 go_cut [8,9] (λs8 s9 wx=>∃j:Nat,s8=H ao cs.length aq/\s9=.pointer (Z ⟨j,0,N⟩)/\X.heap.size<=j/\Box wx j 32 [H C' n' a',H B' m' b',I J e.base,I J e.second,I J e.third]/\By X wx)
 case first=>
  refine wp_region_held_drew (S:=λW'=>W'.cell? ⟨w.heap.size,0,N⟩=Z (H A0 n0 k0)/\W'.cell? ⟨w.heap.size,1,N⟩=Z (H A1 n1 k1)/\W'.cell? ⟨w.heap.size,2,N⟩=Z (H A2 n2 k2)/\W'.cell? ⟨w.heap.size+1,0,N⟩=Z (H C n a)/\W'.cell? ⟨w.heap.size+1,1,N⟩=Z (H B m b)/\W'.cell? ⟨w.heap.size+1,2,N⟩=Z (I J c.base)/\W'.cell? ⟨w.heap.size+1,3,N⟩=Z (I J c.second)/\W'.cell? ⟨w.heap.size+1,4,N⟩=Z (I J c.third)/\By X W') oK_ (SH.o _ ((Below.refl _ _).drew)) (λf=>?_);obtain⟨Wd,cz⟩:=exQ (X.drew);rw[cz]at f|-;clear cz;refine tK 0 17 ?_;refine tK 3 20 ?_;refine wpAnyH_ready (rs:=[1,5]) oK_ oL_ ?_;refine AllReadyH.cons rfl (λK hK=>?_) (AllReadyH.cons rfl (λK hK=>?_) (AllReadyH.nil))
  ·refine ED (Z 18) rfl hK oR_ oS_ (TD.o _ (f.2.2.2.2.2.2.2.2)) ?_
   rintro _ V1 a1 ⟨rfl,F⟩;clear hK K;clear f;have f:=a1;clear a1;try simp only[Act.put,sA,sB,sC]
   clear F;refine tV 2 19 (H ao cs.length aq) ?_ ?_
   ·intro w bx;(try dsimp only at bx);go_split_ands;go_simp
   try simp only[Act.put,sA,sB,sC]
   refine wpAnyH_ready (rs:=[4,5]) oK_ oL_ ?_;refine AllReadyH.cons rfl (λK hK=>?_) (AllReadyH.cons rfl (λK hK=>?_) (AllReadyH.nil))
   ·refine ED (Z 21) rfl hK oR_ oS_ (TC.o _ (f.2.2.2.2.2.2.2.2)) ?_
    rintro _ V2 a1 ⟨rfl,F⟩;clear hK K;clear f;have f:=a1;clear a1;try simp only[Act.put,sA,sB,sC]
    clear F;have F:By V2 (V2.alloc (.cells #[H N 0 0,H N 0 0,I J 0,I J 0,I J 0] 32)):=ba _ _;have T:Box (V2.alloc (.cells #[H N 0 0,H N 0 0,I J 0,I J 0,I J 0] 32)) V2.heap.size 32 [H N 0 0,H N 0 0,I J 0,I J 0,I J 0]:=Box.new _ _ _ rfl;have R:=SH.o _ (f.2.2.2.2.2.2.2.2.trans (F.mono f.2.2.2.2.2.2.2.2.size));have o:X.heap.size<=V2.heap.size:=f.2.2.2.2.2.2.2.2.size;refine fK (w':=(V2.alloc (.cells #[H N 0 0,H N 0 0,I J 0,I J 0,I J 0] 32))) (v:=.pointer (Z ⟨V2.heap.size,0,N⟩)) (i:=5) (Z 9) rfl rfl oK_ oR_ oS_ R ?_;clear f F;have f:=R;clear R;generalize (V2.alloc (.cells #[H N 0 0,H N 0 0,I J 0,I J 0,I J 0] 32))=V3 at *;generalize V2.heap.size=j at *;try simp only[Act.put,sA,sB,sC]
    refine tK 6 8 ?_;obtain⟨f0,f1,f2,f3,f4⟩:=T.f5;obtain⟨g0,g1,g2,g3,g4⟩:=T.k5;have ay:Box (((((V3.setCell ⟨j,0,N⟩ (H C' n' a')).setCell ⟨j,1,N⟩ (H B' m' b')).setCell ⟨j,2,N⟩ (I J e.base)).setCell ⟨j,3,N⟩ (I J e.second)).setCell ⟨j,4,N⟩ (I J e.third)) j 32 [H C' n' a',H B' m' b',I J e.base,I J e.second,I J e.third]:=((((T.set 0 _).set 1 _).set 2 _).set 3 _).set 4 _;have Bn:By X (((((V3.setCell ⟨j,0,N⟩ (H C' n' a')).setCell ⟨j,1,N⟩ (H B' m' b')).setCell ⟨j,2,N⟩ (I J e.base)).setCell ⟨j,3,N⟩ (I J e.second)).setCell ⟨j,4,N⟩ (I J e.third)):=(((((f.2.2.2.2.2.2.2.2).setCell o _).setCell o _).setCell o _).setCell o _).setCell o _;have R:=SH.o _ Bn;refine dJ (w':=(((((V3.setCell ⟨j,0,N⟩ (H C' n' a')).setCell ⟨j,1,N⟩ (H B' m' b')).setCell ⟨j,2,N⟩ (I J e.base)).setCell ⟨j,3,N⟩ (I J e.second)).setCell ⟨j,4,N⟩ (I J e.third))) (i:=7) N rfl rfl oK_ oR_ oS_ R ?_;clear f f0 f1 f2 f3 f4 g0 g1 g2 g3 g4 R;refine wpAnyH_done oK_ ?_ _;go_wp2;go_meet;exact⟨j,rfl,rfl,o,ay,Bn⟩
   have F:By V1 (V1.alloc (.cells #[H N 0 0,H N 0 0,I J 0,I J 0,I J 0] 32)):=ba _ _;have T:Box (V1.alloc (.cells #[H N 0 0,H N 0 0,I J 0,I J 0,I J 0] 32)) V1.heap.size 32 [H N 0 0,H N 0 0,I J 0,I J 0,I J 0]:=Box.new _ _ _ rfl;have R:=SH.o _ (f.2.2.2.2.2.2.2.2.trans (F.mono f.2.2.2.2.2.2.2.2.size));have o:X.heap.size<=V1.heap.size:=f.2.2.2.2.2.2.2.2.size;refine EE (w':=(V1.alloc (.cells #[H N 0 0,H N 0 0,I J 0,I J 0,I J 0] 32))) (v:=.pointer (Z ⟨V1.heap.size,0,N⟩)) (Z 9) rfl hK oR_ oS_ R (λ_=>?_);clear hK K;clear f F;have f:=R;clear R;generalize (V1.alloc (.cells #[H N 0 0,H N 0 0,I J 0,I J 0,I J 0] 32))=V5 at *;generalize V1.heap.size=j at *;try simp only[Act.put,sA,sB,sC]
   refine qE 4 21 (TC.o _ (f.2.2.2.2.2.2.2.2)) ?_;clear f;rintro _ V6 f ⟨rfl,F⟩;have T:=T.below F T.lt;clear F;refine tK 6 8 ?_;obtain⟨f0,f1,f2,f3,f4⟩:=T.f5;obtain⟨g0,g1,g2,g3,g4⟩:=T.k5;have ay:Box (((((V6.setCell ⟨j,0,N⟩ (H C' n' a')).setCell ⟨j,1,N⟩ (H B' m' b')).setCell ⟨j,2,N⟩ (I J e.base)).setCell ⟨j,3,N⟩ (I J e.second)).setCell ⟨j,4,N⟩ (I J e.third)) j 32 [H C' n' a',H B' m' b',I J e.base,I J e.second,I J e.third]:=((((T.set 0 _).set 1 _).set 2 _).set 3 _).set 4 _;have Bn:By X (((((V6.setCell ⟨j,0,N⟩ (H C' n' a')).setCell ⟨j,1,N⟩ (H B' m' b')).setCell ⟨j,2,N⟩ (I J e.base)).setCell ⟨j,3,N⟩ (I J e.second)).setCell ⟨j,4,N⟩ (I J e.third)):=(((((f.2.2.2.2.2.2.2.2).setCell o _).setCell o _).setCell o _).setCell o _).setCell o _;have R:=SH.o _ Bn;refine dJ (w':=(((((V6.setCell ⟨j,0,N⟩ (H C' n' a')).setCell ⟨j,1,N⟩ (H B' m' b')).setCell ⟨j,2,N⟩ (I J e.base)).setCell ⟨j,3,N⟩ (I J e.second)).setCell ⟨j,4,N⟩ (I J e.third))) (i:=7) N rfl rfl oK_ oR_ oS_ R ?_;clear f f0 f1 f2 f3 f4 g0 g1 g2 g3 g4 R;refine wpAnyH_done oK_ ?_ _;go_wp2;go_meet;exact⟨j,rfl,rfl,o,ay,Bn⟩
  have F:By Wd (Wd.alloc (.cells #[H N 0 0,H N 0 0,I J 0,I J 0,I J 0] 32)):=ba _ _;have T:Box (Wd.alloc (.cells #[H N 0 0,H N 0 0,I J 0,I J 0,I J 0] 32)) Wd.heap.size 32 [H N 0 0,H N 0 0,I J 0,I J 0,I J 0]:=Box.new _ _ _ rfl;have R:=SH.o _ (f.2.2.2.2.2.2.2.2.trans (F.mono f.2.2.2.2.2.2.2.2.size));have o:X.heap.size<=Wd.heap.size:=f.2.2.2.2.2.2.2.2.size;refine EE (w':=(Wd.alloc (.cells #[H N 0 0,H N 0 0,I J 0,I J 0,I J 0] 32))) (v:=.pointer (Z ⟨Wd.heap.size,0,N⟩)) (Z 9) rfl hK oR_ oS_ R (λ_=>?_);clear hK K;clear f F;have f:=R;clear R;generalize (Wd.alloc (.cells #[H N 0 0,H N 0 0,I J 0,I J 0,I J 0] 32))=V8 at *;generalize Wd.heap.size=j at *;try simp only[Act.put,sA,sB,sC]
  refine qE 1 18 (TD.o _ (f.2.2.2.2.2.2.2.2)) ?_;clear f;rintro _ V9 f ⟨rfl,F⟩;have T:=T.below F T.lt;clear F;refine tV 2 19 (H ao cs.length aq) ?_ ?_
  ·intro w bx;(try dsimp only at bx);go_split_ands;go_simp
  try simp only[Act.put,sA,sB,sC]
  refine qE 4 21 (TC.o _ (f.2.2.2.2.2.2.2.2)) ?_;clear f;rintro _ br f ⟨rfl,F⟩;have T:=T.below F T.lt;clear F;refine tK 6 8 ?_;obtain⟨f0,f1,f2,f3,f4⟩:=T.f5;obtain⟨g0,g1,g2,g3,g4⟩:=T.k5;have ay:Box (((((br.setCell ⟨j,0,N⟩ (H C' n' a')).setCell ⟨j,1,N⟩ (H B' m' b')).setCell ⟨j,2,N⟩ (I J e.base)).setCell ⟨j,3,N⟩ (I J e.second)).setCell ⟨j,4,N⟩ (I J e.third)) j 32 [H C' n' a',H B' m' b',I J e.base,I J e.second,I J e.third]:=((((T.set 0 _).set 1 _).set 2 _).set 3 _).set 4 _;have Bn:By X (((((br.setCell ⟨j,0,N⟩ (H C' n' a')).setCell ⟨j,1,N⟩ (H B' m' b')).setCell ⟨j,2,N⟩ (I J e.base)).setCell ⟨j,3,N⟩ (I J e.second)).setCell ⟨j,4,N⟩ (I J e.third)):=(((((f.2.2.2.2.2.2.2.2).setCell o _).setCell o _).setCell o _).setCell o _).setCell o _;have R:=SH.o _ Bn;refine dJ (w':=(((((br.setCell ⟨j,0,N⟩ (H C' n' a')).setCell ⟨j,1,N⟩ (H B' m' b')).setCell ⟨j,2,N⟩ (I J e.base)).setCell ⟨j,3,N⟩ (I J e.second)).setCell ⟨j,4,N⟩ (I J e.third))) (i:=7) N rfl rfl oK_ oR_ oS_ R ?_;clear f f0 f1 f2 f3 f4 g0 g1 g2 g3 g4 R;refine wpAnyH_done oK_ ?_ _;go_wp2;go_meet;exact⟨j,rfl,rfl,o,ay,Bn⟩
 obtain⟨j,rfl,rfl,o,c1,aj⟩:=hcut;have aa:=tb B0 aj;have el:=(SH.o wc aj).1;have em:=(SH.o wc aj).2.1;have en:=(SH.o wc aj).2.2.1;have KT:=G (ch.o wc aa);have bn:=G c1;have b9:=G aj;have a7:=G B0;have fh:=aa.size;have ei:=aj.size;clear c1 aj B0 aa TD TC ch o;unfold kI at KT;go_wp2_with fail;refine KT.o.mono ?_
 rintro e' W3 ⟨E0,d0,rfl,c3,cw,be⟩;have HF:=U (WL (clz cs) (aF e.ents) (aZ e) els kn d.length W3 d E0 d0 N 0 [] true W3) (⟨by rw[List.nil_append];exact HE.o.symm,by rw[Bool.true_and];exact dr.o.symm,World.ownsRow_nil _ _ _ _,Below.refl _ _,oL_,c3,cw,λ_ q _ h=>by cases h⟩);have ff:=be.size;have cg:=G (bn.o.below be bn.o.lt);have dj:=G (b9.o.trans (be.mono ei));clear el em en KT c3 cw be bn b9;go_wp2;go_loopw [10,11,12] (λu v q wr=>∃(t':Li)(A':Oa)(al:Nat)(E':Oa)(k':Nat)(es:List Elt)(qb:Bool),u=H A' t'.length al/\v=H E' es.length k'/\q=.bool qb/\WL (clz cs) (aF e.ents) (aZ e) els kn d.length W3 t' A' al E' k' es qb wr) (λu _ _ _=>mH u)
 case atStart=>exact⟨d,E0,d0,N,0,[],true,rfl,rfl,rfl,HF.o⟩
 obtain⟨t',A',al,E',k',es,qb,rfl,rfl,rfl,M⟩:=hrel;have HL:=G M;have eb:=M.cp;have fb:=M.bd;have ab:=M.low;have an:By X wr:=dj.o.trans (ab.mono O);have aa:By w wr:=tb a7.o an;have dx:=G an;have fe:=ab.size;by_cases hne:t'=[]
 ·have c4:=M.eq
  have c5:=M.kq;rw[hne,Mtc.elems_nil,List.append_nil]at c4;rw[hne,show Mtc.known (clz cs) (aF e.ents) []=true from rfl,Bool.and_true]at c5;have HO:=G M.own;have dm:=G aa;have ej:w.heap.size<=W3.heap.size:=O;clear M HL ab an aa;subst hne;subst c4;subst c5;go_wp2_with fail;go_ret2;exact⟨E',k',rfl,eR HO.o ej,dm.o⟩
 have c7:=List.length_pos_iff.2 hne;have b2:=cg.o.below ab cg.o.lt;obtain⟨q0,q1,q2,q3,q4⟩:=b2.k5;have cf:=G b2;have KM:=G (ds.o A' al t' wr aa M.row eb hne O);have ML:=Mtc.matched_len (cl:=clz cs) (ent:=aF e.ents) hne;have MH:=Mtc.matched_head (cl:=clz cs) (ent:=aF e.ents) hne;have ed:=PL.o (Mtc.matched (clz cs) (aF e.ents) t').1 (Mtc.matched (clz cs) (aF e.ents) t').2.2;have NX:=G (λ(L:Oa) (l:Nat) (W' W2:Wv) hb hL hl hf (E2:Oa) (k2:Nat) ho hb2 hg hE=>M.next hne (L:=L) (l:=l) (W':=W') (W2:=W2) hb ed hL hl hf (E':=E2) (k':=k2) ho hb2 hg hE);have fd:decide ((0:Int)<(t'.length:Int))=true:=by simpa using c7
 have ec:(Mtc.matched (clz cs) (aF e.ents) t').1≠[]:=λg=>by
  rw[g]at MH;cases t' with
  |nil=>exact hne rfl
  |cons y r=>cases MH
 have cd:=G M.own;unfold vH at KM;clear M ab b2 MH an HL HF;generalize Mtc.matched (clz cs) (aF e.ents) t'=mt at *;obtain⟨m1,m2,mk⟩:=mt;dsimp only at *;have b1:0<m1.length:=List.length_pos_iff.2 ec;have aw:=U (Mtc.ofPart (aF e.ents) (aZ e) m1 mk=if mk=true then(aF e.ents m1).getD []else aZ e (m1.getD 0 0)) rfl;generalize Mtc.ofPart (aF e.ents) (aZ e) m1 mk=pt at *;go_wp2_with fail;refine KM.o.mono ?_
 rintro e' W4 ⟨P,pp,L,l,rfl,hP,cx,ee,hl,hf,ar⟩;have bh:=G (aG cd.o ar);have fg:W3.heap.size<=W4.heap.size:=by have:=ar.size;omega
 have bl:=G (tb dx.o ar);have bk:=G (cf.o.below ar cf.o.lt);have HP:=G hP;have cb:=G cx;have ca:=G hf;have b8:=G ar;obtain⟨bb,oo,rfl,a4⟩:=hP.at b1;have c0:=a4 0 b1;have c8:m1.getD 0 0=m1[0]:=by simp[List.getD,b1]
 rw[Nat.add_zero]at c0;rw[c8]at aw;generalize m1[0]=x0 at *;have ea:=World.block_lt_of_cell? W4 _ c0
 have bo:=G (λW'(hb':By W4 W')=>show W'.cell? ⟨w.heap.size+1,0,N⟩=Z (H C n a)/\W'.cell? ⟨w.heap.size+1,1,N⟩=Z (H B m b)/\W'.cell? ⟨w.heap.size+1,2,N⟩=Z (I J c.base)/\W'.cell? ⟨w.heap.size+1,3,N⟩=Z (I J c.second)/\W'.cell? ⟨w.heap.size+1,4,N⟩=Z (I J c.third)/\W'.cell? ⟨bb,oo,N⟩=Z (I J x0)/\By W4 W' from by
  have h:=SH.o W' (tb bl.o hb')
  exact⟨h.2.2.2.1,h.2.2.2.2.1,h.2.2.2.2.2.1,h.2.2.2.2.2.2.1,h.2.2.2.2.2.2.2.1,(hb'.cell (p:=⟨bb,oo,N⟩) ea).trans c0,hb'⟩)
 have TI:=G (λW(hb':By W4 W)=>(d4.o x0 W (a7.o.trans ((tb bl.o hb').mono a7.o.size))).mono (R':=λe' W'=>∃v,e'=.returned v/\(W'.cell? ⟨w.heap.size+1,0,N⟩=Z (H C n a)/\W'.cell? ⟨w.heap.size+1,1,N⟩=Z (H B m b)/\W'.cell? ⟨w.heap.size+1,2,N⟩=Z (I J c.base)/\W'.cell? ⟨w.heap.size+1,3,N⟩=Z (I J c.second)/\W'.cell? ⟨w.heap.size+1,4,N⟩=Z (I J c.third)/\W'.cell? ⟨bb,oo,N⟩=Z (I J x0)/\By W4 W')/\(∃E d,v=H E (aZ e x0).length d/\cM W' E (aZ e x0))) (λe' W'⟨E,d,he,g1,g2⟩=>⟨_,he,bo.o W' (tb hb' g2),E,d,rfl,g1⟩));have ef:((oo:Nat):Int)=oo:=rfl;clear hP cx ee hf ar a4 c8 KM q0 q1 q2 q3 q4 aa cd c0 ef;go_wp2_with fail;refine wp_region_held_drew (S:=λW'=>W'.cell? ⟨w.heap.size+1,0,N⟩=Z (H C n a)/\W'.cell? ⟨w.heap.size+1,1,N⟩=Z (H B m b)/\W'.cell? ⟨w.heap.size+1,2,N⟩=Z (I J c.base)/\W'.cell? ⟨w.heap.size+1,3,N⟩=Z (I J c.second)/\W'.cell? ⟨w.heap.size+1,4,N⟩=Z (I J c.third)/\W'.cell? ⟨bb,oo,N⟩=Z (I J x0)/\By W4 W') oK_ (bo.o _ ((Below.refl _ _).drew)) (λf=>?_);refine tK 0 36 ?_;refine tK 1 37 ?_;refine tK 2 38 ?_;refine tK 3 39 ?_;refine qE 4 40 (TI.o _ (f.2.2.2.2.2.2)) ?_;clear f;rintro _ W5 f ⟨E5,d5,rfl,cu⟩;refine tK 5 16 ?_;refine wpAnyH_done oK_ ?_ _;have Y:=f.2.2.2.2.2.2;have av:=G (aG bh.o Y);have eg:W3.heap.size<=W5.heap.size:=by have:=Y.size;omega
 have bi:=G (tb b8.o Y);have dv:=G (bk.o.below Y bk.o.lt);have dy:=G (tb bl.o Y);have bg:=G (aA.below cb.o Y);have du:=G (aA.below HP.o Y);have bj:=G cu;have fc:By wr W5:=bi.o;clear f bo TI cu Y bh b8 bk cb HP;cases mk with
 |false=>
  have ak:=U (aZ e x0=pt) (by rw[aw.o,if_neg oL_]);rw[ak.o]at bj;rw[ak.o];clear aw;cases qb
  all_goals
   go_wp2_with(at_builtin;refine a_ _ _ 54 77 (.agg #[I J 0,I J 0,I J 0,.bool false]) 4 32 rfl rfl underlying54 gU rfl V V rfl av.o rfl bj.o (fY Elt.cells 4 (λ_=>rfl) _) (gX _) O eg ?_;intro B6 k6 w6 Q bz a2 a5 a0);have HN:=G (NX.o L l W5 w6 bi.o bg.o hl ca.o B6 k6 Q a2 a5 a0);clear Q bz a2 a5 a0;go_wp2;go_roundw
   case rel=>exact⟨m2,L,l,B6,k6,es++pt,_,rfl,by rw[List.length_append],rfl,HN.o⟩
   simp[mH];omega
 |true=>
  have ak:=U ((aF e.ents m1).getD []=pt) (by rw[aw.o,if_pos rfl]);have KF:=G (dq.o (Z ⟨bb,oo,N⟩) m1.length pp m1 W5 (tb a7.o dy.o) du.o rfl O);unfold qX at KF;rw[ak.o]at KF;generalize (aF e.ents m1).isSome=sb at *;obtain⟨q0,q1,q2,q3,q4⟩:=dv.o.k5;clear aw bj;go_wp2_with fail;refine KF.o.mono ?_
  rintro e' W6 ⟨E7,d7,rfl,cv,a3⟩;have dp:=G cv;have ce:=G (aG av.o a3);have eh:W3.heap.size<=W6.heap.size:=by have:=a3.size;omega
  have dl:=G (tb bi.o a3);have cc:=G (aA.below bg.o a3);clear cv a3 KF q0 q1 q2 q3 q4 av;cases qb
  all_goals
   go_wp2_with(at_builtin;refine a_ _ _ 54 77 (.agg #[I J 0,I J 0,I J 0,.bool false]) 4 32 rfl rfl underlying54 gU rfl V V rfl ce.o rfl dp.o (fY Elt.cells 4 (λ_=>rfl) _) (gX _) O eh ?_;intro B6 k6 w6 Q bz a2 a5 a0);have HN:=G (NX.o L l W6 w6 dl.o cc.o hl ca.o B6 k6 Q a2 a5 a0);clear Q bz a2 a5 a0;go_wp2;go_roundw
   case rel=>exact⟨m2,L,l,B6,k6,es++pt,_,rfl,by rw[List.length_append],rfl,HN.o⟩
   simp[mH];omega
theorem VV(A0:Oa)(n0 k0:Nat)(A1:Oa)(n1 k1:Nat)(A2:Oa)(n2 k2:Nat)(x:Nrm)(C:Oa)(n a:Nat)(B:Oa)(m b:Nat)(c:Col)(D:Oa)(dn dk:Nat)(t:Li)(w:Wv)(hN:cB w A0 n0 A1 n1 A2 n2 x)(hz:cZ x)(hC:aO w C n B m c)(hcz:aQ c)(hD:aA w D t)(hn:t.length=dn)(hbig:dn<=16384):
  Calls prog 46 #[.agg #[H A0 n0 k0,H A1 n1 k1,H A2 n2 k2],aJ C n a B m b c,H D dn dk] w (jO (aT x c t) w):=by
 have f:By w ((w.alloc (.cells #[H A0 n0 k0,H A1 n1 k1,H A2 n2 k2] 28)).alloc (.cells #[H C n a,H B m b,I J c.base,I J c.second,I J c.third] 32)):=(ba _ _).alloc L _;have l:Box ((w.alloc (.cells #[H A0 n0 k0,H A1 n1 k1,H A2 n2 k2] 28)).alloc (.cells #[H C n a,H B m b,I J c.base,I J c.second,I J c.third] 32)) w.heap.size 28 [H A0 n0 k0,H A1 n1 k1,H A2 n2 k2]:=fB (Box.new w 28 [H A0 n0 k0,H A1 n1 k1,H A2 n2 k2] rfl) _;have o:Box ((w.alloc (.cells #[H A0 n0 k0,H A1 n1 k1,H A2 n2 k2] 28)).alloc (.cells #[H C n a,H B m b,I J c.base,I J c.second,I J c.third] 32)) (w.heap.size+1) 32 [H C n a,H B m b,I J c.base,I J c.second,I J c.third]:=Box.new _ _ _ L;have j:∃i,((w.alloc (.cells #[H A0 n0 k0,H A1 n1 k1,H A2 n2 k2] 28)).alloc (.cells #[H C n a,H B m b,I J c.base,I J c.second,I J c.third] 32))=i:=⟨_,rfl⟩;have k:=G (λW(hb:By w W)=>B_ A0 n0 k0 A1 n1 k1 A2 n2 k2 x C n a B m b c D dn dk t W (hN.below hb) hz (hC.below hb) hcz (hD.below hb) hn hbig);clear hN hz hC hcz hD hn;unfold aJ rI at *;generalize aT x c t=els at *;generalize dO x c t=kn at *;go_enter func46,ntmps46;go_upto_region 1 with(fail)
 obtain⟨i,g⟩:=j;try rw[g]at f l o|-
 clear g;obtain⟨r,s,v⟩:=l.k3;obtain⟨y,z,A,F,K⟩:=o.k5;have hs:=f.size;go_wp2_with fail;refine(k.o i f).mono ?_
 rintro e M ⟨E,d,rfl,ho,h⟩;have q:=G ho;have p:=G (tb f h);clear ho h k r s v y z A F K f;go_wp2;go_ret;exact⟨E,d,rfl,eR q.o hs,p.o⟩
structure KL(cl:Int->Int)(ent:Li->Option (List Elt))(kn:Bool)(tot b:Nat)(w1:Wv)(t:Li)(A:Oa)(cap:Nat)(W:Wv):Prop where
 eq:Mtc.known cl ent t=kn
 gr:w1.grownBy W (Z b)
 bd:t.length<=tot
 cp:t.length<=cap
 cm:cap<=9223372036854775807
 row:t≠[]->b<w1.heap.size/\∃off pre post,A=Z ⟨b,off,N⟩/\Row W b off 3 pre post t
 io:∀z∈t,iok z
section
variable {cl:Int->Int}{ent:Li->Option (List Elt)}{kn:Bool}{tot b:Nat}{w1:Wv}{t:Li}{A:Oa}{cap:Nat}{W:Wv}
theorem KL.no(h:KL cl ent kn tot b w1 t A cap W)(ht:t≠[])(hm:(Mtc.matched cl ent t).2.2=false):kn=false:=by
 rw[<-h.eq,Mtc.known_step ht,hm];rfl
theorem KL.next(h:KL cl ent kn tot b w1 t A cap W)(ht:t≠[])(hm:(Mtc.matched cl ent t).2.2=true){off:Nat}{pre post:Lv}{W':Wv}(hg:W.grownBy W' (Z b))(hrow:A=Z ⟨b,off,N⟩/\Row W' b off 3 pre post ((Mtc.matched cl ent t).1++(Mtc.matched cl ent t).2.1)):
  KL cl ent kn tot b w1 (Mtc.matched cl ent t).2.1 (cD A cap (Mtc.matched cl ent t).1.length) (cap-(Mtc.matched cl ent t).1.length) W':=by
 obtain⟨m,n⟩:=Mtc.matched_len (cl:=cl) (ent:=ent) ht;obtain⟨i,hrow⟩:=hrow;have l:=h.cp;have k:=h.cm;have j:=h.bd;have c:=Mtc.matched_mem (cl:=cl) (ent:=ent) (t:=t);have a:=h.eq;rw[Mtc.known_step ht,hm,Bool.true_and]at a;have d:=(h.row ht).1;have f:=h.io;have e:=h.gr;generalize Mtc.matched cl ent t=mt at *;refine⟨a,bK e hg,O,O,O,λhne=>⟨d,off+mt.1.length,pre++mt.1.map (Value.int .i64),post,?_,?_⟩,λz hz=>f z ((c z).1 (by simp[hz]))⟩
 ·have:=List.length_pos_iff.2 hne
  unfold cD;rw[if_neg O,i,Option.map_some,Addr.add_lit]
 refine⟨by rw[List.length_append,List.length_map,hrow.1],?_⟩;have g:=hrow.2;unfold Blk at g|-;rw[g,List.map_append];simp only[List.append_assoc]
theorem KL.first{d:Li}{n:Nat}{wb:Wv}(hA:w1.ownsRow wb.heap.size 3 1 (H A n cap) n (d.map (Value.int .i64)))(hn:d.length=n)(hio:∀z∈d,iok z)(hb:∀g o,A=Z ⟨g,o,N⟩->g=b):KL cl ent (Mtc.known cl ent d) d.length b w1 d A cap w1:=by
 have h:=EL.first (cl:=cl) (ent:=ent) (imp:=λ_=>[]) (b:=b) hA hn hio hb
 exact⟨rfl,h.gr,Nat.le_refl _,h.cp,h.cm,h.row,h.io⟩
end
theorem QV(A0:Oa)(n0 k0:Nat)(A1:Oa)(n1 k1:Nat)(A2:Oa)(n2 k2:Nat)(x:Nrm)(C:Oa)(n a:Nat)(B:Oa)(m b:Nat)(c:Col)(D:Oa)(dn dk:Nat)(t:Li)(w:Wv)(hN:cB w A0 n0 A1 n1 A2 n2 x)(hz:cZ x)(hL:dX w)(hC:aO w C n B m c)(hcz:aQ c)(hD:aA w D t)(hn:t.length=dn)(hbig:dn<=16384)(hio:∀z∈t,iok z):
  Calls prog 35 #[.agg #[H A0 n0 k0,H A1 n1 k1,H A2 n2 k2],aJ C n a B m b c,H D dn dk] w (c_ (dO x c t) w):=by
 subst hn;have B0:By w ((w.alloc (.cells #[H A0 n0 k0,H A1 n1 k1,H A2 n2 k2] 28)).alloc (.cells #[H C n a,H B m b,I J c.base,I J c.second,I J c.third] 32)):=(ba _ _).alloc L _;have X0:Box ((w.alloc (.cells #[H A0 n0 k0,H A1 n1 k1,H A2 n2 k2] 28)).alloc (.cells #[H C n a,H B m b,I J c.base,I J c.second,I J c.third] 32)) w.heap.size 28 [H A0 n0 k0,H A1 n1 k1,H A2 n2 k2]:=(Box.new w 28 [H A0 n0 k0,H A1 n1 k1,H A2 n2 k2] rfl).below (B:=w.heap.size+1) ((Below.refl _ _).alloc L _) O;have X1:Box ((w.alloc (.cells #[H A0 n0 k0,H A1 n1 k1,H A2 n2 k2] 28)).alloc (.cells #[H C n a,H B m b,I J c.base,I J c.second,I J c.third] 32)) (w.heap.size+1) 32 [H C n a,H B m b,I J c.base,I J c.second,I J c.third]:=Box.new _ _ _ L;have a7:∃K,((w.alloc (.cells #[H A0 n0 k0,H A1 n1 k1,H A2 n2 k2] 28)).alloc (.cells #[H C n a,H B m b,I J c.base,I J c.second,I J c.third] 32))=K:=⟨_,rfl⟩;have bk:=xK (x:=x) false hio;have ch:=pE x false t;have HE:=U (dO x c t=Mtc.known (cls (usN x).cls) (aF (aW c).ents) (dtx x false t)) rfl;have MC:=G (λW(hb:By w W)=>zK C n a B m b c W (hC.below hb) hcz);have WC:=G (λW T(hb:By w W)P hT=>FX A0 n0 k0 A1 n1 k1 A2 n2 k2 x T (aW c) w W hN hz hL hb P hT);have DC:=G (λW(hb:By w W)=>sI A0 n0 k0 A1 n1 k1 A2 n2 k2 x D t.length dk t false W (hN.below hb) hz (hL.below hb) (hD.below hb) rfl hbig hio);have aa:=nR c;have bf:=FW aa;have aj:=(kN aa).2;have cg:=hz.us.z0;have be:=FO x;clear hN hz hL hC hcz hD hio aa;generalize dO x c t=kn at *;generalize dtx x false t=d at *;generalize (usN x).cls=cs at *;unfold aJ at *;go_enter func35,ntmps35;go_wp2_with fail;obtain⟨K,ai⟩:=a7;try rw[ai]at B0 X0 X1|-
 clear ai;obtain⟨ao,ap,aq⟩:=X0.k3;obtain⟨ar,au,av,aw,ax⟩:=X1.k5;have l0:=X0.lt;have l1:=X1.lt;have SH:=G (λW'(hb':By K W')=>show W'.cell? ⟨w.heap.size,0,N⟩=Z (H A0 n0 k0)/\W'.cell? ⟨w.heap.size,1,N⟩=Z (H A1 n1 k1)/\W'.cell? ⟨w.heap.size,2,N⟩=Z (H A2 n2 k2)/\W'.cell? ⟨w.heap.size+1,0,N⟩=Z (H C n a)/\W'.cell? ⟨w.heap.size+1,1,N⟩=Z (H B m b)/\W'.cell? ⟨w.heap.size+1,2,N⟩=Z (I J c.base)/\W'.cell? ⟨w.heap.size+1,3,N⟩=Z (I J c.second)/\W'.cell? ⟨w.heap.size+1,4,N⟩=Z (I J c.third)/\By K W' from⟨(hb'.cell l0).trans ao,(hb'.cell l0).trans ap,(hb'.cell l0).trans aq,(hb'.cell l1).trans ar,(hb'.cell l1).trans au,(hb'.cell l1).trans av,(hb'.cell l1).trans aw,(hb'.cell l1).trans ax,hb'⟩);have TM:=G (λW(hb':By K W)=>(MC.o W (tb B0 hb')).mono (R':=λe W'=>∃v,e=.returned v/\(W'.cell? ⟨w.heap.size,0,N⟩=Z (H A0 n0 k0)/\W'.cell? ⟨w.heap.size,1,N⟩=Z (H A1 n1 k1)/\W'.cell? ⟨w.heap.size,2,N⟩=Z (H A2 n2 k2)/\W'.cell? ⟨w.heap.size+1,0,N⟩=Z (H C n a)/\W'.cell? ⟨w.heap.size+1,1,N⟩=Z (H B m b)/\W'.cell? ⟨w.heap.size+1,2,N⟩=Z (I J c.base)/\W'.cell? ⟨w.heap.size+1,3,N⟩=Z (I J c.second)/\W'.cell? ⟨w.heap.size+1,4,N⟩=Z (I J c.third)/\By K W')/\(∃T,v=.pointer (Z ⟨T,0,N⟩)/\W.heap.size<=T/\d_ W' T (aW c) (H N 0 0) 0)) (λe W'⟨T,he,g1,g2,g3⟩=>⟨_,he,SH.o W' (tb hb' g3),T,rfl,g1,g2⟩));clear ao ap aq ar au av aw ax;refine wp_region_held_drew (S:=λW'=>W'.cell? ⟨w.heap.size,0,N⟩=Z (H A0 n0 k0)/\W'.cell? ⟨w.heap.size,1,N⟩=Z (H A1 n1 k1)/\W'.cell? ⟨w.heap.size,2,N⟩=Z (H A2 n2 k2)/\W'.cell? ⟨w.heap.size+1,0,N⟩=Z (H C n a)/\W'.cell? ⟨w.heap.size+1,1,N⟩=Z (H B m b)/\W'.cell? ⟨w.heap.size+1,2,N⟩=Z (I J c.base)/\W'.cell? ⟨w.heap.size+1,3,N⟩=Z (I J c.second)/\W'.cell? ⟨w.heap.size+1,4,N⟩=Z (I J c.third)/\By K W') oK_ (SH.o _ ((Below.refl _ _).drew)) (λf=>?_);refine tK 0 12 ?_;refine tK 2 14 ?_;refine qE 1 13 (TM.o _ f.2.2.2.2.2.2.2.2) ?_;clear f;rintro _ W1 f ⟨T,rfl,P,V⟩;have TW:=G ((WC.o W1 T (B0.trans (f.2.2.2.2.2.2.2.2.mono B0.size)) (by have:=B0.size;have:K.heap.size<=T:=P;omega) V).mono (R':=λe W'=>∃v,e=.returned v/\(W'.cell? ⟨w.heap.size,0,N⟩=Z (H A0 n0 k0)/\W'.cell? ⟨w.heap.size,1,N⟩=Z (H A1 n1 k1)/\W'.cell? ⟨w.heap.size,2,N⟩=Z (H A2 n2 k2)/\W'.cell? ⟨w.heap.size+1,0,N⟩=Z (H C n a)/\W'.cell? ⟨w.heap.size+1,1,N⟩=Z (H B m b)/\W'.cell? ⟨w.heap.size+1,2,N⟩=Z (I J c.base)/\W'.cell? ⟨w.heap.size+1,3,N⟩=Z (I J c.second)/\W'.cell? ⟨w.heap.size+1,4,N⟩=Z (I J c.third)/\By K W')/\(v=.pointer (Z ⟨T,0,N⟩)/\(∃A k,d_ W' T (aW c) (H A cs.length k) (fO cs)/\bG W' A cs))) (λe W'⟨he,h2,h3⟩=>⟨_,he,SH.o W' (f.2.2.2.2.2.2.2.2.trans (lB h3 (show K.heap.size<=T from P) f.2.2.2.2.2.2.2.2.size)),rfl,h2⟩));refine qE 3 15 (TW.o) ?_;clear f;rintro _ W2 f ⟨rfl,AX,kX,y,R⟩;refine tK 4 7 ?_;refine wpAnyH_done oK_ ?_ _;have bc:=f.2.2.2.2.2.2.2.2;have l:=tb B0 bc;have bm:=f.1;have bn:=f.2.1;have bo:=f.2.2.1;have HT:=G y;have HS:=G R;have KD:=G (DC.o W2 l);have ce:=l.size;clear f SH TM TW WC MC V y R DC;go_wp2_with fail;refine KD.o.mono ?_
 rintro e W3 ⟨E0,d0,rfl,E,Q⟩;have HM:=U (∀b,W2.heap.size<=b->qR T (aW c) cs AX kX b W2) (λb hb=>⟨HT.o,HS.o,hb,be,O,bf,⟨aj.1,aj.2.1⟩⟩)
 obtain⟨bq,Y,ag⟩:∃bq,W2.heap.size<=bq/\∀g o,E0=Z ⟨g,o,N⟩->g=bq:=by
  cases E0 with
  |none=>exact⟨_,Nat.le_refl _,λg o h=>by cases h⟩
  |some ad=>
   rcases E.2 with⟨hv,_⟩|⟨g,cp,cc,hv,h1,_⟩
   ·cases hv
   injection hv with hv;injection hv with hv;subst hv;exact⟨g,h1,λg' o h=>by injection h with h;injection h with h1 h2;exact h1.symm⟩
 have HF:=G (KL.first (cl:=cls cs) (ent:=aF (aW c).ents) E rfl bk ag);rw[<-HE.o]at HF;have MT:=G (HM.o bq Y);clear HM ag E KD bm bn bo HT HS;go_wp2;go_loopw [8] (λv wr=>∃(M:Li)(A':Oa)(j:Nat),v=H A' M.length j/\KL (cls cs) (aF (aW c).ents) kn d.length bq W3 M A' j wr) (λv _=>mH v)
 case atStart=>exact⟨d,E0,d0,rfl,HF.o⟩
 obtain⟨M,A',j,rfl,i⟩:=hrel;have HL:=G i;have a2:=G i.gr;have bh:=i.cp;have bg:=i.cm;have b3:=i.bd;have b4:=i.gr.size;have am:By W2 wr:=Q.trans (lB i.gr Y Q.size);by_cases hne:M=[]
 ·have ak:=i.eq
  rw[hne]at ak;have bj:M.length=0:=by rw[hne];rfl
  have bd:=tb l am;clear i HL;subst hne;subst ak;go_wp2;go_ret;exact⟨rfl,bd⟩
 have al:=List.length_pos_iff.2 hne;obtain⟨cf,s,F,p,rfl,r⟩:=i.row hne;have TC:=G (FI T (aW c) cs AX kX bq s j F p M W2 wr MT.o am r hne O bh bg i.io);have ML:=Mtc.matched_len (cl:=cls cs) (ent:=aF (aW c).ents) hne;have NO:=G (λhm=>i.no hne hm);have NX:=G (λ(W':Wv) (s:Nat) (F p:Lv) hm hg r=>HL.o.next hne hm (off:=s) (pre:=F) (post:=p) (W':=W') hg r);unfold oQ qZ at TC;have bj:decide ((0:Int)<(M.length:Int))=true:=by simpa using al
 clear i HL r;generalize hmt:Mtc.matched (cls cs) (aF (aW c).ents) M=mt at *;clear hmt;generalize hpt:Mtc.ofPart (aF (aW c).ents) (aZ (aW c)) mt.1 mt.2.2=pt at *;clear hpt;obtain⟨m1,m2,mk⟩:=mt;dsimp only at *;have hcut:=λ(W:Wv)=>oG (Z ⟨bq,s,N⟩) M.length j m1.length O W
 go_wp2_with fail;refine TC.o.mono ?_
 rintro e W4 ⟨E4,d4,rfl,ah,q,ab⟩;have X:=l.trans (((Q.trans (lB (bK (show W3.grownBy wr (Z bq)from a2.o) ab) Y Q.size))).mono l.size);cases mk with
 |false=>
  have bi:=NO.o rfl;subst bi;clear NX NO TC ah q;go_wp2;go_ret;exact⟨rfl,X⟩
 |true=>
  have a4:=G (NX.o W4 s F p rfl ab ⟨rfl,q⟩);clear ah q ab NX NO TC X;go_wp2;go_roundw
  case rel=>exact⟨m2,_,_,by rw[show M.length-m1.length=m2.length by omega],a4.o⟩
  simp[mH];omega
end
namespace Pk
open Go.RowKit
theorem cmp_neg:∀u v:Li,aE u v=-aE v u
 | [],[]=>rfl
 | [],_::_=>rfl
 |_::_,[]=>rfl
 |a::u,b::v=>by
  unfold aE;by_cases h:a<b
  ·rw[if_pos h,if_neg O,if_pos h]
  rw[if_neg h];by_cases h2:b<a
  ·rw[if_pos h2,if_pos h2];rfl
  rw[if_neg h2,if_neg h2,if_neg h,cmp_neg u v]
def fst(u:Li):Int:=u.head?.getD 0
def low(m:Int)(q:Nat):Li:=if q=0 then []else [m+q-1]
def high(m:Int)(q:Nat):Li:=if q=0 then []else [m+15-q]
def pk(m:Int):Nat->Li->Li
 |q,[]=>low m q
 |q,x::r=>if x=m then(if q=7 then(m+7)::pk m 0 r else pk m (q+1) r)else if x<m then low m q++x::pk m 0 r else high m q++(x+14)::pk m 0 r
def Te(s t:Li):Prop:=(s=[]/\t=[])\/∃a b,s=0::a/\t=0::b
theorem Te.fst{s t:Li}(h:Te s t):Pk.fst s=0/\Pk.fst t=0:=by
 rcases h with⟨rfl,rfl⟩|⟨a,b,rfl,rfl⟩<;>exact⟨rfl,rfl⟩
section
variable {m:Int}
end
def b4(x:Int):Li:=[x/16777216,x/65536%256,x/256%256,x%256]
def vb(x:Int):Li:=if x<64 then [x]else if x<16384 then [64+x/256,x%256]else [128,x/65536,x/256%256,x%256]
end Pk
namespace Tl
open Go.RowKit
theorem fe_zero:∀(l:Li),jC l=0 ↔ ∀x∈l,x=0
 | []=>by simp[jC]
 |x::r=>by
  unfold jC
  by_cases h:x=0
  ·rw[if_pos h,fe_zero r]
   constructor
   ·intro g y hy
    rcases List.mem_cons.1 hy with rfl|hy
    ·exact h
    exact g y hy
   exact λg y hy=>g y (List.mem_cons_of_mem _ hy)
  rw[if_neg h];exact⟨λg=>absurd g h,λg=>absurd (g x L) h⟩
structure NOkE(base:Int)(x:Ent):Prop where
 c1:1<=x.codes.length
 c8:x.codes.length<=8
 e16:x.elems.length<=16
 cv:∀z∈x.codes,0<=z/\z<=1114111
 ev:∀e∈x.elems,EOk e
 eb:∀e∈x.elems,e.p<base
theorem ent_iff(base:Int)(x:Ent):cA base x=0 ↔ NOkE base x:=by
 unfold cA;constructor
 ·intro h
  split at h
  ·cases h
  next c=>
  split at h
  ·cases h
  next b=>
  split at h
  ·next a=>exact absurd h a
  next a=>
  split at h
  ·cases h
  next h4=>
  have d:=(fe_zero _).1 (Classical.not_not.1 a);refine⟨O,O,O,λz hz=>?_,λe he=>(eok_iff e).1 (d _ (List.mem_map.2 ⟨e,he,rfl⟩)),λe he=>?_⟩
  ·simp at b;exact b z hz
  simp at h4;exact h4 e he
 intro h;have c:=h.c1;have b:=h.c8;have a:=h.e16;rw[if_neg O,if_neg (by simp;exact h.cv),if_neg,if_neg (by simp;exact h.eb)];refine Classical.not_not.2 ((fe_zero _).2 λy hy=>?_);obtain⟨e,he,rfl⟩:=List.mem_map.1 hy;exact(eok_iff e).2 (h.ev e he)
theorem ents_of{base:Int}:∀{es:List Ent}{p:Option Ent},(∀x∈es,cA base x=0)->es.Pairwise (λx y=>aE x.codes y.codes<0)->(∀y,p=Z y->∀x∈es,aE y.codes x.codes<0)->eD base es p=0
 | [],_,_,_,_=>rfl
 |x::r,p,h,hp,hq=>by
  obtain⟨a,b⟩:=List.pairwise_cons.1 hp;have ih:=ents_of (es:=r) (p:=Z x) (λy hy=>h y (List.mem_cons_of_mem _ hy)) b (λy e z hz=>by injection e with e;subst e;exact a z hz);unfold eD;rw[if_neg (by rw[h x L];omega)];cases p with
  |none=>exact ih
  |some y=>
   have:=hq y rfl x L;dsimp only;rw[if_neg O];exact ih
theorem ents_all{base:Int}:∀{es:List Ent}{p:Option Ent},eD base es p=0->∀x∈es,cA base x=0
 |x::r,p,h,y,hy=>by
  obtain⟨a,_,b⟩:=xZ h;rcases List.mem_cons.1 hy with rfl|hy
  ·exact a
  exact ents_all b y hy
theorem put_mem{es:List Ent}{x y:Ent}:y∈putE es x ↔ y=x\/(y∈es/\y.codes≠x.codes):=by
 unfold putE;simp only[List.mem_append,List.mem_cons,List.mem_filter,decide_eq_true_eq];have hv:=wX y.codes x.codes;have c:=mP y.codes x.codes;constructor
 ·rintro(⟨a,b⟩|h|⟨a,b⟩)
  ·exact .inr ⟨a,λe=>by rw[c.2 e]at b;omega⟩
  ·exact .inl h
  exact .inr ⟨a,λe=>by rw[c.2 e]at b;omega⟩
 rintro(h|⟨a,b⟩)
 ·exact .inr (.inl h)
 have:aE y.codes x.codes≠0:=λe=>b (c.1 e)
 by_cases g:aE y.codes x.codes<0
 ·exact .inl ⟨a,g⟩
 exact .inr (.inr ⟨a,O⟩)
theorem put_pair{es:List Ent}{x:Ent}(h:es.Pairwise (λx y=>aE x.codes y.codes<0)):(putE es x).Pairwise (λx y=>aE x.codes y.codes<0):=by
 unfold putE;rw[List.pairwise_append,List.pairwise_cons];have c:∀b:Ent,0<aE b.codes x.codes->aE x.codes b.codes<0:=λb hb=>by rw[Pk.cmp_neg];omega
 refine⟨h.filter _,⟨λb hb=>?_,h.filter _⟩,λa ha b hb=>?_⟩
 ·have:=(List.mem_filter.1 hb).2
  exact c b (by simpa using this)
 have d:aE a.codes x.codes<0:=by have:=(List.mem_filter.1 ha).2;simpa using this
 rcases List.mem_cons.1 hb with rfl|hb
 ·exact d
 have:=(List.mem_filter.1 hb).2;exact mQ d (c b (by simpa using this))
theorem put_len(es:List Ent)(x:Ent):(putE es x).length<=es.length+1:=by
 have a:∀l:List Ent,(l.filter (λy=>decide (aE y.codes x.codes<0))).length+(l.filter (λy=>decide (0<aE y.codes x.codes))).length<=l.length:=by
  intro l;induction l with
  |nil=>simp
  |cons y l ih=>
   by_cases h1:aE y.codes x.codes<0
   ·rw[List.filter_cons_of_pos (by simpa using h1),List.filter_cons_of_neg oU_]
    simp only[List.length_cons];omega
   rw[List.filter_cons_of_neg (by simpa using h1)];by_cases h2:0<aE y.codes x.codes
   ·rw[List.filter_cons_of_pos (by simpa using h2)];simp only[List.length_cons];omega
   rw[List.filter_cons_of_neg (by simpa using h2)];simp only[List.length_cons];omega
 have:=a es;unfold putE;rw[List.length_append,List.length_cons];omega
theorem last_in:∀{es:List Ent},es.Pairwise (λx y=>aE x.codes y.codes<0)->∀{x:Ent},x∈es->aF es x.codes=Z x.elems
 |y::r,hp,x,hx=>by
  obtain⟨b,c⟩:=List.pairwise_cons.1 hp;rw[pP];rcases List.mem_cons.1 hx with rfl|hx
  ·cases hl:aF r x.codes with
   |none=>dsimp only;rw[if_pos rfl]
   |some e=>
    obtain⟨z,hz,a,_⟩:=lM hl;exact absurd a.symm (wW (b z hz))
  rw[last_in c hx]
theorem last_iff{es:List Ent}(hp:es.Pairwise (λx y=>aE x.codes y.codes<0))(zs:Li)(e:List Elt):aF es zs=Z e ↔ (⟨zs,e⟩:Ent)∈es:=by
 constructor
 ·intro h
  obtain⟨x,hx,a,b⟩:=lM h;obtain⟨xc,xe⟩:=x;dsimp only at a b;subst a;subst b;exact hx
 intro h;exact last_in hp h
theorem last_put{es:List Ent}{x:Ent}(hp:es.Pairwise (λx y=>aE x.codes y.codes<0))(zs:Li):aF (putE es x) zs=if zs=x.codes then Z x.elems else aF es zs:=by
 split
 ·next h=>
  rw[h];exact last_in (put_pair hp) (put_mem.2 (.inl rfl))
 next h=>
 cases hl:aF es zs with
 |some e=>
  exact(last_iff (put_pair hp) _ _).2 (put_mem.2 (.inr ⟨(last_iff hp _ _).1 hl,h⟩))
 |none=>
  cases hl2:aF (putE es x) zs with
  |none=>rfl
  |some e=>
   rcases put_mem.1 ((last_iff (put_pair hp) _ _).1 hl2)with q|⟨q,_⟩
   ·rw[<-q]at h;exact absurd rfl h
   rw[(last_iff hp _ _).2 q]at hl;cases hl
theorem last_map{F:Elt->Elt}(es:List Ent)(zs:Li):aF (es.map λx=>⟨x.codes,x.elems.map F⟩) zs=(aF es zs).map (List.map F):=by
 induction es with
 |nil=>rfl
 |cons x r ih=>
  rw[List.map_cons,pP,pP,ih];cases aF r zs with
  |some e=>rfl
  |none=>
   dsimp only[Option.map];split<;>rfl
theorem grp_of{base:Int}{gs:List Grp}(h1:(gs.map Grp.name).Nodup)(h2:∀g∈gs,cF g.name=true)(h3:∀g∈gs,1<=g.lo/\g.lo<=g.hi/\g.hi<base)(h4:gap gs=false):cC base gs=0:=by
 unfold cC;rw[if_neg (by simp;exact h2),if_neg (by simpa using h1),if_neg,if_neg (by rw[h4];decide)];simp;intro g hg;have:=h3 g hg;unfold fA;omega
theorem rsG_name(k w:Int)(g:Grp):(rsG k w g).name=g.name:=by unfold rsG;split<;>rfl
theorem gap_rs(w:Int):∀{gs:List Grp},gap gs=false->gap (gs.map (rsG 1 w))=false
 | [],_=>rfl
 | [_],_=>rfl
 |g::k::r,h=>by
  simp only[gap,Bool.or_eq_false_iff]at h;have ih:=gap_rs w (gs:=k::r) h.2;have c:k.lo=g.hi+1:=by simpa using h.1
  rw[List.map_cons,List.map_cons];simp only[gap,Bool.or_eq_false_iff];refine⟨?_,ih⟩;have a:(rsG 1 w k).lo=mvd (w+1) k.lo:=by unfold rsG;rw[if_pos rfl]
  have b:(rsG 1 w g).hi=mvd w g.hi:=by unfold rsG;rw[if_pos rfl]
  rw[a,b,c];unfold mvd;rw[decide_eq_false_iff_not,Classical.not_not];by_cases h5:w<=g.hi
  ·rw[if_pos O,if_pos h5]
  rw[if_neg O,if_neg h5]
theorem grp_rs{base w l:Int}{gs:List Grp}(hl:l=w\/l=w+1)(hw:w<base)(h:cC base gs=0):cC (mvd l base) (gs.map (rsG 1 w))=0:=by
 obtain⟨c,d,e,f⟩:=sZ h;refine grp_of ?_ ?_ ?_ (gap_rs w f)
 ·rw[List.map_map,show(Grp.name ∘ rsG 1 w)=Grp.name from funext λg=>rsG_name 1 w g];exact c
 ·intro g hg
  obtain⟨k,hk,rfl⟩:=List.mem_map.1 hg;rw[rsG_name];exact d k hk
 intro g hg;obtain⟨k,hk,rfl⟩:=List.mem_map.1 hg;have:=e k hk;have a:(rsG 1 w k).lo=mvd (w+1) k.lo:=by unfold rsG;rw[if_pos rfl]
 have b:(rsG 1 w k).hi=mvd w k.hi:=by unfold rsG;rw[if_pos rfl]
 rw[a,b];unfold mvd;split<;>split<;>split<;>omega
theorem rsG_id{k:Int}(hk:k≠1)(w:Int)(gs:List Grp):gs.map (rsG k w)=gs:=by
 refine(List.map_congr_left λg _=>?_).trans (List.map_id gs);unfold rsG;rw[if_neg hk];rfl
theorem col_of{c:Col}(h1:1<=c.base/\c.base<=65502)(h2:1<=c.second/\c.second<=65535)(h3:1<=c.third/\c.third<=65535)(h4:cC c.base c.grps=0)(h5:eD c.base c.ents N=0):aK c=0:=by
 unfold aK;rw[if_neg,if_neg (by rw[h4];simp)]
 ·exact h5
 rw[f_ h2.1 h2.2,f_ h3.1 h3.2];simp;omega
theorem over_facts{c:Col}(h:overC c=false):c.base<=65502/\c.second<=65535/\c.third<=65535/\∀x∈c.ents,∀e∈x.elems,bigE e=false:=by
 unfold overC at h;simp only[Bool.or_eq_false_iff,decide_eq_false_iff_not,List.any_eq_false]at h;obtain⟨a,d⟩:=h;refine⟨O,O,O,λx hx e he=>?_⟩;have b:=a x hx;have:=Bool.eq_false_iff.2 b;exact Bool.eq_false_iff.2 (λq=>by rw[List.any_eq_false]at this;exact this e he q)
theorem rsE_base{k l base:Int}{e:Elt}(h:e.p<base):(rsE k l e).p<if k=1 then mvd l base else base:=by
 rw[rsE_p];split
 ·exact mvd_lt.2 h
 exact h
theorem room_ents{k w l:Int}{c:Col}(hl:1<=l)(h:aK c=0)(ho:overC (roomC k w l c)=false):∀x∈(roomC k w l c).ents,NOkE (roomC k w l c).base x:=by
 intro x hx;obtain⟨i,j,m,g⟩:=over_facts ho;have hb:=g x hx;obtain⟨y,hy,rfl⟩:=List.mem_map.1 (show x∈c.ents.map (rsEnt k l)from hx);have a:=(ent_iff c.base y).1 (ents_all (fC h) y hy);refine⟨a.c1,a.c8,?_,a.cv,λe he=>?_,λe he=>?_⟩
 ·show(y.elems.map (rsE k l)).length<=16
  rw[List.length_map];exact a.e16
 ·have f:=hb e he
  obtain⟨b,d,rfl⟩:=List.mem_map.1 (show e∈y.elems.map (rsE k l)from he);exact rsE_ok hl (a.ev b d) f
 obtain⟨b,d,rfl⟩:=List.mem_map.1 (show e∈y.elems.map (rsE k l)from he);exact rsE_base (a.eb b d)
theorem room_pair{k w l:Int}{c:Col}(h:aK c=0):(roomC k w l c).ents.Pairwise (λx y=>aE x.codes y.codes<0):=by
 show(c.ents.map (rsEnt k l)).Pairwise _
 rw[List.pairwise_map];exact(mC (fC h)).1
theorem room_ok{k w l:Int}{c:Col}(h:aK c=0)(hl:l=w\/l=w+1)(hw:1<=w)(hb:k=1->w<c.base)(ho:overC (roomC k w l c)=false):aK (roomC k w l c)=0:=by
 obtain⟨g,i,j,m⟩:=over_facts ho;obtain⟨a,b,n,d,f⟩:=kN h;refine col_of ⟨?_,g⟩ ⟨?_,i⟩ ⟨?_,j⟩ ?_ (ents_of (λx hx=>(ent_iff _ _).2 (room_ents O h ho x hx)) (room_pair h) (λy e=>by cases e))
 ·show 1<=if k=1 then mvd l c.base else c.base
  split
  ·exact mvd_pos b
  exact b
 ·show 1<=if k=2 then mvd l c.second else c.second
  split
  ·exact mvd_pos d.1
  exact d.1
 ·show 1<=if k=3 then mvd l c.third else c.third
  split
  ·exact mvd_pos f.1
  exact f.1
 show cC (if k=1 then mvd l c.base else c.base) (c.grps.map (rsG k w))=0
 by_cases hk:k=1
 ·subst hk
  rw[if_pos rfl];exact grp_rs hl (hb rfl) a
 rw[if_neg hk,rsG_id hk];exact a
theorem put_ok{c:Col}{x:Ent}(h:aK c=0)(hx:NOkE c.base x):aK { c with ents:=putE c.ents x }=0:=by
 obtain⟨a,b,d,f,g⟩:=kN h;refine col_of (c:={ c with ents:=putE c.ents x }) ⟨b,d⟩ f g a ?_;refine ents_of (λy hy=>?_) (put_pair (mC (fC h)).1) (λy e=>by cases e);rcases put_mem.1 hy with rfl|⟨hy,_⟩
 ·exact(ent_iff _ _).2 hx
 exact ents_all (fC h) y hy
def AncOk(base:Int)(es:List Elt):Prop:=∀e∈es,EOk e/\e.p<base
theorem atE_in{k:Int}{es:List Elt}(h:0<lstK k es es.length):atE k es∈es/\wt k (atE k es)≠0/\lstK k es es.length-1<es.length:=by
 have b:=lstK_le k es es.length;have a:lstK k es es.length-1<es.length:=O;refine⟨?_,lstK_at h,a⟩;unfold atE;rw[List.getD_eq_getElem?_getD,List.getElem?_eq_getElem a];exact List.getElem_mem a
theorem atW_pos{k base:Int}{es:List Elt}(ha:AncOk base es)(h:0<lstK k es es.length):1<=atW k es/\(k=1->atW k es<base):=by
 obtain⟨c,a,_⟩:=atE_in h;obtain⟨b,d⟩:=ha _ c;have f:=b.p0;have g:=b.s0;have i:=b.t0;unfold atW at *;constructor
 ·unfold wt at a|-
  split
  ·next e=>rw[if_pos e]at a;omega
  next e=>
  rw[if_neg e]at a;split
  ·next e2=>rw[if_pos e2]at a;omega
  next e2=>rw[if_neg e2]at a;omega
 intro e;subst e;exact d
theorem lst_cases(w:Int)(b:Bool):lst w b=w\/lst w b=w+1:=by unfold lst;split<;>simp
theorem new_len{t:Tlr}{es:List Elt}{c:Col}(h:0<lstK t.lvl es es.length):(newL t es c).length=lstK t.lvl es es.length:=by
 have a:=lstK_le t.lvl es es.length;unfold newL;simp;omega
theorem new_ok{t:Tlr}{es:List Elt}{c:Col}(hk:t.lvl=1\/t.lvl=2\/t.lvl=3)(h:aK c=0)(ha:AncOk c.base es)(h0:0<lstK t.lvl es es.length)(ho:overC (roomT t es c)=false)(hn:(newL t es c).any bigE=false):∀e∈newL t es c,EOk e/\e.p<(roomT t es c).base:=by
 obtain⟨R,wb⟩:=atW_pos ha h0;have x:=lst_cases (atW t.lvl es) t.bef;obtain⟨q,y,_⟩:=atE_in h0;obtain⟨d,m⟩:=ha _ q;obtain⟨z,A,B,C⟩:=over_facts ho;obtain⟨D,E,F,n,o⟩:=kN h;intro e he;have b:bigE e=false:=by
  rw[List.any_eq_false]at hn;exact Bool.eq_false_iff.2 (hn e he)
 unfold newL at he;rcases List.mem_append.1 he with he|he
 ·obtain⟨r,s,rfl⟩:=List.mem_map.1 he
  obtain⟨v,w⟩:=ha r (List.mem_of_mem_take s);exact⟨rsE_ok O v b,rsE_base w⟩
 rw[List.mem_singleton.1 he]at b|-;obtain⟨g,i,j⟩:=bigE_false b;have M:1<=(roomT t es c).second:=by
  show 1<=if t.lvl=2 then mvd _ c.second else c.second
  split
  ·exact mvd_pos n.1
  exact n.1
 have Q:1<=(roomT t es c).third:=by
  show 1<=if t.lvl=3 then mvd _ c.third else c.third
  split
  ·exact mvd_pos o.1
  exact o.1
 have a:(roomT t es c).base=if t.lvl=1 then mvd (lst (atW t.lvl es) t.bef) c.base else c.base:=rfl;have K:=d.p0;have L:=d.s0;have P:=d.t0;generalize lst (atW t.lvl es) t.bef=l at *;rcases hk with f|f|f
 ·have k:newE t.lvl l (roomT t es c) (atE t.lvl es)=⟨l,(roomT t es c).second,(roomT t es c).third,(atE t.lvl es).v⟩:=by unfold newE;rw[if_pos f]
  rw[k]at g i j|-;rw[if_pos f]at a;have p:=wb f;refine⟨⟨oD_,g,oD_,i,oD_,j,λ_=>oD_,λ_=>oD_,λ_=>oD_⟩,?_⟩;dsimp only;rw[a];unfold mvd;split<;>omega
 ·have k:newE t.lvl l (roomT t es c) (atE t.lvl es)=⟨(atE t.lvl es).p,l,(roomT t es c).third,(atE t.lvl es).v⟩:=by unfold newE;rw[if_neg O,if_pos f]
  rw[k]at g i j|-;rw[if_neg O]at a;refine⟨⟨oD_,g,oD_,i,oD_,j,λ_=>oD_,λ_=>oD_,d.vp⟩,?_⟩;rw[a];exact m
 have k:newE t.lvl l (roomT t es c) (atE t.lvl es)=⟨(atE t.lvl es).p,(atE t.lvl es).s,l,(atE t.lvl es).v⟩:=by unfold newE;rw[if_neg O,if_neg O]
 rw[k]at g i j|-;rw[if_neg O]at a;refine⟨⟨oD_,g,oD_,i,oD_,j,d.ps,λ_=>oD_,d.vp⟩,?_⟩;rw[a];exact m
def rmC(t:Tlr)(es:List Elt)(c:Col):Col:=if t.lvl=0 then c else roomT t es c
def nwL(t:Tlr)(es:List Elt)(c:Col):List Elt:=if t.lvl=0 then es else newL t es c
structure StpOk(d:Li)(kn:Bool)(es:List Elt)(c:Col)(t:Tlr)(c':Col):Prop where
 d8:d.length<=8
 kn:kn=true
 eq:c'={ rmC t es c with ents:=putE (rmC t es c).ents ⟨d,nwL t es c⟩ }
 lv:t.lvl=0/\es.length<=16\/0<t.lvl/\0<lstK t.lvl es es.length/\lstK t.lvl es es.length<=16/\overC (roomT t es c)=false/\(newL t es c).any bigE=false
theorem stepB_ok{d:Li}{kn:Bool}{es:List Elt}{c:Col}{t:Tlr}{c':Col}(hk:kndT t=true)(h:stepB d kn es c t=(0,c')):StpOk d kn es c t c':=by
 unfold stepB at h;have b:0<=t.lvl:=by unfold kndT at hk;simp only[Bool.and_eq_true,decide_eq_true_eq]at hk;exact hk.1.1
 split at h
 ·injection h with h;cases h
 next h1=>
 split at h
 ·injection h with h;cases h
 next h2=>
 have a:kn=true:=by cases kn with|true=>rfl|false=>exact absurd (.inl rfl) h2
 split at h
 ·next h3=>
  split at h
  ·injection h with h;cases h
  next h4=>
  injection h with _ h;refine⟨O,a,?_,.inl ⟨h3,O⟩⟩;unfold rmC nwL;rw[if_pos h3,if_pos h3];exact h.symm
 next h3=>
 split at h
 ·injection h with h;cases h
 next h4=>
 split at h
 ·injection h with h;cases h
 next h5=>
 injection h with _ h;refine⟨O,a,?_,.inr ⟨O,?_,O,Bool.eq_false_iff.2 λq=>h5 (.inl q),Bool.eq_false_iff.2 λq=>h5 (.inr q)⟩⟩
 ·unfold rmC nwL
  rw[if_neg h3,if_neg h3];exact h.symm
 by_cases q:lstK t.lvl es es.length=0
 ·exact absurd (.inr ⟨O,q⟩) h2
 omega
section
variable {d:Li}{kn:Bool}{es:List Elt}{c:Col}{t:Tlr}{c':Col}
theorem lvl_cases(hk:kndT t=true)(h:0<t.lvl):t.lvl=1\/t.lvl=2\/t.lvl=3:=by
 unfold kndT at hk;simp only[Bool.and_eq_true,decide_eq_true_eq]at hk;omega
theorem StpOk.rm(h:StpOk d kn es c t c')(_hk:kndT t=true)(hc:aK c=0)(ha:AncOk c.base es):aK (rmC t es c)=0:=by
 unfold rmC;rcases h.lv with⟨a,_⟩|⟨a,b,g,e,i⟩
 ·rw[if_pos a];exact hc
 rw[if_neg O];obtain⟨f,wb⟩:=atW_pos ha b;exact room_ok hc (lst_cases _ _) f wb e
theorem StpOk.nw(h:StpOk d kn es c t c')(hk:kndT t=true)(hc:aK c=0)(ha:AncOk c.base es):(nwL t es c).length<=16/\∀e∈nwL t es c,EOk e/\e.p<(rmC t es c).base:=by
 unfold rmC nwL;rcases h.lv with⟨a,b⟩|⟨a,b,f,g,i⟩
 ·rw[if_pos a,if_pos a];exact⟨b,ha⟩
 rw[if_neg O,if_neg O];exact⟨by rw[new_len b];exact f,new_ok (lvl_cases hk a) hc ha b g i⟩
theorem StpOk.valid(h:StpOk d kn es c t c')(hk:kndT t=true)(hc:aK c=0)(ha:AncOk c.base es)(hd:1<=d.length)(hv:∀z∈d,0<=z/\z<=1114111):aK c'=0:=by
 rw[h.eq];obtain⟨b,a⟩:=h.nw hk hc ha;exact put_ok (h.rm hk hc ha) ⟨hd,h.d8,b,hv,λe he=>(a e he).1,λe he=>(a e he).2⟩
theorem StpOk.found(h:StpOk d kn es c t c')(hk:kndT t=true)(hc:aK c=0)(ha:AncOk c.base es)(zs:Li):aF c'.ents zs=if zs=d then Z (nwL t es c)else aF (rmC t es c).ents zs:=by
 rw[h.eq];exact last_put (x:=⟨d,nwL t es c⟩) (mC (fC (h.rm hk hc ha))).1 zs
theorem StpOk.lens(h:StpOk d kn es c t c'):(0<(nwL t es c).length ↔ 0<es.length)/\(nwL t es c).length<=es.length/\c'.grps.length=c.grps.length/\c'.ents.length<=c.ents.length+1:=by
 have hg:(rmC t es c).grps.length=c.grps.length/\(rmC t es c).ents.length=c.ents.length:=by
  unfold rmC;split
  ·exact⟨rfl,rfl⟩
  exact⟨by show(c.grps.map _).length=_;rw[List.length_map],by show(c.ents.map _).length=_;rw[List.length_map]⟩
 have hp:=put_len (rmC t es c).ents ⟨d,nwL t es c⟩;have hn:(0<(nwL t es c).length ↔ 0<es.length)/\(nwL t es c).length<=es.length:=by
  unfold nwL;rcases h.lv with⟨b,a⟩|⟨b,a,e,f,g⟩
  ·rw[if_pos b];exact⟨Iff.rfl,Nat.le_refl _⟩
  rw[if_neg O,new_len a];have:=lstK_le t.lvl es es.length;exact⟨⟨λ_=>O,λ_=>a⟩,this⟩
 refine⟨hn.1,hn.2,?_,?_⟩
 ·rw[h.eq];exact hg.1
 rw[h.eq];show(putE (rmC t es c).ents _).length<=_
 rw[<-hg.2];exact hp
end
theorem known_ok{cl:Int->Int}{c:Col}(h:aK c=0){t:Li}(hk:Mtc.known cl (aF c.ents) t=true):AncOk c.base (Mtc.elems cl (aF c.ents) (aZ c) t):=by
 intro e he;rw[Mtc.elems_parts]at he;obtain⟨p,hp,he⟩:=List.mem_flatMap.1 he;have hq:p.2=true:=List.all_eq_true.1 hk p hp;unfold Mtc.ofPart at he;rw[if_pos hq]at he;cases hl:aF c.ents p.1 with
 |none=>rw[hl]at he;cases he
 |some es=>
  rw[hl]at he;obtain⟨x,hx,_,rfl⟩:=lM hl;have a:=(ent_iff c.base x).1 (ents_all (fC h) x hx);exact⟨a.ev e he,a.eb e he⟩
end Tl
end Go.Proofs.YtkhmjidaeliccaaGreatDoor
