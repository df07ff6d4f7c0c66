import Derived.Test.YtkhmjidaeliccaaGreatDoorD00
import Derived.Test.YtkhmjidaeliccaaGreatDoorD08
import Derived.Test.YtkhmjidaeliccaaGreatDoorD12
import Derived.Test.YtkhmjidaeliccaaGreatDoorD14
import Derived.Test.YtkhmjidaeliccaaGreatDoorD15
import Derived.Deep.Cut
set_option maxRecDepth 100000
set_option maxHeartbeats 51200000
namespace Go.Proofs.YtkhmjidaeliccaaGreatDoor
open Option renaming none->N,some->Z
open Value renaming int->I,slice->H
open IntKind renaming i64->J
open Go.Proofs.Tryz
section
open Go.RowKit Go.Maps Go.WideMaps
theorem kD:(prog.info? 33).map (fun i=>(i.zero,i.size,i.bytes))=Z (Z (H N 0 0),1,24):=by kernel_rfl
theorem Box.slT{w:Wv}{b:Nat}{t:TypeId}{cs:Lv}(h:Box w b t cs)(k:Nat):Sl w (Z ⟨b,0,N⟩) (cs.take k):=fun _=>⟨b,0,rfl,fun j u hu=>by
 rw[Nat.zero_add]
 refine h.cell ?_
 rw[List.getElem?_take]at hu
 split at hu
 ·exact hu
 ·cases hu⟩
theorem oP(x y z u:Value)(W:Wv):(Instr.index 190 (.agg #[x,y,z,u]) (I J 0)).run prog W=.ok x W/\(Instr.index 190 (.agg #[x,y,z,u]) (I J 1)).run prog W=.ok y W/\(Instr.index 190 (.agg #[x,y,z,u]) (I J 2)).run prog W=.ok z W/\(Instr.index 190 (.agg #[x,y,z,u]) (I J 3)).run prog W=.ok u W:=⟨by kernel_rfl,by kernel_rfl,by kernel_rfl,by kernel_rfl⟩
theorem pD(r r':Nat->Li)(j:Nat):bA r r' j j=r j:=if_neg (by omega)
theorem pO{wr w3:Wv}{base L jj:Nat}{A:Nat->Oa}{C:Nat->Nat}{rr:Nat->Li}{u:Int}{B3:Oa}{k3:Nat}{T:TypeId}{o:Obj}(hR:R4 wr base A C rr)(hX:Box wr L T (lcs A C rr))(hL:L<base)(hj:jj<4)
  (hown3:w3.ownsRow base 3 1 (H B3 ((rr jj).length+1) k3) ((rr jj).length+1) ((rr jj).map (Value.int .i64)++[I J u])) (hg:(wr.alloc o).grownBy w3 (Value.ownBlock (H (A jj) (rr jj).length (C jj)))) (hb:Below base (wr.alloc o) w3) (hB:B3=A jj\/B3=Z ⟨(wr.alloc o).heap.size,0,N⟩) :
  R4 (w3.setCell ⟨L,jj,N⟩ (H B3 ((rr jj).length+1) k3)) base (upd A jj B3) (upd C jj k3) (upd rr jj (rr jj++[u]))/\Box (w3.setCell ⟨L,jj,N⟩ (H B3 ((rr jj).length+1) k3)) L T (lcs (upd A jj B3) (upd C jj k3) (upd rr jj (rr jj++[u]))):=by
 have hal:By wr (wr.alloc o):=ba _ _;have el:(rr jj++[u]).length=(rr jj).length+1:=by simp
 refine⟨R4.keep (R4.put (hR.below hal) hj (zs:=rr jj++[u]) (by rw[el,List.map_append];exact hown3) (by rw[<-cH (A jj) (rr jj).length (C jj)];exact hg) hB) (bT _ _ _) hL,?_⟩;rw[<-wU A C rr hj B3 k3 (rr jj++[u]),el];exact((hX.below hal hX.lt).below hb hL).set jj _
theorem fF.low{w w':Wv}{s base:Nat}{va:Int}{a:Bool}(h:fF w s va a)(hb:Below base w w')(hs:s+1<base):fF w' s va a:=⟨h.b0.below hb (by omega),h.b1.below hb hs⟩
theorem fF.set{w:Wv}{s:Nat}{va:Int}{a:Bool}(h:fF w s va a)(p:Addr)(hp:p.block<s)(v:Value):fF (w.setCell p v) s va a:=⟨aW h.b0 p (by omega) v,aW h.b1 p (by omega) v⟩
theorem XQ{va:Int}{a:Bool}{x:Elt}{k:Nat}:wtE va (aF (if va=1 then false else a) x) x k=wtE va (aF a x) x k:=by
 by_cases h:va=1
 ·subst h;rw[AJ,AJ]
 rw[if_neg h]
def afN(va:Int)(l:List Elt):Bool:=if va=1 then false else lN false l
def rwN(va:Int)(l:List Elt):Nat->Li:=jN (gH va false l)
theorem TQ{va:Int}{es:List Elt}{i:Nat}(hi:i<es.length)(k:Nat):rwN va (es.take (i+1)) k=rwN va (es.take i) k++if wtE va (aF (afN va (es.take i)) es[i]) es[i] k=0 then []else [wtE va (aF (afN va (es.take i)) es[i]) es[i] k]:=by
 unfold rwN afN;rw[XR va hi,TG,XQ]
theorem CJ{va:Int}{es:List Elt}{i:Nat}(hi:i<es.length):(if va=1 then afN va (es.take i)else aF (afN va (es.take i)) es[i])=afN va (es.take (i+1)):=by
 unfold afN;rw[CN hi];by_cases h:va=1
 ·simp[h]
 simp[h]
theorem TN(va:Int)(es:List Elt)(i k:Nat):(rwN va (es.take i) k).length<=es.length:=by
 unfold rwN;refine Nat.le_trans (sZ _ _) ?_;rw[pP,List.length_take];omega
def t_(rows:List (Li))(w:Wv)(e:Ending)(w':Wv):Prop:=∃B d,e=.returned (H B rows.length d)/\iZ w' B rows/\By w w'
theorem XN{o:Opt}{es:List Elt}{n:Nat}{R:Nat->Li}(hn:o.st=n)(hR:∀k,k<4->R k=kG o es k)(hn4:n<=4):(List.range n).map R=fB o es:=by
 unfold fB;rw[hn,Int.toNat_natCast];refine List.map_congr_left fun k hk=>hR k ?_
 have:=List.mem_range.1 hk;omega
theorem WR(E:Oa)(n kE:Nat)(es:List Elt)(o:Opt)(w:Wv)(hE:cB w E es)(hn:es.length=n)(hbig:n<=33554432):
  Calls prog 72 #[H E n kE,.agg #[I J o.st,I J o.va,.bool o.bk,.bool o.idn]] w (t_ (fB (bY o) es) w):=by
 subst hn;have EF:=G (fun W=>vG o W);obtain⟨⟨hst1,hst4⟩,hva1,hva3⟩:=xV o;generalize bY o=od at *;have WL:=G (fun(n:Nat) R=>XN (o:=od) (es:=es) (n:=n) (R:=R));have LK:=G (fun k=>show kG od es k=if k=1/\od.bk=true then(rwN od.va es k).reverse else rwN od.va es k from rfl);obtain⟨st0,va0,bk0,idn0⟩:=o;generalize fB od es=wl at *;generalize hlv:kG od es=lv at *;clear hlv;obtain⟨st,va,bk,idn⟩:=od;dsimp only at *;have hva:va=1\/va=2\/va=3:=by omega
 have HVA:=G hva;clear hva hva1 hva3;have HE:=G hE;have SN:=G (fun i(hi:i<es.length)k=>TQ (va:=va) hi k);have AN:=G (fun i(hi:i<es.length)=>CJ (va:=va) hi);have RL:=G (TN va es);clear hE;have B0:By w (w.alloc (.cells #[I J st0,I J va0,.bool bk0,.bool idn0] 62)):=ba _ _;have X0:Box (w.alloc (.cells #[I J st0,I J va0,.bool bk0,.bool idn0] 62)) w.heap.size 62 [I J st0,I J va0,.bool bk0,.bool idn0]:=Box.new w 62 [I J st0,I J va0,.bool bk0,.bool idn0] rfl;have W0E:∃W0,(w.alloc (.cells #[I J st0,I J va0,.bool bk0,.bool idn0] 62))=W0:=⟨_,rfl⟩;go_enter func72,ntmps72;go_wp2_with fail;obtain⟨W0,hW0⟩:=W0E;try rw[hW0]at B0 X0|-
 clear hW0;have c0:=X0.c 0 rfl;have c1:=X0.c 1 rfl;have c2:=X0.c 2 rfl;have c3:=X0.c 3 rfl;have l0:=X0.lt;go_wp2_with fail;with_reducible refine(EF.out _).mono ?_
 rintro e W1 ⟨rfl,hb1⟩;have B1:=B0.trans (hb1.mono B0.size);have X1:=X0.below hb1 l0;clear c0 c1 c2 c3 EF X0 hb1 B0;have f0:=X1.free 0;have f1:=X1.free 1;have f2:=X1.free 2;have f3:=X1.free 3;have e0:=X1.c 0 rfl;have e1:=X1.c 1 rfl;have e2:=X1.c 2 rfl;have e3:=X1.c 3 rfl;have X5:Box ((((W1.setCell ⟨w.heap.size,0,N⟩ (I J st)).setCell ⟨w.heap.size,1,N⟩ (I J va)).setCell ⟨w.heap.size,2,N⟩ (.bool bk)).setCell ⟨w.heap.size,3,N⟩ (.bool idn)) w.heap.size 62 [I J st,I J va,.bool bk,.bool idn]:=(((X1.set 0 _).set 1 _).set 2 _).set 3 _;have B5:By w ((((W1.setCell ⟨w.heap.size,0,N⟩ (I J st)).setCell ⟨w.heap.size,1,N⟩ (I J va)).setCell ⟨w.heap.size,2,N⟩ (.bool bk)).setCell ⟨w.heap.size,3,N⟩ (.bool idn)):=(((B1.setCell (by simp) _).setCell (by simp) _).setCell (by simp) _).setCell (by simp) _;have W5E:∃W5,((((W1.setCell ⟨w.heap.size,0,N⟩ (I J st)).setCell ⟨w.heap.size,1,N⟩ (I J va)).setCell ⟨w.heap.size,2,N⟩ (.bool bk)).setCell ⟨w.heap.size,3,N⟩ (.bool idn))=W5:=⟨_,rfl⟩;go_upto_region 2 with(fail)
 obtain⟨W5,hW5⟩:=W5E;try rw[hW5]at B5 X5|-
 clear hW5 f0 f1 f2 f3 e0 e1 e2 e3 X1 B1;have k0:=X5.c 0 rfl;have k1:=X5.c 1 rfl;have k2:=X5.c 2 rfl;have l5:=X5.lt;have LB:By W5 (W5.alloc (.cells #[H N 0 0,H N 0 0,H N 0 0,H N 0 0] 187)):=ba _ _;have LX:Box (W5.alloc (.cells #[H N 0 0,H N 0 0,H N 0 0,H N 0 0] 187)) W5.heap.size 187 (lcs (fun _=>N) (fun _=>0) (fun _=>[])):=Box.new W5 187 [H N 0 0,H N 0 0,H N 0 0,H N 0 0] rfl;have W6E:∃W6,(W5.alloc (.cells #[H N 0 0,H N 0 0,H N 0 0,H N 0 0] 187))=W6:=⟨_,rfl⟩;go_upto_region 3 with(fail)
 obtain⟨W6,hW6⟩:=W6E;try rw[hW6]at LB LX|-
 clear hW6 k0 k1 k2;have q1:=(LB.cell (p:=⟨w.heap.size,1,N⟩) l5).trans (X5.c 1 rfl);have TC:=G (WN va W6);unfold tY AF at TC;have s6:W5.heap.size<W6.heap.size:=LX.lt;have HE5:=G (HE.out.below B5);go_wp2_with fail;with_reducible refine TC.out.mono ?_
 rintro e W7 ⟨rfl,hwg,hb7⟩;have B7:By W5 W7:=LB.trans (hb7.mono LB.size);have s7:W6.heap.size+1<W7.heap.size:=hwg.b1.lt;have LX7:=LX.below hb7 s6
 have HF:=U (R4 W7 W7.heap.size (fun _=>N) (fun _=>0) (rwN va (es.take 0))/\Box W7 W5.heap.size 187 (lcs (fun _=>N) (fun _=>0) (rwN va (es.take 0)))/\fF W7 W6.heap.size va (afN va (es.take 0))/\By W5 W7) (by
  have e1:rwN va (es.take 0)=fun _=>[]:=by funext k;rfl
  have e2:afN va (es.take 0)=false:=by unfold afN;split<;>rfl
  rw[e1,e2]
  exact⟨R4.nil _ _,LX7,hwg,B7⟩)
 have HX5:=G X5;have HB5:=G B5;clear TC q1 hwg hb7 LX LX7 LB X5 B7 B5;go_wp2_with fail;go_loopw [18] (fun u wr=>∃(i:Nat)(A:Nat->Oa)(C:Nat->Nat),i<=es.length/\u=I J i/\R4 wr W7.heap.size A C (rwN va (es.take i))/\Box wr W5.heap.size 187 (lcs A C (rwN va (es.take i)))/\fF wr W6.heap.size va (afN va (es.take i))/\W7.heap.size<=wr.heap.size/\By W5 wr) (fun u _=>es.length-(intOf u).toNat)
 case atStart=>exact⟨0,_,_,Nat.zero_le _,rfl,HF.out.1,HF.out.2.1,HF.out.2.2.1,Nat.le_refl _,HF.out.2.2.2⟩
 obtain⟨i,A,C,hi,rfl,hR,hX,hW,hsz,hbr⟩:=hrel;have HR:=G hR;have HX:=G hX;have HW:=G hW;have HBR:=G hbr;have hrs:=hbr.size;clear hR hX hW HF;by_cases hlt:i<es.length
 ·obtain⟨b,o,rfl,hbl,hcell⟩:=(HE5.out.below hbr).at hlt
  obtain⟨g0,g1,g2,g3⟩:=hcell i hlt;have SNi:=G (SN.out i hlt);have ANi:=G (AN.out i hlt);clear hcell;have RLi:=G (RL.out i);generalize hr1:rwN va (es.take (i+1))=r' at *;generalize ha1:afN va (es.take (i+1))=a' at *;have HR1:=G hr1;have HA1:=G ha1;clear hr1 ha1;generalize rwN va (es.take i)=r at *;generalize afN va (es.take i)=af at *;generalize es[i]=x at *;have hne:¬b=wr.heap.size:=by omega
  have BA:By wr (wr.alloc (.cells #[I J x.p,I J x.s,I J x.t,.bool x.v] 77)):=ba _ _;have XA:Box (wr.alloc (.cells #[I J x.p,I J x.s,I J x.t,.bool x.v] 77)) wr.heap.size 77 [I J x.p,I J x.s,I J x.t,.bool x.v]:=Box.new wr 77 [I J x.p,I J x.s,I J x.t,.bool x.v] rfl;have WaE:∃Wa,(wr.alloc (.cells #[I J x.p,I J x.s,I J x.t,.bool x.v] 77))=Wa:=⟨_,rfl⟩;go_upto_region 7 with(fail)
  obtain⟨Wa,hWa⟩:=WaE;try rw[hWa]at BA XA|-
  clear hWa g0 g1 g2 g3 hne;have x0:=XA.c 0 rfl;have x1:=XA.c 1 rfl;have x2:=XA.c 2 rfl;have x3:=XA.c 3 rfl;have HWa:=G (HW.out.below BA);have TR:=G (WM x va af W6.heap.size (W6.heap.size+1) Wa HWa.out.b0 HWa.out.b1 HVA.out);have has:=BA.size;go_wp2_with fail;with_reducible refine TR.out.mono ?_
  rintro e W8 ⟨rfl,hx8,hg8⟩;have hw8:fF W8 W6.heap.size va a':=⟨HWa.out.b0.grown hg8 (by intro e;injection e with e;omega),by rw[<-ANi.out];exact hx8⟩
  have HL8:=U (R4 W8 W7.heap.size A C (bA r r' 0)/\Box W8 W5.heap.size 187 (lcs A C (bA r r' 0))/\fF W8 W6.heap.size va a'/\W7.heap.size<=W8.heap.size/\By W5 W8) (by
   rw[OV]
   exact⟨(HR.out.below BA).keep hg8 s7,(HX.out.below BA HX.out.lt).grown hg8 (by intro e;injection e with e;omega),hw8,by have:=hg8.size;omega,HBR.out.trans ((BA.mono hrs).trans (jB hg8 (by omega) (by omega)))⟩)
  clear x0 x1 x2 x3 TR XA hx8 hg8 hw8 HWa HR HX HW HBR hbr hrs has BA;have S0:=G (SNi.out 0);have S1:=G (SNi.out 1);have S2:=G (SNi.out 2);have S3:=G (SNi.out 3);clear SNi ANi;generalize wtE va (aF af x) x 0=u0 at *;generalize wtE va (aF af x) x 1=u1 at *;generalize wtE va (aF af x) x 2=u2 at *;generalize wtE va (aF af x) x 3=u3 at *;go_wp2_with fail;go_loopw [25] (fun u wr=>∃(q:Int)(j:Nat)(A:Nat->Oa)(C:Nat->Nat),j<=4/\q=j/\u=I J q/\R4 wr W7.heap.size A C (bA r r' j)/\Box wr W5.heap.size 187 (lcs A C (bA r r' j))/\fF wr W6.heap.size va a'/\W7.heap.size<=wr.heap.size/\By W5 wr) (fun u _=>4-(intOf u).toNat)
  case atStart=>exact⟨0,0,A,C,by omega,rfl,rfl,HL8.out⟩
  obtain⟨q,j,A,C,hj,hq,rfl,hR,hX,hW,hsz,hbr⟩:=hrel;have HR:=G hR;have HX:=G hX;have HW:=G hW;have HBR:=G hbr;have hrs:=hbr.size;clear hR hX hW HL8 hbr;have hj5:j=0\/j=1\/j=2\/j=3\/j=4:=by omega
  clear hj;rcases hj5 with rfl|rfl|rfl|rfl|rfl
  ·obtain rfl:q=0:=by simpa using hq
   clear hq;have ix:=fun W=>(oP (I J u0) (I J u1) (I J u2) (I J u3) W).1
   by_cases hu:u0=0
   ·have q:(u0 !=0)=false:=by simpa using hu
    have HS:=G (pC (r:=r) (r':=r') (j:=0) (by rw[S0.out,if_pos hu,List.append_nil]));clear hu;go_wp2_with fail;go_roundw
    case rel=>exact⟨1,1,A,C,by omega,rfl,rfl,by rw[HS.out];exact HR.out,by rw[HS.out];exact HX.out,HW.out,hsz,HBR.out⟩
    simp[intOf]
   have q:(u0 !=0)=true:=by simpa using hu
   have HS:=U (upd (bA r r' 0) 0 (bA r r' 0 0++[u0])=bA r r' (0+1)) (by
    have e:=pB (r:=r) (r':=r') (j:=0)
    rw[S0.out,if_neg hu]at e
    rw[pD]
    exact e)
   have hlen:(bA r r' 0 0).length<=es.length:=RLi.out 0;clear hu;have cL:=HX.out.cell (i:=0) (v:=H (A 0) (bA r r' 0 0).length (C 0)) rfl;have lL:=HX.out.lt;have HAL:=G (fun(o:Obj)=>show By wr (wr.alloc o)from ba _ _);generalize hmr:bA r r' 0=rr at *;clear hmr;go_wp2_with(at_builtin;refine cJ _ _ 33 3 (I J 0) 1 8 rfl rfl underlying33 bK rfl (by decide) (by decide) rfl ((HR.out.own 0 (by omega)).alloc _) rfl (fN wr [u0] _ rfl) (by simp) (dJ _) (by omega) (by simp;omega) ?_;intro B3 k3 w3 hown3 hc3 hb3 hg3 hB3;have f3:=((HX.out.below (HAL.out _) lL).below hb3 (show W5.heap.size<W7.heap.size by omega)).free 0;have g3:=((HX.out.below (HAL.out _) lL).below hb3 (show W5.heap.size<W7.heap.size by omega)).cell (i:=0) (v:=H (A 0) (rr 0).length (C 0)) rfl);have HWR:=G (pO HR.out HX.out (show W5.heap.size<W7.heap.size by omega) (show 0<4 by omega) hown3 hg3 hb3 hB3);have HW3:=G (((HW.out.below (HAL.out _)).low hb3 s7).set ⟨W5.heap.size,0,N⟩ s6 (H B3 ((rr 0).length+1) k3));have HB3:=G ((HBR.out.trans (((HAL.out _).mono hrs).trans (hb3.mono (by omega)))).setCell (p:=⟨W5.heap.size,0,N⟩) (Nat.le_refl _) (H B3 ((rr 0).length+1) k3));have hs3:W7.heap.size<=w3.heap.size:=by have:=hb3.size;simp at this;omega
   rw[HS.out]at HWR;clear hown3 hc3 hb3 hg3 hB3 f3 g3 cL;go_wp2_with fail;go_roundw
   case rel=>exact⟨1,1,_,_,by omega,rfl,rfl,HWR.out.1,HWR.out.2,HW3.out,by simpa using hs3,HB3.out⟩
   simp[intOf]
  ·obtain rfl:q=1:=by simpa using hq
   clear hq;have ix:=fun W=>(oP (I J u0) (I J u1) (I J u2) (I J u3) W).2.1
   by_cases hu:u1=0
   ·have q:(u1 !=0)=false:=by simpa using hu
    have HS:=G (pC (r:=r) (r':=r') (j:=1) (by rw[S1.out,if_pos hu,List.append_nil]));clear hu;go_wp2_with fail;go_roundw
    case rel=>exact⟨2,2,A,C,by omega,rfl,rfl,by rw[HS.out];exact HR.out,by rw[HS.out];exact HX.out,HW.out,hsz,HBR.out⟩
    simp[intOf]
   have q:(u1 !=0)=true:=by simpa using hu
   have HS:=U (upd (bA r r' 1) 1 (bA r r' 1 1++[u1])=bA r r' (1+1)) (by
    have e:=pB (r:=r) (r':=r') (j:=1)
    rw[S1.out,if_neg hu]at e
    rw[pD]
    exact e)
   have hlen:(bA r r' 1 1).length<=es.length:=RLi.out 1;clear hu;have cL:=HX.out.cell (i:=1) (v:=H (A 1) (bA r r' 1 1).length (C 1)) rfl;have lL:=HX.out.lt;have HAL:=G (fun(o:Obj)=>show By wr (wr.alloc o)from ba _ _);generalize hmr:bA r r' 1=rr at *;clear hmr;go_wp2_with(at_builtin;refine cJ _ _ 33 3 (I J 0) 1 8 rfl rfl underlying33 bK rfl (by decide) (by decide) rfl ((HR.out.own 1 (by omega)).alloc _) rfl (fN wr [u1] _ rfl) (by simp) (dJ _) (by omega) (by simp;omega) ?_;intro B3 k3 w3 hown3 hc3 hb3 hg3 hB3;have f3:=((HX.out.below (HAL.out _) lL).below hb3 (show W5.heap.size<W7.heap.size by omega)).free 1;have g3:=((HX.out.below (HAL.out _) lL).below hb3 (show W5.heap.size<W7.heap.size by omega)).cell (i:=1) (v:=H (A 1) (rr 1).length (C 1)) rfl);have HWR:=G (pO HR.out HX.out (show W5.heap.size<W7.heap.size by omega) (show 1<4 by omega) hown3 hg3 hb3 hB3);have HW3:=G (((HW.out.below (HAL.out _)).low hb3 s7).set ⟨W5.heap.size,1,N⟩ s6 (H B3 ((rr 1).length+1) k3));have HB3:=G ((HBR.out.trans (((HAL.out _).mono hrs).trans (hb3.mono (by omega)))).setCell (p:=⟨W5.heap.size,1,N⟩) (Nat.le_refl _) (H B3 ((rr 1).length+1) k3));have hs3:W7.heap.size<=w3.heap.size:=by have:=hb3.size;simp at this;omega
   rw[HS.out]at HWR;clear hown3 hc3 hb3 hg3 hB3 f3 g3 cL;go_wp2_with fail;go_roundw
   case rel=>exact⟨2,2,_,_,by omega,rfl,rfl,HWR.out.1,HWR.out.2,HW3.out,by simpa using hs3,HB3.out⟩
   simp[intOf]
  ·obtain rfl:q=2:=by simpa using hq
   clear hq;have ix:=fun W=>(oP (I J u0) (I J u1) (I J u2) (I J u3) W).2.2.1
   by_cases hu:u2=0
   ·have q:(u2 !=0)=false:=by simpa using hu
    have HS:=G (pC (r:=r) (r':=r') (j:=2) (by rw[S2.out,if_pos hu,List.append_nil]));clear hu;go_wp2_with fail;go_roundw
    case rel=>exact⟨3,3,A,C,by omega,rfl,rfl,by rw[HS.out];exact HR.out,by rw[HS.out];exact HX.out,HW.out,hsz,HBR.out⟩
    simp[intOf]
   have q:(u2 !=0)=true:=by simpa using hu
   have HS:=U (upd (bA r r' 2) 2 (bA r r' 2 2++[u2])=bA r r' (2+1)) (by
    have e:=pB (r:=r) (r':=r') (j:=2)
    rw[S2.out,if_neg hu]at e
    rw[pD]
    exact e)
   have hlen:(bA r r' 2 2).length<=es.length:=RLi.out 2;clear hu;have cL:=HX.out.cell (i:=2) (v:=H (A 2) (bA r r' 2 2).length (C 2)) rfl;have lL:=HX.out.lt;have HAL:=G (fun(o:Obj)=>show By wr (wr.alloc o)from ba _ _);generalize hmr:bA r r' 2=rr at *;clear hmr;go_wp2_with(at_builtin;refine cJ _ _ 33 3 (I J 0) 1 8 rfl rfl underlying33 bK rfl (by decide) (by decide) rfl ((HR.out.own 2 (by omega)).alloc _) rfl (fN wr [u2] _ rfl) (by simp) (dJ _) (by omega) (by simp;omega) ?_;intro B3 k3 w3 hown3 hc3 hb3 hg3 hB3;have f3:=((HX.out.below (HAL.out _) lL).below hb3 (show W5.heap.size<W7.heap.size by omega)).free 2;have g3:=((HX.out.below (HAL.out _) lL).below hb3 (show W5.heap.size<W7.heap.size by omega)).cell (i:=2) (v:=H (A 2) (rr 2).length (C 2)) rfl);have HWR:=G (pO HR.out HX.out (show W5.heap.size<W7.heap.size by omega) (show 2<4 by omega) hown3 hg3 hb3 hB3);have HW3:=G (((HW.out.below (HAL.out _)).low hb3 s7).set ⟨W5.heap.size,2,N⟩ s6 (H B3 ((rr 2).length+1) k3));have HB3:=G ((HBR.out.trans (((HAL.out _).mono hrs).trans (hb3.mono (by omega)))).setCell (p:=⟨W5.heap.size,2,N⟩) (Nat.le_refl _) (H B3 ((rr 2).length+1) k3));have hs3:W7.heap.size<=w3.heap.size:=by have:=hb3.size;simp at this;omega
   rw[HS.out]at HWR;clear hown3 hc3 hb3 hg3 hB3 f3 g3 cL;go_wp2_with fail;go_roundw
   case rel=>exact⟨3,3,_,_,by omega,rfl,rfl,HWR.out.1,HWR.out.2,HW3.out,by simpa using hs3,HB3.out⟩
   simp[intOf]
  ·obtain rfl:q=3:=by simpa using hq
   clear hq;have ix:=fun W=>(oP (I J u0) (I J u1) (I J u2) (I J u3) W).2.2.2
   by_cases hu:u3=0
   ·have q:(u3 !=0)=false:=by simpa using hu
    have HS:=G (pC (r:=r) (r':=r') (j:=3) (by rw[S3.out,if_pos hu,List.append_nil]));clear hu;go_wp2_with fail;go_roundw
    case rel=>exact⟨4,4,A,C,by omega,rfl,rfl,by rw[HS.out];exact HR.out,by rw[HS.out];exact HX.out,HW.out,hsz,HBR.out⟩
    simp[intOf]
   have q:(u3 !=0)=true:=by simpa using hu
   have HS:=U (upd (bA r r' 3) 3 (bA r r' 3 3++[u3])=bA r r' (3+1)) (by
    have e:=pB (r:=r) (r':=r') (j:=3)
    rw[S3.out,if_neg hu]at e
    rw[pD]
    exact e)
   have hlen:(bA r r' 3 3).length<=es.length:=RLi.out 3;clear hu;have cL:=HX.out.cell (i:=3) (v:=H (A 3) (bA r r' 3 3).length (C 3)) rfl;have lL:=HX.out.lt;have HAL:=G (fun(o:Obj)=>show By wr (wr.alloc o)from ba _ _);generalize hmr:bA r r' 3=rr at *;clear hmr;go_wp2_with(at_builtin;refine cJ _ _ 33 3 (I J 0) 1 8 rfl rfl underlying33 bK rfl (by decide) (by decide) rfl ((HR.out.own 3 (by omega)).alloc _) rfl (fN wr [u3] _ rfl) (by simp) (dJ _) (by omega) (by simp;omega) ?_;intro B3 k3 w3 hown3 hc3 hb3 hg3 hB3;have f3:=((HX.out.below (HAL.out _) lL).below hb3 (show W5.heap.size<W7.heap.size by omega)).free 3;have g3:=((HX.out.below (HAL.out _) lL).below hb3 (show W5.heap.size<W7.heap.size by omega)).cell (i:=3) (v:=H (A 3) (rr 3).length (C 3)) rfl);have HWR:=G (pO HR.out HX.out (show W5.heap.size<W7.heap.size by omega) (show 3<4 by omega) hown3 hg3 hb3 hB3);have HW3:=G (((HW.out.below (HAL.out _)).low hb3 s7).set ⟨W5.heap.size,3,N⟩ s6 (H B3 ((rr 3).length+1) k3));have HB3:=G ((HBR.out.trans (((HAL.out _).mono hrs).trans (hb3.mono (by omega)))).setCell (p:=⟨W5.heap.size,3,N⟩) (Nat.le_refl _) (H B3 ((rr 3).length+1) k3));have hs3:W7.heap.size<=w3.heap.size:=by have:=hb3.size;simp at this;omega
   rw[HS.out]at HWR;clear hown3 hc3 hb3 hg3 hB3 f3 g3 cL;go_wp2_with fail;go_roundw
   case rel=>exact⟨4,4,_,_,by omega,rfl,rfl,HWR.out.1,HWR.out.2,HW3.out,by simpa using hs3,HB3.out⟩
   simp[intOf]
  obtain rfl:q=4:=by simpa using hq
  clear hq;have HM:=G (OU HR.out);have HXX:=U (Box wr W5.heap.size 187 (lcs A C r')) (by rw[<-HM.out.2];exact HX.out);go_wp2_with fail;go_roundw
  case rel=>exact⟨i+1,A,C,by omega,by go_num,by rw[HR1.out];exact HM.out.1,by rw[HR1.out];exact HXX.out,by rw[HA1.out];exact HW.out,hsz,HBR.out⟩
  simp[intOf];omega
 obtain rfl:i=es.length:=by omega
 have c0:=(hbr.cell (p:=⟨w.heap.size,0,N⟩) l5).trans (HX5.out.c 0 rfl);have c2:=(hbr.cell (p:=⟨w.heap.size,2,N⟩) l5).trans (HX5.out.c 2 rfl);rw[List.take_length]at HR HX HW;have RLe:=RL.out es.length 1;rw[List.take_length]at RLe;clear SN AN RL HE5;cases bk with
 |true=>
  have hc1:=HX.out.cell (i:=1) (v:=H (A 1) (rwN va es 1).length (C 1)) rfl;have RV:=G (SF (A 1) (rwN va es 1).length (C 1) W7.heap.size (rwN va es 1) wr (HR.out.own 1 (by omega)) rfl (by omega))
  have LK1:=U (∀k,k<4->upd (rwN va es) 1 (rwN va es 1).reverse k=lv k) (fun k hk=>by
   rw[LK.out]
   by_cases e:k=1
   ·subst e;rw[mI,if_pos ⟨rfl,rfl⟩]
   ·rw[lH e,if_neg (fun g=>e g.1)])
  go_wp2_with fail;with_reducible refine RV.out.mono ?_
  rintro e W9 ⟨rfl,ho9,hg9⟩;rw[cH]at hg9;have HR9:=U (R4 W9 W7.heap.size (upd A 1 (A 1)) (upd C 1 (C 1)) (upd (rwN va es) 1 (rwN va es 1).reverse)) (HR.out.put (by omega) (zs:=(rwN va es 1).reverse) (by rw[List.length_reverse];exact ho9) hg9 (.inl rfl));have hge:∀q,blk (A 1)=Z q->W7.heap.size<=q:=fun q hq=>(HR.out.lt (by omega) hq).1
  have HX9:=U (Box W9 W5.heap.size 187 (lcs (upd A 1 (A 1)) (upd C 1 (C 1)) (upd (rwN va es) 1 (rwN va es 1).reverse))) (by
   have e:=wU A C (rwN va es) (j:=1) (by omega) (A 1) (C 1) (rwN va es 1).reverse
   rw[List.length_reverse]at e
   rw[<-e,show(lcs A C (rwN va es)).set 1 (H (A 1) (rwN va es 1).length (C 1))=lcs A C (rwN va es)from rfl]
   refine HX.out.grown hg9 (fun e=>?_)
   have:=hge _ e.symm
   omega)
  have hb9:By W5 W9:=hbr.trans ⟨hg9.os,hg9.tape,hg9.output,hg9.size,fun k hk=>hg9.block k (by omega) (fun e=>by have:=hge _ e.symm;omega)⟩;have d0:=(hb9.cell (p:=⟨w.heap.size,0,N⟩) l5).trans (HX5.out.c 0 rfl);have hz9:W5.heap.size<=W9.heap.size:=hb9.size;clear RV ho9 hg9 hc1 c0 c2 HR HX HW;generalize upd (rwN va es) 1 (rwN va es 1).reverse=r9 at *;generalize upd A 1 (A 1)=A9 at *;generalize upd C 1 (C 1)=C9 at *;have hst:st=1\/st=2\/st=3\/st=4:=by omega
  rcases hst with rfl|rfl|rfl|rfl
  ·have HWL:=G (WL.out 1 r9 rfl LK1.out (by omega))
   have hwl:wl.length=1:=by rw[<-HWL.out];simp
   have HLEN:=G hwl;clear hwl;go_wp2_with(at_builtin;refine kP _ _ 117 33 (H N 0 0) 1 24 rfl rfl underlying117 kD rfl (by decide) (by decide) rfl (m:=1) rfl (HX9.out.slT 1) rfl (by intro v hv;simp[lcs]at hv;rcases hv with rfl|rfl|rfl|rfl<;>rfl) (by omega) ?_;intro B6 k6 w6 hown6 hc6 hb6);have HRA:=G (kK (HR9.out.below hb6) (show 1<=4 by omega) (Sl.of_own hown6));have hb8:=HB5.out.trans ((hb9.trans (hb6.mono hz9)).mono HB5.out.size);clear hown6 hb6;go_wp2_with fail;go_ret;exact⟨B6,k6,by rw[HLEN.out];rfl,by rw[<-HWL.out];exact HRA.out,hb8⟩
  ·have HWL:=G (WL.out 2 r9 rfl LK1.out (by omega))
   have hwl:wl.length=2:=by rw[<-HWL.out];simp
   have HLEN:=G hwl;clear hwl;go_wp2_with(at_builtin;refine kP _ _ 117 33 (H N 0 0) 1 24 rfl rfl underlying117 kD rfl (by decide) (by decide) rfl (m:=2) rfl (HX9.out.slT 2) rfl (by intro v hv;simp[lcs]at hv;rcases hv with rfl|rfl|rfl|rfl<;>rfl) (by omega) ?_;intro B6 k6 w6 hown6 hc6 hb6);have HRA:=G (kK (HR9.out.below hb6) (show 2<=4 by omega) (Sl.of_own hown6));have hb8:=HB5.out.trans ((hb9.trans (hb6.mono hz9)).mono HB5.out.size);clear hown6 hb6;go_wp2_with fail;go_ret;exact⟨B6,k6,by rw[HLEN.out];rfl,by rw[<-HWL.out];exact HRA.out,hb8⟩
  ·have HWL:=G (WL.out 3 r9 rfl LK1.out (by omega))
   have hwl:wl.length=3:=by rw[<-HWL.out];simp
   have HLEN:=G hwl;clear hwl;go_wp2_with(at_builtin;refine kP _ _ 117 33 (H N 0 0) 1 24 rfl rfl underlying117 kD rfl (by decide) (by decide) rfl (m:=3) rfl (HX9.out.slT 3) rfl (by intro v hv;simp[lcs]at hv;rcases hv with rfl|rfl|rfl|rfl<;>rfl) (by omega) ?_;intro B6 k6 w6 hown6 hc6 hb6);have HRA:=G (kK (HR9.out.below hb6) (show 3<=4 by omega) (Sl.of_own hown6));have hb8:=HB5.out.trans ((hb9.trans (hb6.mono hz9)).mono HB5.out.size);clear hown6 hb6;go_wp2_with fail;go_ret;exact⟨B6,k6,by rw[HLEN.out];rfl,by rw[<-HWL.out];exact HRA.out,hb8⟩
  have HWL:=G (WL.out 4 r9 rfl LK1.out (by omega));have hwl:wl.length=4:=by rw[<-HWL.out];simp
  have HLEN:=G hwl;clear hwl;go_wp2_with(at_builtin;refine kP _ _ 117 33 (H N 0 0) 1 24 rfl rfl underlying117 kD rfl (by decide) (by decide) rfl (m:=4) rfl (HX9.out.slT 4) rfl (by intro v hv;simp[lcs]at hv;rcases hv with rfl|rfl|rfl|rfl<;>rfl) (by omega) ?_;intro B6 k6 w6 hown6 hc6 hb6);have HRA:=G (kK (HR9.out.below hb6) (show 4<=4 by omega) (Sl.of_own hown6));have hb8:=HB5.out.trans ((hb9.trans (hb6.mono hz9)).mono HB5.out.size);clear hown6 hb6;go_wp2_with fail;go_ret;exact⟨B6,k6,by rw[HLEN.out];rfl,by rw[<-HWL.out];exact HRA.out,hb8⟩
 |false=>
  have LK1:=U (∀k,k<4->rwN va es k=lv k) (fun k hk=>by
   rw[LK.out,if_neg (by simp)])
  have HR9:=HR;have HX9:=HX;have hb9:=hbr;have hz9:W5.heap.size<=wr.heap.size:=hb9.size;clear HR HX HW;have hst:st=1\/st=2\/st=3\/st=4:=by omega
  generalize rwN va es=r9 at *;rcases hst with rfl|rfl|rfl|rfl
  ·have HWL:=G (WL.out 1 r9 rfl LK1.out (by omega))
   have hwl:wl.length=1:=by rw[<-HWL.out];simp
   have HLEN:=G hwl;clear hwl;go_wp2_with(at_builtin;refine kP _ _ 117 33 (H N 0 0) 1 24 rfl rfl underlying117 kD rfl (by decide) (by decide) rfl (m:=1) rfl (HX9.out.slT 1) rfl (by intro v hv;simp[lcs]at hv;rcases hv with rfl|rfl|rfl|rfl<;>rfl) (by omega) ?_;intro B6 k6 w6 hown6 hc6 hb6);have HRA:=G (kK (HR9.out.below hb6) (show 1<=4 by omega) (Sl.of_own hown6));have hb8:=HB5.out.trans ((hb9.trans (hb6.mono hz9)).mono HB5.out.size);clear hown6 hb6;go_wp2_with fail;go_ret;exact⟨B6,k6,by rw[HLEN.out];rfl,by rw[<-HWL.out];exact HRA.out,hb8⟩
  ·have HWL:=G (WL.out 2 r9 rfl LK1.out (by omega))
   have hwl:wl.length=2:=by rw[<-HWL.out];simp
   have HLEN:=G hwl;clear hwl;go_wp2_with(at_builtin;refine kP _ _ 117 33 (H N 0 0) 1 24 rfl rfl underlying117 kD rfl (by decide) (by decide) rfl (m:=2) rfl (HX9.out.slT 2) rfl (by intro v hv;simp[lcs]at hv;rcases hv with rfl|rfl|rfl|rfl<;>rfl) (by omega) ?_;intro B6 k6 w6 hown6 hc6 hb6);have HRA:=G (kK (HR9.out.below hb6) (show 2<=4 by omega) (Sl.of_own hown6));have hb8:=HB5.out.trans ((hb9.trans (hb6.mono hz9)).mono HB5.out.size);clear hown6 hb6;go_wp2_with fail;go_ret;exact⟨B6,k6,by rw[HLEN.out];rfl,by rw[<-HWL.out];exact HRA.out,hb8⟩
  ·have HWL:=G (WL.out 3 r9 rfl LK1.out (by omega))
   have hwl:wl.length=3:=by rw[<-HWL.out];simp
   have HLEN:=G hwl;clear hwl;go_wp2_with(at_builtin;refine kP _ _ 117 33 (H N 0 0) 1 24 rfl rfl underlying117 kD rfl (by decide) (by decide) rfl (m:=3) rfl (HX9.out.slT 3) rfl (by intro v hv;simp[lcs]at hv;rcases hv with rfl|rfl|rfl|rfl<;>rfl) (by omega) ?_;intro B6 k6 w6 hown6 hc6 hb6);have HRA:=G (kK (HR9.out.below hb6) (show 3<=4 by omega) (Sl.of_own hown6));have hb8:=HB5.out.trans ((hb9.trans (hb6.mono hz9)).mono HB5.out.size);clear hown6 hb6;go_wp2_with fail;go_ret;exact⟨B6,k6,by rw[HLEN.out];rfl,by rw[<-HWL.out];exact HRA.out,hb8⟩
  have HWL:=G (WL.out 4 r9 rfl LK1.out (by omega));have hwl:wl.length=4:=by rw[<-HWL.out];simp
  have HLEN:=G hwl;clear hwl;go_wp2_with(at_builtin;refine kP _ _ 117 33 (H N 0 0) 1 24 rfl rfl underlying117 kD rfl (by decide) (by decide) rfl (m:=4) rfl (HX9.out.slT 4) rfl (by intro v hv;simp[lcs]at hv;rcases hv with rfl|rfl|rfl|rfl<;>rfl) (by omega) ?_;intro B6 k6 w6 hown6 hc6 hb6);have HRA:=G (kK (HR9.out.below hb6) (show 4<=4 by omega) (Sl.of_own hown6));have hb8:=HB5.out.trans ((hb9.trans (hb6.mono hz9)).mono HB5.out.size);clear hown6 hb6;go_wp2_with fail;go_ret;exact⟨B6,k6,by rw[HLEN.out];rfl,by rw[<-HWL.out];exact HRA.out,hb8⟩
theorem wL{M:Nat}:∀{l:List (Li)},(∀x∈l,x.length<=M)->(cY l).length<=l.length*(M+1)
 | [],_=>by simp[cY]
 | [x],h=>by have:=h x (by simp);simp[cY];omega
 |x::y::l,h=>by
  have h1:=h x (by simp);have h2:=wL (M:=M) (l:=y::l) (fun z hz=>h z (by simp[hz]));have e:(cY (x::y::l)).length=x.length+((cY (y::l)).length+1):=by
   show(x++0::cY (y::l)).length=_
   rw[List.length_append,List.length_cons]
  rw[e,List.length_cons (a:=x),Nat.add_mul];omega
theorem OB(o:Opt)(es:List Elt)(k:Nat):(kG o es k).length<=es.length:=by
 unfold kG;split
 ·rw[List.length_reverse];exact Nat.le_trans (sZ _ _) (by rw[pP];exact Nat.le_refl _)
 exact Nat.le_trans (sZ _ _) (by rw[pP];exact Nat.le_refl _)
theorem AH{o:Opt}{es:List Elt}{x:Li}(h:x∈fB o es):x.length<=es.length:=by
 unfold fB at h;obtain⟨k,_,rfl⟩:=List.mem_map.1 h;exact OB o es k
theorem wN(o:Opt)(es:List Elt)(h:o.st<=4)(i:Nat):(cY ((fB o es).take i)).length<=4*(es.length+1):=by
 refine Nat.le_trans (wL (M:=es.length) (fun x hx=>AH (List.mem_of_mem_take hx))) (Nat.mul_le_mul_right _ ?_);rw[List.length_take,AG];omega
theorem H_{cl:Int->Int}{ent:Li->Option (List Elt)}{imp:Int->List Elt}(h:∀p q,(Mtc.ofPart ent imp p q).length<=16)(t:Li):(Mtc.elems cl ent imp t).length<=16*t.length:=by
 refine Mtc.parts_ind cl ent (P:=fun t=>(Mtc.elems cl ent imp t).length<=16*t.length) (by simp[Mtc.elems_nil]) (fun t ht ih=>?_) t;rw[Mtc.elems_step ht,List.length_append];have h1:=h (Mtc.matched cl ent t).1 (Mtc.matched cl ent t).2.2;have h2:=(Mtc.matched_len (cl:=cl) (ent:=ent) ht).1;omega
theorem kZ(x:Nrm)(c:Col)(t:Li):(aI x c t).length<=1024*t.length:=by
 have h1:=H_ (cl:=cls (usN x).cls) (yB (qZ c)) (dtx x false t);have h2:=jZ x false t;unfold aI;omega
theorem wD(d:Li):(dL d).length<=d.length:=by
 unfold dL;rw[List.length_map];exact List.length_filter_le _ _
theorem LQ{d:Li}{i:Nat}(hi:i<d.length):dL (d.take (i+1))=dL (d.take i)++if 0<=d[i]/\d[i]<=1114111 then [d[i]+1]else []:=by
 rw[List.take_succ_eq_append_getElem hi,LP]
theorem QJ(o:Opt):bY (bY o)=bY o:=if_pos (xW o)
structure Grw(WD W:Wv)(base:Nat)(K0 K:Oa)(k:Nat)(zs:Li):Prop where
 own:W.ownsRow base 3 1 (H K zs.length k) zs.length (zs.map (Value.int .i64))
 gr:WD.grownBy W (blk K0)
 or_:K=K0\/∀q,blk K=Z q->WD.heap.size<=q
theorem Grw.app{WD W W':Wv}{base:Nat}{K0 K B:Oa}{k k':Nat}{zs ys:Li}{o:Obj}(h:Grw WD W base K0 K k zs)(ho:W'.ownsRow base 3 1 (H B (zs.length+ys.length) k') (zs.length+ys.length) (zs.map (Value.int .i64)++ys.map (Value.int .i64)))(hg:(W.alloc o).grownBy W' (Value.ownBlock (H K zs.length k)))(hB:B=K\/B=Z ⟨(W.alloc o).heap.size,0,N⟩):Grw WD W' base K0 B k' (zs++ys):=by
 rw[cH]at hg;have h1:=eH h.gr o;have hz:=h1.size;refine⟨by rw[List.length_append,List.map_append];exact ho,?_,?_⟩
 ·rcases h.or_ with rfl|g
  ·exact aV h1 hg
  exact⟨hg.os.trans h1.os,hg.tape.trans h1.tape,hg.output.trans h1.output,Nat.le_trans hz hg.size,fun q hq hne=>(hg.block q (by omega) (fun e=>by have:=g q e.symm;omega)).trans (h1.block q hq hne)⟩
 rcases hB with rfl|rfl
 ·exact h.or_
 right;intro q hq;have:q=(W.alloc o).heap.size:=by injection hq with hq;exact hq.symm
 omega
theorem Grw.low{WD W:Wv}{base:Nat}{K0 K:Oa}{k:Nat}{zs:Li}(h:Grw WD W base K0 K k zs)(hb:base<=WD.heap.size)(hk:∀q,blk K0=Z q->base<=q):Below base WD W:=
 ⟨h.gr.os,h.gr.tape,h.gr.output,h.gr.size,fun q hq=>h.gr.block q (by omega) (fun e=>by have:=hk q e.symm;omega)⟩
theorem Grw.ints{WD W:Wv}{base:Nat}{K0 K A:Oa}{k n c bd:Nat}{zs d:Li}(h:Grw WD W base K0 K k zs)(hA:WD.ownsRow bd 3 1 (H A n c) n (d.map (Value.int .i64)))(hk:∀q,blk K0=Z q->q<bd):aB W A d:=by
 refine Sl.of_own (hA.kept h.gr ?_);rw[cH];cases hb:blk A with
 |none=>exact .inl rfl
 |some q=>
  right;intro e;have h1:=(hA.lt q (by rw[cH];exact hb)).1;have h2:=hk q e.symm;omega
theorem NG(A0:Oa)(n0 k0:Nat)(A1:Oa)(n1 k1:Nat)(A2:Oa)(n2 k2:Nat)(x:Nrm)(C:Oa)(n a:Nat)(B:Oa)(m b:Nat)(c:Col)(o:Opt)(D:Oa)(dn dk:Nat)(t:Li)(w:Wv)(hN:dC w A0 n0 A1 n1 A2 n2 x)(hz:cC x)(hL:cK w)(hC:aY w C n B m c)(hcz:aZ c)(hD:aB w D t)(hn:t.length=dn)(hbig:dn<=16384)(hio:∀z∈t,iok z):
  Calls prog 27 #[.agg #[H A0 n0 k0,H A1 n1 k1,H A2 n2 k2],aS C n a B m b c,.agg #[I J o.st,I J o.va,.bool o.bk,.bool o.idn],H D dn dk] w (eS (bO (bY o) (aI x c t) (dtx x false t)) w):=by
 subst hn;have EF:=G (fun W=>vG o W);obtain⟨⟨hst1,hst4⟩,hva1,hva3⟩:=xV o;have hel:=kZ x c t;have hdl:=jZ x false t;have EC:=G (fun W(hb:By w W)=>rD A0 n0 k0 A1 n1 k1 A2 n2 k2 x C n a B m b c D t.length dk t W (hN.below hb) hz (hL.below hb) (hC.below hb) hcz (hD.below hb) rfl hbig hio);have DC:=G (fun W(hb:By w W)=>kW A0 n0 k0 A1 n1 k1 A2 n2 k2 x D t.length dk t false W (hN.below hb) hz (hL.below hb) (hD.below hb) rfl hbig hio);have OO:=QJ o;have WC0:=G (fun E k(W:Wv)(hE:cB W E (aI x c t))=>WR E (aI x c t).length k (aI x c t) (bY o) W hE rfl (by omega));rw[OO]at WC0;have JL:=G (wN (bY o) (aI x c t) hst4);have WLN:=AG (bY o) (aI x c t);have WL4:(fB (bY o) (aI x c t)).length<=4:=by omega
 have HK:=U (bO (bY o) (aI x c t) (dtx x false t)=cY (fB (bY o) (aI x c t))++if(bY o).idn=true then 0::dL (dtx x false t)else []) rfl;have WLM:=G (fun y(hy:y∈fB (bY o) (aI x c t))=>AH hy);have IL:=G (fun i=>wD ((dtx x false t).take i));clear hN hz hL hC hcz hD hio OO WLN;generalize bO (bY o) (aI x c t) (dtx x false t)=ky at *;generalize fB (bY o) (aI x c t)=wl at *;generalize aI x c t=els at *;generalize dtx x false t=d at *;generalize bY o=od at *;obtain⟨st0,va0,bk0,idn0⟩:=o;obtain⟨st,va,bk,idn⟩:=od;dsimp only at *;have WC:=G (fun E k(W:Wv)hE=>WC0.out E k W hE);clear WC0 hva1 hva3 hst1 hst4;unfold aS at *;have B0:By w (((w.alloc (.cells #[H A0 n0 k0,H A1 n1 k1,H A2 n2 k2] 28)).alloc (.cells #[H C n a,H B m b,I J c.base,I J c.second,I J c.third] 32)).alloc (.cells #[I J st0,I J va0,.bool bk0,.bool idn0] 62)):=((ba _ _).alloc (by simp) _).alloc (by simp<;>omega) _;have X0:Box (((w.alloc (.cells #[H A0 n0 k0,H A1 n1 k1,H A2 n2 k2] 28)).alloc (.cells #[H C n a,H B m b,I J c.base,I J c.second,I J c.third] 32)).alloc (.cells #[I J st0,I J va0,.bool bk0,.bool idn0] 62)) w.heap.size 28 [H A0 n0 k0,H A1 n1 k1,H A2 n2 k2]:=dF (dF (Box.new w 28 [H A0 n0 k0,H A1 n1 k1,H A2 n2 k2] rfl) _) _;have X1:Box (((w.alloc (.cells #[H A0 n0 k0,H A1 n1 k1,H A2 n2 k2] 28)).alloc (.cells #[H C n a,H B m b,I J c.base,I J c.second,I J c.third] 32)).alloc (.cells #[I J st0,I J va0,.bool bk0,.bool idn0] 62)) (w.heap.size+1) 32 [H C n a,H B m b,I J c.base,I J c.second,I J c.third]:=dF (Box.new _ 32 [H C n a,H B m b,I J c.base,I J c.second,I J c.third] (by simp)) _;have X2:Box (((w.alloc (.cells #[H A0 n0 k0,H A1 n1 k1,H A2 n2 k2] 28)).alloc (.cells #[H C n a,H B m b,I J c.base,I J c.second,I J c.third] 32)).alloc (.cells #[I J st0,I J va0,.bool bk0,.bool idn0] 62)) (w.heap.size+1+1) 62 [I J st0,I J va0,.bool bk0,.bool idn0]:=Box.new _ _ _ (by simp);have W0E:∃W0,(((w.alloc (.cells #[H A0 n0 k0,H A1 n1 k1,H A2 n2 k2] 28)).alloc (.cells #[H C n a,H B m b,I J c.base,I J c.second,I J c.third] 32)).alloc (.cells #[I J st0,I J va0,.bool bk0,.bool idn0] 62))=W0:=⟨_,rfl⟩;go_enter func27,ntmps27;go_upto_region 1 with(fail)
 obtain⟨W0,hW0⟩:=W0E;try rw[hW0]at B0 X0 X1 X2|-
 clear hW0;have c0:=X2.c 0 rfl;have c1:=X2.c 1 rfl;have c2:=X2.c 2 rfl;have c3:=X2.c 3 rfl;have l0:=X0.lt;have l1:=X1.lt;have l2:=X2.lt;go_wp2_with fail;with_reducible refine(EF.out _).mono ?_
 rintro e W1 ⟨rfl,hb1⟩;have B1:=B0.trans (hb1.mono B0.size);have Y0:=X0.below hb1 l0;have Y1:=X1.below hb1 l1;have Y2:=X2.below hb1 l2;clear c0 c1 c2 c3 EF X0 X1 X2 hb1 B0;have f0:=Y2.free 0;have f1:=Y2.free 1;have f2:=Y2.free 2;have f3:=Y2.free 3;have e0:=Y2.c 0 rfl;have e1:=Y2.c 1 rfl;have e2:=Y2.c 2 rfl;have e3:=Y2.c 3 rfl;have Z2:Box ((((W1.setCell ⟨w.heap.size+1+1,0,N⟩ (I J st)).setCell ⟨w.heap.size+1+1,1,N⟩ (I J va)).setCell ⟨w.heap.size+1+1,2,N⟩ (.bool bk)).setCell ⟨w.heap.size+1+1,3,N⟩ (.bool idn)) (w.heap.size+1+1) 62 [I J st,I J va,.bool bk,.bool idn]:=(((Y2.set 0 _).set 1 _).set 2 _).set 3 _;have Z0:Box ((((W1.setCell ⟨w.heap.size+1+1,0,N⟩ (I J st)).setCell ⟨w.heap.size+1+1,1,N⟩ (I J va)).setCell ⟨w.heap.size+1+1,2,N⟩ (.bool bk)).setCell ⟨w.heap.size+1+1,3,N⟩ (.bool idn)) w.heap.size 28 [H A0 n0 k0,H A1 n1 k1,H A2 n2 k2]:=aW (aW (aW (aW Y0 _ (by simp;omega) _) _ (by simp;omega) _) _ (by simp;omega) _) _ (by simp;omega) _;have Z1:Box ((((W1.setCell ⟨w.heap.size+1+1,0,N⟩ (I J st)).setCell ⟨w.heap.size+1+1,1,N⟩ (I J va)).setCell ⟨w.heap.size+1+1,2,N⟩ (.bool bk)).setCell ⟨w.heap.size+1+1,3,N⟩ (.bool idn)) (w.heap.size+1) 32 [H C n a,H B m b,I J c.base,I J c.second,I J c.third]:=aW (aW (aW (aW Y1 _ (by simp) _) _ (by simp) _) _ (by simp) _) _ (by simp) _;have B5:By w ((((W1.setCell ⟨w.heap.size+1+1,0,N⟩ (I J st)).setCell ⟨w.heap.size+1+1,1,N⟩ (I J va)).setCell ⟨w.heap.size+1+1,2,N⟩ (.bool bk)).setCell ⟨w.heap.size+1+1,3,N⟩ (.bool idn)):=(((B1.setCell (by simp;omega) _).setCell (by simp;omega) _).setCell (by simp;omega) _).setCell (by simp;omega) _;have W5E:∃W5,((((W1.setCell ⟨w.heap.size+1+1,0,N⟩ (I J st)).setCell ⟨w.heap.size+1+1,1,N⟩ (I J va)).setCell ⟨w.heap.size+1+1,2,N⟩ (.bool bk)).setCell ⟨w.heap.size+1+1,3,N⟩ (.bool idn))=W5:=⟨_,rfl⟩;go_upto_region 2 with(fail)
 obtain⟨W5,hW5⟩:=W5E;try rw[hW5]at B5 Z0 Z1 Z2|-
 clear hW5 f0 f1 f2 f3 e0 e1 e2 e3 Y0 Y1 Y2 B1 l0 l1 l2;have l0:=Z0.lt;have l1:=Z1.lt;have l2:=Z2.lt;have p00:=Z0.c 0 rfl;have p01:=Z0.c 1 rfl;have p02:=Z0.c 2 rfl;have p10:=Z1.c 0 rfl;have p11:=Z1.c 1 rfl;have p12:=Z1.c 2 rfl;have p13:=Z1.c 3 rfl;have p14:=Z1.c 4 rfl;have p20:=Z2.c 0 rfl;have p21:=Z2.c 1 rfl;have p22:=Z2.c 2 rfl;have p23:=Z2.c 3 rfl;have SH:=G (fun W'(hb':By W5 W')=>show W'.cell? ⟨w.heap.size,0,N⟩=Z (H A0 n0 k0)/\W'.cell? ⟨w.heap.size,1,N⟩=Z (H A1 n1 k1)/\W'.cell? ⟨w.heap.size,2,N⟩=Z (H A2 n2 k2)/\W'.cell? ⟨w.heap.size+1,0,N⟩=Z (H C n a)/\W'.cell? ⟨w.heap.size+1,1,N⟩=Z (H B m b)/\W'.cell? ⟨w.heap.size+1,2,N⟩=Z (I J c.base)/\W'.cell? ⟨w.heap.size+1,3,N⟩=Z (I J c.second)/\W'.cell? ⟨w.heap.size+1,4,N⟩=Z (I J c.third)/\W'.cell? ⟨w.heap.size+1+1,0,N⟩=Z (I J st)/\W'.cell? ⟨w.heap.size+1+1,1,N⟩=Z (I J va)/\W'.cell? ⟨w.heap.size+1+1,2,N⟩=Z (.bool bk)/\W'.cell? ⟨w.heap.size+1+1,3,N⟩=Z (.bool idn)/\By W5 W' from⟨(hb'.cell l0).trans p00,(hb'.cell l0).trans p01,(hb'.cell l0).trans p02,(hb'.cell l1).trans p10,(hb'.cell l1).trans p11,(hb'.cell l1).trans p12,(hb'.cell l1).trans p13,(hb'.cell l1).trans p14,(hb'.cell l2).trans p20,(hb'.cell l2).trans p21,(hb'.cell l2).trans p22,(hb'.cell l2).trans p23,hb'⟩);have TE:=G (fun W(hb':By W5 W)=>(EC.out W (B5.trans (hb'.mono B5.size))).mono (R':=fun e W'=>∃v,e=.returned v/\(W'.cell? ⟨w.heap.size,0,N⟩=Z (H A0 n0 k0)/\W'.cell? ⟨w.heap.size,1,N⟩=Z (H A1 n1 k1)/\W'.cell? ⟨w.heap.size,2,N⟩=Z (H A2 n2 k2)/\W'.cell? ⟨w.heap.size+1,0,N⟩=Z (H C n a)/\W'.cell? ⟨w.heap.size+1,1,N⟩=Z (H B m b)/\W'.cell? ⟨w.heap.size+1,2,N⟩=Z (I J c.base)/\W'.cell? ⟨w.heap.size+1,3,N⟩=Z (I J c.second)/\W'.cell? ⟨w.heap.size+1,4,N⟩=Z (I J c.third)/\W'.cell? ⟨w.heap.size+1+1,0,N⟩=Z (I J st)/\W'.cell? ⟨w.heap.size+1+1,1,N⟩=Z (I J va)/\W'.cell? ⟨w.heap.size+1+1,2,N⟩=Z (.bool bk)/\W'.cell? ⟨w.heap.size+1+1,3,N⟩=Z (.bool idn)/\By W5 W')/\(∃E d,v=H E els.length d/\cB W' E els)) (fun e W'⟨E,d,he,g1,g2⟩=>⟨_,he,SH.out W' (hb'.trans (g2.mono hb'.size)),E,d,rfl,Sl.of_own g1⟩));have HZ:=G (And.intro Z0 (And.intro Z1 Z2));clear p00 p01 p02 p10 p11 p12 p13 p14 p20 p21 p22 p23 Z0 Z1 Z2;unfold t_ at WC;go_wp2_with fail;refine wp_region_held_drew (S:=fun W'=>W'.cell? ⟨w.heap.size,0,N⟩=Z (H A0 n0 k0)/\W'.cell? ⟨w.heap.size,1,N⟩=Z (H A1 n1 k1)/\W'.cell? ⟨w.heap.size,2,N⟩=Z (H A2 n2 k2)/\W'.cell? ⟨w.heap.size+1,0,N⟩=Z (H C n a)/\W'.cell? ⟨w.heap.size+1,1,N⟩=Z (H B m b)/\W'.cell? ⟨w.heap.size+1,2,N⟩=Z (I J c.base)/\W'.cell? ⟨w.heap.size+1,3,N⟩=Z (I J c.second)/\W'.cell? ⟨w.heap.size+1,4,N⟩=Z (I J c.third)/\W'.cell? ⟨w.heap.size+1+1,0,N⟩=Z (I J st)/\W'.cell? ⟨w.heap.size+1+1,1,N⟩=Z (I J va)/\W'.cell? ⟨w.heap.size+1+1,2,N⟩=Z (.bool bk)/\W'.cell? ⟨w.heap.size+1+1,3,N⟩=Z (.bool idn)/\By W5 W') (by kernel_rfl) (SH.out _ ((Below.refl _ _).drew)) (fun hHeld=>?_);refine tK 0 16 ?_;refine tK 1 17 ?_;refine tK 2 18 ?_;refine tK 4 20 ?_;refine tK 7 23 ?_;refine qE 3 19 (TE.out _ hHeld.2.2.2.2.2.2.2.2.2.2.2.2) ?_;clear hHeld;rintro _ W2 hHeld ⟨E2,d2,rfl,hE2⟩;have TW:=G ((WC.out E2 d2 W2 hE2).mono (R':=fun e W'=>∃v,e=.returned v/\(W'.cell? ⟨w.heap.size,0,N⟩=Z (H A0 n0 k0)/\W'.cell? ⟨w.heap.size,1,N⟩=Z (H A1 n1 k1)/\W'.cell? ⟨w.heap.size,2,N⟩=Z (H A2 n2 k2)/\W'.cell? ⟨w.heap.size+1,0,N⟩=Z (H C n a)/\W'.cell? ⟨w.heap.size+1,1,N⟩=Z (H B m b)/\W'.cell? ⟨w.heap.size+1,2,N⟩=Z (I J c.base)/\W'.cell? ⟨w.heap.size+1,3,N⟩=Z (I J c.second)/\W'.cell? ⟨w.heap.size+1,4,N⟩=Z (I J c.third)/\W'.cell? ⟨w.heap.size+1+1,0,N⟩=Z (I J st)/\W'.cell? ⟨w.heap.size+1+1,1,N⟩=Z (I J va)/\W'.cell? ⟨w.heap.size+1+1,2,N⟩=Z (.bool bk)/\W'.cell? ⟨w.heap.size+1+1,3,N⟩=Z (.bool idn)/\By W5 W')/\(∃B d,v=H B wl.length d/\iZ W' B wl)) (fun e W'⟨B3,d3,he,g1,g2⟩=>⟨_,he,SH.out W' (hHeld.2.2.2.2.2.2.2.2.2.2.2.2.trans (g2.mono hHeld.2.2.2.2.2.2.2.2.2.2.2.2.size)),B3,d3,rfl,g1⟩));refine qE 5 21 (TW.out) ?_;clear hHeld;rintro _ W3 hHeld ⟨B3,d3,rfl,hrows⟩;refine tK 6 22 ?_;refine wpAnyH_done (by kernel_rfl) ?_ _;have hb3:=hHeld.2.2.2.2.2.2.2.2.2.2.2.2;have HBW:=G (B5.trans (hb3.mono B5.size));have HB3:=G hb3;have HRW:=G hrows;have hs3:=hb3.size;clear hHeld SH TE TW WC EC hrows hE2 hb3;go_wp2_with fail;go_loopw [9,23] (fun u v wr=>∃(i:Nat)(K:Oa)(k:Nat),i<=wl.length/\v=I J i/\u=H K (cY (wl.take i)).length k/\wr.ownsRow W3.heap.size 3 1 (H K (cY (wl.take i)).length k) (cY (wl.take i)).length ((cY (wl.take i)).map (Value.int .i64))/\By W3 wr) (fun _ v _=>wl.length-(intOf v).toNat)
 case atStart=>exact⟨0,N,0,Nat.zero_le _,rfl,rfl,World.ownsRow_nil _ _ _ _,Below.refl _ _⟩
 obtain⟨i,K,k,hi,rfl,rfl,ho,hbr⟩:=hrel;have HO:=G ho;have hrs:=hbr.size;clear ho;by_cases hlt:i<wl.length
 ·obtain⟨bb,oo,C4,c4,rfl,hcell3,hcc,hI⟩:=HRW.out.at hlt
  have hcell:=(hbr.cell (p:=⟨bb,oo+i,N⟩) (World.block_lt_of_cell? W3 _ hcell3)).trans hcell3;have HI:=G hI;have HT:=G (MK hlt);have hj:=JL.out i;have hwl:wl[i].length<=els.length:=WLM.out _ (List.getElem_mem hlt);have HJ:=G hbr;clear hI hbr hcell3 HRW;generalize hj1:cY (wl.take (i+1))=j1 at *;have HJ1:=G hj1;clear hj1;generalize cY (wl.take i)=j0 at *;generalize wl[i]=row at *;have HI1:=G (HI.out.below HJ.out);by_cases h0:i=0
  ·have HT0:=U (j1=j0++row) (by rw[HT.out,if_pos h0,List.append_nil])
   have hi0:decide ((0:Int)<(i:Int))=false:=by simp;omega
   have hi1:¬0<i:=by omega
   have hi2:decide (0<i)=false:=by simpa using hi1
   clear h0;clear HT;go_wp2_with(at_builtin;refine cJ _ _ 33 3 (I J 0) 1 8 rfl rfl underlying33 bK rfl (by decide) (by decide) rfl HO.out rfl HI1.out (by simp) (dJ _) (by omega) hrs ?_;intro K3 k3 w3 hown3 hc3 hb3 hg3 hB3);have HO3:=G hown3;have HB3':=G (HJ.out.trans hb3);clear hown3 hc3 hb3 hg3 hB3;go_wp2_with fail;go_roundw
   case rel=>exact⟨i+1,K3,k3,by omega,by go_num,by rw[HJ1.out,HT0.out,List.length_append],by rw[HJ1.out,HT0.out,List.length_append,List.map_append];exact HO3.out,HB3'.out⟩
   simp[intOf];omega
  have HT0:=U (j1=(j0++[0])++row) (by rw[HT.out,if_neg h0]);clear HT;have hi0:decide ((0:Int)<(i:Int))=true:=by simp;omega
  have HAL:=G (fun(o:Obj)=>show By wr (wr.alloc o)from ba _ _);go_upto_region 8 with(at_builtin;refine cJ _ _ 33 3 (I J 0) 1 8 rfl rfl underlying33 bK rfl (by decide) (by decide) rfl (HO.out.alloc _) rfl (fN wr [0] _ rfl) (by simp) (dJ _) (by omega) (by simp;omega) ?_;intro K3 k3 w3 hown3 hc3 hb3 hg3 hB3)
  have HO3:=G hown3;have hb4:=HJ.out.trans (((HAL.out _).mono hrs).trans hb3);have HJ4:=G hb4;have hrs4:=hb4.size;have HI4:=G (HI.out.below hb4);clear hown3 hc3 hb3 hg3 hB3 hb4;go_wp2_with(at_builtin;refine cJ _ _ 33 3 (I J 0) 1 8 rfl rfl underlying33 bK rfl (by decide) (by decide) rfl HO3.out rfl HI4.out (by simp) (dJ _) (by omega) hrs4 ?_;intro K5 k5 w5 hown5 hc5 hb5 hg5 hB5);have HO5:=G hown5;have HB5':=G (HJ4.out.trans hb5);clear hown5 hc5 hb5 hg5 hB5;go_wp2_with fail;go_roundw
  case rel=>exact⟨i+1,K5,k5,by omega,by go_num,by rw[HJ1.out,HT0.out,List.length_append,List.length_append];rfl,by rw[HJ1.out,HT0.out,List.length_append,List.map_append,List.length_append,List.map_append];exact HO5.out,HB5'.out⟩
  simp[intOf];omega
 obtain rfl:i=wl.length:=by omega
 have hj:=JL.out wl.length;rw[List.take_length]at HO hj|-;have hbw5:=HB3.out.trans (hbr.mono hs3);have HB5w:=G hbw5;have q3:=(hbw5.cell (p:=⟨w.heap.size+1+1,3,N⟩) l2).trans (HZ.out.2.2.c 3 rfl);have hw3:w.heap.size<=W3.heap.size:=by have:=HBW.out.size;exact this
 have HJ:=G hbr;clear hbr hbw5 JL WLM HRW;generalize cY wl=j0 at *;cases idn with
 |false=>
  have HK2:=U (ky=j0) (by rw[HK.out,if_neg (by simp),List.append_nil]);clear HK DC IL;go_wp2_with fail;go_ret;exact⟨K,k,by rw[HK2.out];rfl,by rw[HK2.out];exact gZ HO.out hw3,HBW.out.trans (HJ.out.mono hw3)⟩
 |true=>
  have HK2:=U (ky=(j0++[0])++dL d) (by rw[HK.out,if_pos rfl,List.append_assoc];rfl);have IS:=G (fun i(hi:i<d.length)=>LQ hi);have HAL:=G (fun(o:Obj)=>show By wr (wr.alloc o)from ba _ _);clear HK;go_upto_region 13 with(at_builtin;refine cJ _ _ 33 3 (I J 0) 1 8 rfl rfl underlying33 bK rfl (by decide) (by decide) rfl (HO.out.alloc _) rfl (fN wr [0] _ rfl) (by simp) (dJ _) (by omega) (by simp;omega) ?_;intro K3 k3 w3 hown3 hc3 hb3 hg3 hB3)
  have hb4:=HJ.out.trans (((HAL.out _).mono hrs).trans hb3);have HJ4:=G hb4;have hrs4:=hb4.size;have hbw5:=HB3.out.trans (hb4.mono hs3);have q0:=(hbw5.cell (p:=⟨w.heap.size,0,N⟩) l0).trans (HZ.out.1.c 0 rfl);have q1:=(hbw5.cell (p:=⟨w.heap.size,1,N⟩) l0).trans (HZ.out.1.c 1 rfl);have q2:=(hbw5.cell (p:=⟨w.heap.size,2,N⟩) l0).trans (HZ.out.1.c 2 rfl);have CD:=G (DC.out w3 (HBW.out.trans (hb4.mono hw3)))
  have HO3:=U (w3.ownsRow W3.heap.size 3 1 (H K3 (j0++[0]).length k3) (j0++[0]).length ((j0++[0]).map (Value.int .i64))) (by
   rw[List.length_append,List.map_append];exact hown3)
  have hl3:(j0++[0]).length=j0.length+1:=by simp
  have HL3:=G hl3;have hlt3:(j0++[0]).length<=4*(els.length+1)+1:=by omega
  clear hown3 hc3 hb3 hg3 hB3 hb4 DC q3 hl3;generalize hjz:j0++[0]=jz at *;clear hjz;go_wp2_with fail;with_reducible refine CD.out.mono ?_
  rintro e W6 ⟨D6,d6,rfl,hown6,hb6⟩;have HD6:=G hown6;have hkb:∀q,blk K3=Z q->W3.heap.size<=q/\q<w3.heap.size:=fun q hq=>HO3.out.lt q (by rw[cH];exact hq)
  have HKB:=G hkb
  have HG6:=U (Grw W6 W6 W3.heap.size K3 K3 k3 (jz++dL (d.take 0))) (by
   rw[List.take_zero,show dL []=[]from rfl,List.append_nil]
   exact⟨bI HO3.out hb6,aN _ _,.inl rfl⟩)
  have h36:W3.heap.size<=W6.heap.size:=by have:=hb6.size;omega
  have HB6:=U (By W3 W6) (HJ4.out.trans (hb6.mono hrs4));clear hown6 hb6 hkb CD q0 q1 q2 hbw5;go_wp2_with fail;go_loopw [9,48] (fun u v wr=>∃(i:Nat)(K:Oa)(k:Nat),i<=d.length/\v=I J i/\u=H K (jz++dL (d.take i)).length k/\Grw W6 wr W3.heap.size K3 K k (jz++dL (d.take i))) (fun _ v _=>d.length-(intOf v).toNat)
  case atStart=>exact⟨0,K3,k3,Nat.zero_le _,rfl,by rw[List.take_zero,show dL []=[]from rfl,List.append_nil,HL3.out],HG6.out⟩
  obtain⟨i,K,k,hi,rfl,rfl,hg⟩:=hrel;have HG:=G hg;have hgs:=hg.gr.size;have HDI:=G (hg.ints HD6.out (fun q hq=>(HKB.out q hq).2));clear hg HG6;by_cases hlt:i<d.length
  ·obtain⟨bb,oo,rfl,hcell⟩:=HDI.out.at hlt
   have hc0:=hcell i hlt;have ISi:=G (IS.out i hlt);have hil:=IL.out i;rw[List.length_take]at hil;have hlj:(jz++dL (d.take i)).length<=jz.length+d.length:=by rw[List.length_append];omega
   clear hcell HDI;generalize hj1:dL (d.take (i+1))=j1 at *;have HJ1:=G hj1;clear hj1;generalize d[i]=z at *;by_cases hz:0<=z/\z<=1114111
   ·obtain⟨hz1,hz2⟩:=hz
    have HT0:=U (jz++j1=(jz++dL (d.take i))++[z+1]) (by rw[ISi.out,if_pos ⟨hz1,hz2⟩,List.append_assoc]);have e1:decide (0<=z)=true:=by simpa using hz1
    have e2:decide (z<=1114111)=true:=by simpa using hz2
    clear ISi hil;generalize jz++dL (d.take i)=j0' at *;go_wp2_with(at_builtin;refine cJ _ _ 33 3 (I J 0) 1 8 rfl rfl underlying33 bK rfl (by decide) (by decide) rfl (HG.out.own.alloc _) rfl (fN wr [z+1] _ rfl) (by simp) (dJ _) (by omega) (by simp;omega) ?_;intro K5 k5 w5 hown5 hc5 hb5 hg5 hB5);have HG5:=G (HG.out.app (ys:=[z+1]) hown5 hg5 hB5);clear hown5 hc5 hb5 hg5 hB5;go_wp2_with fail;go_roundw
    case rel=>exact⟨i+1,K5,k5,by omega,by go_num,by rw[HJ1.out,HT0.out,List.length_append];rfl,by rw[HJ1.out,HT0.out];exact HG5.out⟩
    simp[intOf];omega
   have HT0:=U (jz++j1=jz++dL (d.take i)) (by rw[ISi.out,if_neg hz,List.append_nil]);clear ISi hil;generalize jz++dL (d.take i)=j0' at *;by_cases hz1:0<=z
   ·have hz2:¬z<=1114111:=fun g=>hz ⟨hz1,g⟩
    have e1:decide (0<=z)=true:=by simpa using hz1
    have e2:decide (z<=1114111)=false:=by simpa using hz2
    clear hz hz2 hz1;go_wp2_with fail;go_roundw
    case rel=>exact⟨i+1,K,k,by omega,by go_num,by rw[HJ1.out,HT0.out],by rw[HJ1.out,HT0.out];exact HG.out⟩
    simp[intOf];omega
   have e1:decide (0<=z)=false:=by simpa using hz1
   clear hz hz1;go_wp2_with fail;go_roundw
   case rel=>exact⟨i+1,K,k,by omega,by go_num,by rw[HJ1.out,HT0.out],by rw[HJ1.out,HT0.out];exact HG.out⟩
   simp[intOf];omega
  obtain rfl:i=d.length:=by omega
  rw[List.take_length]at HG|-;have HLW:=G (HG.out.low h36 (fun q hq=>(HKB.out q hq).1));have HKY:=U (jz++dL d=ky) HK2.out.symm;clear HDI IS IL HK2;generalize jz++dL d=jf at *;go_wp2_with fail;go_ret;exact⟨K,k,by rw[<-HKY.out];rfl,by rw[<-HKY.out];exact gZ HG.out.own hw3,HBW.out.trans ((HB6.out.trans HLW.out).mono hw3)⟩
end
end Go.Proofs.YtkhmjidaeliccaaGreatDoor
