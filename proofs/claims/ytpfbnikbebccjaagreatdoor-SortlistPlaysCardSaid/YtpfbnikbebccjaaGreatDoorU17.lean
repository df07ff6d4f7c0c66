import Derived.Test.YtpfbnikbebccjaaGreatDoorU00
import Derived.Test.YtpfbnikbebccjaaGreatDoorU01
import Derived.Test.YtpfbnikbebccjaaGreatDoorU10
import Derived.Test.YtpfbnikbebccjaaGreatDoorU14
import Derived.Test.YtpfbnikbebccjaaGreatDoorU15
import Derived.Test.YtpfbnikbebccjaaGreatDoorU16
import Derived.Deep.Cut
import Derived.Test.YtpfbnikbebccjaaGreatDoorProg
import Derived.Shelf.Abstract
import Derived.Laws.IdiomCopy
set_option maxRecDepth 100000
set_option maxHeartbeats 51200000
namespace Go.Proofs.YtpfbnikbebccjaaGreatDoor
open Option renaming none->N,some->Z
open Value renaming int->I,slice->H
open IntKind renaming i64->J
open Go.Proofs.Tryz
section
open Go.RowKit Go.Maps Go.WideMaps
theorem jU:(prog.info? 49).map (fun i=>(i.zero,i.size,i.bytes))=Z (Z (H N 0 0),1,24):=by kernel_rfl
theorem Box.slT{w:Wv}{b:Nat}{t:TypeId}{cs:Lv}(h:Box w b t cs)(k:Nat):Sl w (Z ⟨b,0,N⟩) (cs.take k):=fun _=>⟨b,0,rfl,fun j u hu=>by
 rw[Nat.zero_add]
 refine h.cell ?_
 rw[List.getElem?_take]at hu
 split at hu
 ·exact hu
 ·cases hu⟩
theorem pE(x y z u:Value)(W:Wv):(Instr.index 173 (.agg #[x,y,z,u]) (I J 0)).run prog W=.ok x W/\(Instr.index 173 (.agg #[x,y,z,u]) (I J 1)).run prog W=.ok y W/\(Instr.index 173 (.agg #[x,y,z,u]) (I J 2)).run prog W=.ok z W/\(Instr.index 173 (.agg #[x,y,z,u]) (I J 3)).run prog W=.ok u W:=⟨by kernel_rfl,by kernel_rfl,by kernel_rfl,by kernel_rfl⟩
theorem pP(r r':Nat->Li)(j:Nat):bQ r r' j j=r j:=if_neg (by omega)
theorem qL{wr w3:Wv}{base L jj:Nat}{A:Nat->Oa}{C:Nat->Nat}{rr:Nat->Li}{u:Int}{B3:Oa}{k3:Nat}{T:TypeId}{o:Obj}(hR:R4 wr base A C rr)(hX:Box wr L T (lcs A C rr))(hL:L<base)(hj:jj<4)
  (hown3:w3.ownsRow base 3 1 (H B3 ((rr jj).length+1) k3) ((rr jj).length+1) ((rr jj).map (Value.int .i64)++[I J u])) (hg:(wr.alloc o).grownBy w3 (Value.ownBlock (H (A jj) (rr jj).length (C jj)))) (hb:Below base (wr.alloc o) w3) (hB:B3=A jj\/B3=Z ⟨(wr.alloc o).heap.size,0,N⟩) :
  R4 (w3.setCell ⟨L,jj,N⟩ (H B3 ((rr jj).length+1) k3)) base (upd A jj B3) (upd C jj k3) (upd rr jj (rr jj++[u]))/\Box (w3.setCell ⟨L,jj,N⟩ (H B3 ((rr jj).length+1) k3)) L T (lcs (upd A jj B3) (upd C jj k3) (upd rr jj (rr jj++[u]))):=by
 have hal:By wr (wr.alloc o):=ba _ _;have el:(rr jj++[u]).length=(rr jj).length+1:=by simp
 refine⟨R4.keep (R4.put (hR.below hal) hj (zs:=rr jj++[u]) (by rw[el,List.map_append];exact hown3) (by rw[<-dZ (A jj) (rr jj).length (C jj)];exact hg) hB) (dU _ _ _) hL,?_⟩;rw[<-yQ A C rr hj B3 k3 (rr jj++[u]),el];exact((hX.below hal hX.lt).below hb hL).set jj _
theorem gA.low{w w':Wv}{s base:Nat}{va:Int}{a:Bool}(h:gA w s va a)(hb:Below base w w')(hs:s+1<base):gA w' s va a:=⟨h.b0.below hb (by omega),h.b1.below hb hs⟩
theorem gA.set{w:Wv}{s:Nat}{va:Int}{a:Bool}(h:gA w s va a)(p:Addr)(hp:p.block<s)(v:Value):gA (w.setCell p v) s va a:=⟨bG h.b0 p (by omega) v,bG h.b1 p (by omega) v⟩
theorem zAZ{va:Int}{a:Bool}{x:Elt}{k:Nat}:wtE va (aC (if va=1 then false else a) x) x k=wtE va (aC a x) x k:=by
 by_cases h:va=1
 ·subst h;rw[ED,ED]
 rw[if_neg h]
def afN(va:Int)(l:List Elt):Bool:=if va=1 then false else jA false l
def rwN(va:Int)(l:List Elt):Nat->Li:=eP (eN va false l)
theorem YY{va:Int}{es:List Elt}{i:Nat}(hi:i<es.length)(k:Nat):rwN va (es.take (i+1)) k=rwN va (es.take i) k++if wtE va (aC (afN va (es.take i)) es[i]) es[i] k=0 then []else [wtE va (aC (afN va (es.take i)) es[i]) es[i] k]:=by
 unfold rwN afN;rw[EG va hi,BJ,zAZ]
theorem GJ{va:Int}{es:List Elt}{i:Nat}(hi:i<es.length):(if va=1 then afN va (es.take i)else aC (afN va (es.take i)) es[i])=afN va (es.take (i+1)):=by
 unfold afN;rw[vD hi];by_cases h:va=1
 ·simp[h]
 simp[h]
theorem YX(va:Int)(es:List Elt)(i k:Nat):(rwN va (es.take i) k).length<=es.length:=by
 unfold rwN;refine Nat.le_trans (qA _ _) ?_;rw[mM,List.length_take];omega
def oB(rows:List (Li))(w:Wv)(e:Ending)(w':Wv):Prop:=∃B d,e=.returned (H B rows.length d)/\fI w' B rows/\By w w'
theorem D_{o:Opt}{es:List Elt}{n:Nat}{R:Nat->Li}(hn:o.st=n)(hR:∀k,k<4->R k=jV o es k)(hn4:n<=4):(List.range n).map R=dW o es:=by
 unfold dW;rw[hn,Int.toNat_natCast];refine List.map_congr_left fun k hk=>hR k ?_
 have:=List.mem_range.1 hk;omega
theorem zAG(E:Oa)(n kE:Nat)(es:List Elt)(o:Opt)(w:Wv)(hE:cJ w E es)(hn:es.length=n)(hbig:n<=33554432):
  Calls prog 119 #[H E n kE,.agg #[I J o.st,I J o.va,.bool o.bk,.bool o.idn]] w (oB (dW (aN o) es) w):=by
 subst hn;have EF:=G (fun W=>wV o W);obtain⟨⟨hst1,hst4⟩,hva1,hva3⟩:=nI o;generalize aN o=od at *;have WL:=G (fun(n:Nat) R=>D_ (o:=od) (es:=es) (n:=n) (R:=R));have LK:=G (fun k=>show jV od es k=if k=1/\od.bk=true then(rwN od.va es k).reverse else rwN od.va es k from rfl);obtain⟨st0,va0,bk0,idn0⟩:=o;generalize dW od es=wl at *;generalize hlv:jV od es=lv at *;clear hlv;obtain⟨st,va,bk,idn⟩:=od;dsimp only at *;have hva:va=1\/va=2\/va=3:=by omega
 have HVA:=G hva;clear hva hva1 hva3;have HE:=G hE;have SN:=G (fun i(hi:i<es.length)k=>YY (va:=va) hi k);have AN:=G (fun i(hi:i<es.length)=>GJ (va:=va) hi);have RL:=G (YX va es);clear hE;have B0:By w (w.alloc (.cells #[I J st0,I J va0,.bool bk0,.bool idn0] 34)):=ba _ _;have X0:Box (w.alloc (.cells #[I J st0,I J va0,.bool bk0,.bool idn0] 34)) w.heap.size 34 [I J st0,I J va0,.bool bk0,.bool idn0]:=Box.new w 34 [I J st0,I J va0,.bool bk0,.bool idn0] rfl;have W0E:∃W0,(w.alloc (.cells #[I J st0,I J va0,.bool bk0,.bool idn0] 34))=W0:=⟨_,rfl⟩;go_enter func119,ntmps119;go_wp2_with fail;obtain⟨W0,hW0⟩:=W0E;try rw[hW0]at B0 X0|-
 clear hW0;have c0:=X0.c 0 rfl;have c1:=X0.c 1 rfl;have c2:=X0.c 2 rfl;have c3:=X0.c 3 rfl;have l0:=X0.lt;go_wp2_with fail;with_reducible refine(EF.out _).mono ?_
 rintro e W1 ⟨rfl,hb1⟩;have B1:=B0.trans (hb1.mono B0.size);have X1:=X0.below hb1 l0;clear c0 c1 c2 c3 EF X0 hb1 B0;have f0:=X1.free 0;have f1:=X1.free 1;have f2:=X1.free 2;have f3:=X1.free 3;have e0:=X1.c 0 rfl;have e1:=X1.c 1 rfl;have e2:=X1.c 2 rfl;have e3:=X1.c 3 rfl;have X5:Box ((((W1.setCell ⟨w.heap.size,0,N⟩ (I J st)).setCell ⟨w.heap.size,1,N⟩ (I J va)).setCell ⟨w.heap.size,2,N⟩ (.bool bk)).setCell ⟨w.heap.size,3,N⟩ (.bool idn)) w.heap.size 34 [I J st,I J va,.bool bk,.bool idn]:=(((X1.set 0 _).set 1 _).set 2 _).set 3 _;have B5:By w ((((W1.setCell ⟨w.heap.size,0,N⟩ (I J st)).setCell ⟨w.heap.size,1,N⟩ (I J va)).setCell ⟨w.heap.size,2,N⟩ (.bool bk)).setCell ⟨w.heap.size,3,N⟩ (.bool idn)):=(((B1.setCell (by simp) _).setCell (by simp) _).setCell (by simp) _).setCell (by simp) _;have W5E:∃W5,((((W1.setCell ⟨w.heap.size,0,N⟩ (I J st)).setCell ⟨w.heap.size,1,N⟩ (I J va)).setCell ⟨w.heap.size,2,N⟩ (.bool bk)).setCell ⟨w.heap.size,3,N⟩ (.bool idn))=W5:=⟨_,rfl⟩;go_upto_region 2 with(fail)
 obtain⟨W5,hW5⟩:=W5E;try rw[hW5]at B5 X5|-
 clear hW5 f0 f1 f2 f3 e0 e1 e2 e3 X1 B1;have k0:=X5.c 0 rfl;have k1:=X5.c 1 rfl;have k2:=X5.c 2 rfl;have l5:=X5.lt;have LB:By W5 (W5.alloc (.cells #[H N 0 0,H N 0 0,H N 0 0,H N 0 0] 187)):=ba _ _;have LX:Box (W5.alloc (.cells #[H N 0 0,H N 0 0,H N 0 0,H N 0 0] 187)) W5.heap.size 187 (lcs (fun _=>N) (fun _=>0) (fun _=>[])):=Box.new W5 187 [H N 0 0,H N 0 0,H N 0 0,H N 0 0] rfl;have W6E:∃W6,(W5.alloc (.cells #[H N 0 0,H N 0 0,H N 0 0,H N 0 0] 187))=W6:=⟨_,rfl⟩;go_upto_region 3 with(fail)
 obtain⟨W6,hW6⟩:=W6E;try rw[hW6]at LB LX|-
 clear hW6 k0 k1 k2;have q1:=(LB.cell (p:=⟨w.heap.size,1,N⟩) l5).trans (X5.c 1 rfl);have TC:=G (zAy va W6);unfold uZ DX at TC;have s6:W5.heap.size<W6.heap.size:=LX.lt;have HE5:=G (HE.out.below B5);go_wp2_with fail;with_reducible refine TC.out.mono ?_
 rintro e W7 ⟨rfl,hwg,hb7⟩;have B7:By W5 W7:=LB.trans (hb7.mono LB.size);have s7:W6.heap.size+1<W7.heap.size:=hwg.b1.lt;have LX7:=LX.below hb7 s6
 have HF:=U (R4 W7 W7.heap.size (fun _=>N) (fun _=>0) (rwN va (es.take 0))/\Box W7 W5.heap.size 187 (lcs (fun _=>N) (fun _=>0) (rwN va (es.take 0)))/\gA W7 W6.heap.size va (afN va (es.take 0))/\By W5 W7) (by
  have e1:rwN va (es.take 0)=fun _=>[]:=by funext k;rfl
  have e2:afN va (es.take 0)=false:=by unfold afN;split<;>rfl
  rw[e1,e2]
  exact⟨R4.nil _ _,LX7,hwg,B7⟩)
 have HX5:=G X5;have HB5:=G B5;clear TC q1 hwg hb7 LX LX7 LB X5 B7 B5;go_wp2_with fail;go_loopw [18] (fun u wr=>∃(i:Nat)(A:Nat->Oa)(C:Nat->Nat),i<=es.length/\u=I J i/\R4 wr W7.heap.size A C (rwN va (es.take i))/\Box wr W5.heap.size 187 (lcs A C (rwN va (es.take i)))/\gA wr W6.heap.size va (afN va (es.take i))/\W7.heap.size<=wr.heap.size/\By W5 wr) (fun u _=>es.length-(intOf u).toNat)
 case atStart=>exact⟨0,_,_,Nat.zero_le _,rfl,HF.out.1,HF.out.2.1,HF.out.2.2.1,Nat.le_refl _,HF.out.2.2.2⟩
 obtain⟨i,A,C,hi,rfl,hR,hX,hW,hsz,hbr⟩:=hrel;have HR:=G hR;have HX:=G hX;have HW:=G hW;have HBR:=G hbr;have hrs:=hbr.size;clear hR hX hW HF;by_cases hlt:i<es.length
 ·obtain⟨b,o,rfl,hbl,hcell⟩:=(HE5.out.below hbr).at hlt
  obtain⟨g0,g1,g2,g3⟩:=hcell i hlt;have SNi:=G (SN.out i hlt);have ANi:=G (AN.out i hlt);clear hcell;have RLi:=G (RL.out i);generalize hr1:rwN va (es.take (i+1))=r' at *;generalize ha1:afN va (es.take (i+1))=a' at *;have HR1:=G hr1;have HA1:=G ha1;clear hr1 ha1;generalize rwN va (es.take i)=r at *;generalize afN va (es.take i)=af at *;generalize es[i]=x at *;have hne:¬b=wr.heap.size:=by omega
  have BA:By wr (wr.alloc (.cells #[I J x.p,I J x.s,I J x.t,.bool x.v] 106)):=ba _ _;have XA:Box (wr.alloc (.cells #[I J x.p,I J x.s,I J x.t,.bool x.v] 106)) wr.heap.size 106 [I J x.p,I J x.s,I J x.t,.bool x.v]:=Box.new wr 106 [I J x.p,I J x.s,I J x.t,.bool x.v] rfl;have WaE:∃Wa,(wr.alloc (.cells #[I J x.p,I J x.s,I J x.t,.bool x.v] 106))=Wa:=⟨_,rfl⟩;go_upto_region 7 with(fail)
  obtain⟨Wa,hWa⟩:=WaE;try rw[hWa]at BA XA|-
  clear hWa g0 g1 g2 g3 hne;have x0:=XA.c 0 rfl;have x1:=XA.c 1 rfl;have x2:=XA.c 2 rfl;have x3:=XA.c 3 rfl;have HWa:=G (HW.out.below BA);have TR:=G (zAw x va af W6.heap.size (W6.heap.size+1) Wa HWa.out.b0 HWa.out.b1 HVA.out);have has:=BA.size;go_wp2_with fail;with_reducible refine TR.out.mono ?_
  rintro e W8 ⟨rfl,hx8,hg8⟩;have hw8:gA W8 W6.heap.size va a':=⟨HWa.out.b0.grown hg8 (by intro e;injection e with e;omega),by rw[<-ANi.out];exact hx8⟩
  have HL8:=U (R4 W8 W7.heap.size A C (bQ r r' 0)/\Box W8 W5.heap.size 187 (lcs A C (bQ r r' 0))/\gA W8 W6.heap.size va a'/\W7.heap.size<=W8.heap.size/\By W5 W8) (by
   rw[SD]
   exact⟨(HR.out.below BA).keep hg8 s7,(HX.out.below BA HX.out.lt).grown hg8 (by intro e;injection e with e;omega),hw8,by have:=hg8.size;omega,HBR.out.trans ((BA.mono hrs).trans (lX hg8 (by omega) (by omega)))⟩)
  clear x0 x1 x2 x3 TR XA hx8 hg8 hw8 HWa HR HX HW HBR hbr hrs has BA;have S0:=G (SNi.out 0);have S1:=G (SNi.out 1);have S2:=G (SNi.out 2);have S3:=G (SNi.out 3);clear SNi ANi;generalize wtE va (aC af x) x 0=u0 at *;generalize wtE va (aC af x) x 1=u1 at *;generalize wtE va (aC af x) x 2=u2 at *;generalize wtE va (aC af x) x 3=u3 at *;go_wp2_with fail;go_loopw [25] (fun u wr=>∃(q:Int)(j:Nat)(A:Nat->Oa)(C:Nat->Nat),j<=4/\q=j/\u=I J q/\R4 wr W7.heap.size A C (bQ r r' j)/\Box wr W5.heap.size 187 (lcs A C (bQ r r' j))/\gA wr W6.heap.size va a'/\W7.heap.size<=wr.heap.size/\By W5 wr) (fun u _=>4-(intOf u).toNat)
  case atStart=>exact⟨0,0,A,C,by omega,rfl,rfl,HL8.out⟩
  obtain⟨q,j,A,C,hj,hq,rfl,hR,hX,hW,hsz,hbr⟩:=hrel;have HR:=G hR;have HX:=G hX;have HW:=G hW;have HBR:=G hbr;have hrs:=hbr.size;clear hR hX hW HL8 hbr;have hj5:j=0\/j=1\/j=2\/j=3\/j=4:=by omega
  clear hj;rcases hj5 with rfl|rfl|rfl|rfl|rfl
  ·obtain rfl:q=0:=by simpa using hq
   clear hq;have ix:=fun W=>(pE (I J u0) (I J u1) (I J u2) (I J u3) W).1
   by_cases hu:u0=0
   ·have q:(u0 !=0)=false:=by simpa using hu
    have HS:=G (pO (r:=r) (r':=r') (j:=0) (by rw[S0.out,if_pos hu,List.append_nil]));clear hu;go_wp2_with fail;go_roundw
    case rel=>exact⟨1,1,A,C,by omega,rfl,rfl,by rw[HS.out];exact HR.out,by rw[HS.out];exact HX.out,HW.out,hsz,HBR.out⟩
    simp[intOf]
   have q:(u0 !=0)=true:=by simpa using hu
   have HS:=U (upd (bQ r r' 0) 0 (bQ r r' 0 0++[u0])=bQ r r' (0+1)) (by
    have e:=pN (r:=r) (r':=r') (j:=0)
    rw[S0.out,if_neg hu]at e
    rw[pP]
    exact e)
   have hlen:(bQ r r' 0 0).length<=es.length:=RLi.out 0;clear hu;have cL:=HX.out.cell (i:=0) (v:=H (A 0) (bQ r r' 0 0).length (C 0)) rfl;have lL:=HX.out.lt;have HAL:=G (fun(o:Obj)=>show By wr (wr.alloc o)from ba _ _);generalize hmr:bQ r r' 0=rr at *;clear hmr;go_wp2_with(at_builtin;refine aJ _ _ 49 3 (I J 0) 1 8 rfl rfl underlying49 aM rfl (by decide) (by decide) rfl ((HR.out.own 0 (by omega)).alloc _) rfl (bZ wr [u0] _ rfl) (by simp) (aR _) (by omega) (by simp;omega) ?_;intro B3 k3 w3 hown3 hc3 hb3 hg3 hB3;have f3:=((HX.out.below (HAL.out _) lL).below hb3 (show W5.heap.size<W7.heap.size by omega)).free 0;have g3:=((HX.out.below (HAL.out _) lL).below hb3 (show W5.heap.size<W7.heap.size by omega)).cell (i:=0) (v:=H (A 0) (rr 0).length (C 0)) rfl);have HWR:=G (qL HR.out HX.out (show W5.heap.size<W7.heap.size by omega) (show 0<4 by omega) hown3 hg3 hb3 hB3);have HW3:=G (((HW.out.below (HAL.out _)).low hb3 s7).set ⟨W5.heap.size,0,N⟩ s6 (H B3 ((rr 0).length+1) k3));have HB3:=G ((HBR.out.trans (((HAL.out _).mono hrs).trans (hb3.mono (by omega)))).setCell (p:=⟨W5.heap.size,0,N⟩) (Nat.le_refl _) (H B3 ((rr 0).length+1) k3));have hs3:W7.heap.size<=w3.heap.size:=by have:=hb3.size;simp at this;omega
   rw[HS.out]at HWR;clear hown3 hc3 hb3 hg3 hB3 f3 g3 cL;go_wp2_with fail;go_roundw
   case rel=>exact⟨1,1,_,_,by omega,rfl,rfl,HWR.out.1,HWR.out.2,HW3.out,by simpa using hs3,HB3.out⟩
   simp[intOf]
  ·obtain rfl:q=1:=by simpa using hq
   clear hq;have ix:=fun W=>(pE (I J u0) (I J u1) (I J u2) (I J u3) W).2.1
   by_cases hu:u1=0
   ·have q:(u1 !=0)=false:=by simpa using hu
    have HS:=G (pO (r:=r) (r':=r') (j:=1) (by rw[S1.out,if_pos hu,List.append_nil]));clear hu;go_wp2_with fail;go_roundw
    case rel=>exact⟨2,2,A,C,by omega,rfl,rfl,by rw[HS.out];exact HR.out,by rw[HS.out];exact HX.out,HW.out,hsz,HBR.out⟩
    simp[intOf]
   have q:(u1 !=0)=true:=by simpa using hu
   have HS:=U (upd (bQ r r' 1) 1 (bQ r r' 1 1++[u1])=bQ r r' (1+1)) (by
    have e:=pN (r:=r) (r':=r') (j:=1)
    rw[S1.out,if_neg hu]at e
    rw[pP]
    exact e)
   have hlen:(bQ r r' 1 1).length<=es.length:=RLi.out 1;clear hu;have cL:=HX.out.cell (i:=1) (v:=H (A 1) (bQ r r' 1 1).length (C 1)) rfl;have lL:=HX.out.lt;have HAL:=G (fun(o:Obj)=>show By wr (wr.alloc o)from ba _ _);generalize hmr:bQ r r' 1=rr at *;clear hmr;go_wp2_with(at_builtin;refine aJ _ _ 49 3 (I J 0) 1 8 rfl rfl underlying49 aM rfl (by decide) (by decide) rfl ((HR.out.own 1 (by omega)).alloc _) rfl (bZ wr [u1] _ rfl) (by simp) (aR _) (by omega) (by simp;omega) ?_;intro B3 k3 w3 hown3 hc3 hb3 hg3 hB3;have f3:=((HX.out.below (HAL.out _) lL).below hb3 (show W5.heap.size<W7.heap.size by omega)).free 1;have g3:=((HX.out.below (HAL.out _) lL).below hb3 (show W5.heap.size<W7.heap.size by omega)).cell (i:=1) (v:=H (A 1) (rr 1).length (C 1)) rfl);have HWR:=G (qL HR.out HX.out (show W5.heap.size<W7.heap.size by omega) (show 1<4 by omega) hown3 hg3 hb3 hB3);have HW3:=G (((HW.out.below (HAL.out _)).low hb3 s7).set ⟨W5.heap.size,1,N⟩ s6 (H B3 ((rr 1).length+1) k3));have HB3:=G ((HBR.out.trans (((HAL.out _).mono hrs).trans (hb3.mono (by omega)))).setCell (p:=⟨W5.heap.size,1,N⟩) (Nat.le_refl _) (H B3 ((rr 1).length+1) k3));have hs3:W7.heap.size<=w3.heap.size:=by have:=hb3.size;simp at this;omega
   rw[HS.out]at HWR;clear hown3 hc3 hb3 hg3 hB3 f3 g3 cL;go_wp2_with fail;go_roundw
   case rel=>exact⟨2,2,_,_,by omega,rfl,rfl,HWR.out.1,HWR.out.2,HW3.out,by simpa using hs3,HB3.out⟩
   simp[intOf]
  ·obtain rfl:q=2:=by simpa using hq
   clear hq;have ix:=fun W=>(pE (I J u0) (I J u1) (I J u2) (I J u3) W).2.2.1
   by_cases hu:u2=0
   ·have q:(u2 !=0)=false:=by simpa using hu
    have HS:=G (pO (r:=r) (r':=r') (j:=2) (by rw[S2.out,if_pos hu,List.append_nil]));clear hu;go_wp2_with fail;go_roundw
    case rel=>exact⟨3,3,A,C,by omega,rfl,rfl,by rw[HS.out];exact HR.out,by rw[HS.out];exact HX.out,HW.out,hsz,HBR.out⟩
    simp[intOf]
   have q:(u2 !=0)=true:=by simpa using hu
   have HS:=U (upd (bQ r r' 2) 2 (bQ r r' 2 2++[u2])=bQ r r' (2+1)) (by
    have e:=pN (r:=r) (r':=r') (j:=2)
    rw[S2.out,if_neg hu]at e
    rw[pP]
    exact e)
   have hlen:(bQ r r' 2 2).length<=es.length:=RLi.out 2;clear hu;have cL:=HX.out.cell (i:=2) (v:=H (A 2) (bQ r r' 2 2).length (C 2)) rfl;have lL:=HX.out.lt;have HAL:=G (fun(o:Obj)=>show By wr (wr.alloc o)from ba _ _);generalize hmr:bQ r r' 2=rr at *;clear hmr;go_wp2_with(at_builtin;refine aJ _ _ 49 3 (I J 0) 1 8 rfl rfl underlying49 aM rfl (by decide) (by decide) rfl ((HR.out.own 2 (by omega)).alloc _) rfl (bZ wr [u2] _ rfl) (by simp) (aR _) (by omega) (by simp;omega) ?_;intro B3 k3 w3 hown3 hc3 hb3 hg3 hB3;have f3:=((HX.out.below (HAL.out _) lL).below hb3 (show W5.heap.size<W7.heap.size by omega)).free 2;have g3:=((HX.out.below (HAL.out _) lL).below hb3 (show W5.heap.size<W7.heap.size by omega)).cell (i:=2) (v:=H (A 2) (rr 2).length (C 2)) rfl);have HWR:=G (qL HR.out HX.out (show W5.heap.size<W7.heap.size by omega) (show 2<4 by omega) hown3 hg3 hb3 hB3);have HW3:=G (((HW.out.below (HAL.out _)).low hb3 s7).set ⟨W5.heap.size,2,N⟩ s6 (H B3 ((rr 2).length+1) k3));have HB3:=G ((HBR.out.trans (((HAL.out _).mono hrs).trans (hb3.mono (by omega)))).setCell (p:=⟨W5.heap.size,2,N⟩) (Nat.le_refl _) (H B3 ((rr 2).length+1) k3));have hs3:W7.heap.size<=w3.heap.size:=by have:=hb3.size;simp at this;omega
   rw[HS.out]at HWR;clear hown3 hc3 hb3 hg3 hB3 f3 g3 cL;go_wp2_with fail;go_roundw
   case rel=>exact⟨3,3,_,_,by omega,rfl,rfl,HWR.out.1,HWR.out.2,HW3.out,by simpa using hs3,HB3.out⟩
   simp[intOf]
  ·obtain rfl:q=3:=by simpa using hq
   clear hq;have ix:=fun W=>(pE (I J u0) (I J u1) (I J u2) (I J u3) W).2.2.2
   by_cases hu:u3=0
   ·have q:(u3 !=0)=false:=by simpa using hu
    have HS:=G (pO (r:=r) (r':=r') (j:=3) (by rw[S3.out,if_pos hu,List.append_nil]));clear hu;go_wp2_with fail;go_roundw
    case rel=>exact⟨4,4,A,C,by omega,rfl,rfl,by rw[HS.out];exact HR.out,by rw[HS.out];exact HX.out,HW.out,hsz,HBR.out⟩
    simp[intOf]
   have q:(u3 !=0)=true:=by simpa using hu
   have HS:=U (upd (bQ r r' 3) 3 (bQ r r' 3 3++[u3])=bQ r r' (3+1)) (by
    have e:=pN (r:=r) (r':=r') (j:=3)
    rw[S3.out,if_neg hu]at e
    rw[pP]
    exact e)
   have hlen:(bQ r r' 3 3).length<=es.length:=RLi.out 3;clear hu;have cL:=HX.out.cell (i:=3) (v:=H (A 3) (bQ r r' 3 3).length (C 3)) rfl;have lL:=HX.out.lt;have HAL:=G (fun(o:Obj)=>show By wr (wr.alloc o)from ba _ _);generalize hmr:bQ r r' 3=rr at *;clear hmr;go_wp2_with(at_builtin;refine aJ _ _ 49 3 (I J 0) 1 8 rfl rfl underlying49 aM rfl (by decide) (by decide) rfl ((HR.out.own 3 (by omega)).alloc _) rfl (bZ wr [u3] _ rfl) (by simp) (aR _) (by omega) (by simp;omega) ?_;intro B3 k3 w3 hown3 hc3 hb3 hg3 hB3;have f3:=((HX.out.below (HAL.out _) lL).below hb3 (show W5.heap.size<W7.heap.size by omega)).free 3;have g3:=((HX.out.below (HAL.out _) lL).below hb3 (show W5.heap.size<W7.heap.size by omega)).cell (i:=3) (v:=H (A 3) (rr 3).length (C 3)) rfl);have HWR:=G (qL HR.out HX.out (show W5.heap.size<W7.heap.size by omega) (show 3<4 by omega) hown3 hg3 hb3 hB3);have HW3:=G (((HW.out.below (HAL.out _)).low hb3 s7).set ⟨W5.heap.size,3,N⟩ s6 (H B3 ((rr 3).length+1) k3));have HB3:=G ((HBR.out.trans (((HAL.out _).mono hrs).trans (hb3.mono (by omega)))).setCell (p:=⟨W5.heap.size,3,N⟩) (Nat.le_refl _) (H B3 ((rr 3).length+1) k3));have hs3:W7.heap.size<=w3.heap.size:=by have:=hb3.size;simp at this;omega
   rw[HS.out]at HWR;clear hown3 hc3 hb3 hg3 hB3 f3 g3 cL;go_wp2_with fail;go_roundw
   case rel=>exact⟨4,4,_,_,by omega,rfl,rfl,HWR.out.1,HWR.out.2,HW3.out,by simpa using hs3,HB3.out⟩
   simp[intOf]
  obtain rfl:q=4:=by simpa using hq
  clear hq;have HM:=G (SA HR.out);have HXX:=U (Box wr W5.heap.size 187 (lcs A C r')) (by rw[<-HM.out.2];exact HX.out);go_wp2_with fail;go_roundw
  case rel=>exact⟨i+1,A,C,by omega,by go_num,by rw[HR1.out];exact HM.out.1,by rw[HR1.out];exact HXX.out,by rw[HA1.out];exact HW.out,hsz,HBR.out⟩
  simp[intOf];omega
 obtain rfl:i=es.length:=by omega
 have c0:=(hbr.cell (p:=⟨w.heap.size,0,N⟩) l5).trans (HX5.out.c 0 rfl);have c2:=(hbr.cell (p:=⟨w.heap.size,2,N⟩) l5).trans (HX5.out.c 2 rfl);rw[List.take_length]at HR HX HW;have RLe:=RL.out es.length 1;rw[List.take_length]at RLe;clear SN AN RL HE5;cases bk with
 |true=>
  have hc1:=HX.out.cell (i:=1) (v:=H (A 1) (rwN va es 1).length (C 1)) rfl;have RV:=G (XP (A 1) (rwN va es 1).length (C 1) W7.heap.size (rwN va es 1) wr (HR.out.own 1 (by omega)) rfl (by omega))
  have LK1:=U (∀k,k<4->upd (rwN va es) 1 (rwN va es 1).reverse k=lv k) (fun k hk=>by
   rw[LK.out]
   by_cases e:k=1
   ·subst e;rw[d_,if_pos ⟨rfl,rfl⟩]
   ·rw[eA e,if_neg (fun g=>e g.1)])
  go_wp2_with fail;with_reducible refine RV.out.mono ?_
  rintro e W9 ⟨rfl,ho9,hg9⟩;rw[dZ]at hg9;have HR9:=U (R4 W9 W7.heap.size (upd A 1 (A 1)) (upd C 1 (C 1)) (upd (rwN va es) 1 (rwN va es 1).reverse)) (HR.out.put (by omega) (zs:=(rwN va es 1).reverse) (by rw[List.length_reverse];exact ho9) hg9 (.inl rfl));have hge:∀q,blk (A 1)=Z q->W7.heap.size<=q:=fun q hq=>(HR.out.lt (by omega) hq).1
  have HX9:=U (Box W9 W5.heap.size 187 (lcs (upd A 1 (A 1)) (upd C 1 (C 1)) (upd (rwN va es) 1 (rwN va es 1).reverse))) (by
   have e:=yQ A C (rwN va es) (j:=1) (by omega) (A 1) (C 1) (rwN va es 1).reverse
   rw[List.length_reverse]at e
   rw[<-e,show(lcs A C (rwN va es)).set 1 (H (A 1) (rwN va es 1).length (C 1))=lcs A C (rwN va es)from rfl]
   refine HX.out.grown hg9 (fun e=>?_)
   have:=hge _ e.symm
   omega)
  have hb9:By W5 W9:=hbr.trans ⟨hg9.os,hg9.tape,hg9.output,hg9.size,fun k hk=>hg9.block k (by omega) (fun e=>by have:=hge _ e.symm;omega)⟩;have d0:=(hb9.cell (p:=⟨w.heap.size,0,N⟩) l5).trans (HX5.out.c 0 rfl);have hz9:W5.heap.size<=W9.heap.size:=hb9.size;clear RV ho9 hg9 hc1 c0 c2 HR HX HW;generalize upd (rwN va es) 1 (rwN va es 1).reverse=r9 at *;generalize upd A 1 (A 1)=A9 at *;generalize upd C 1 (C 1)=C9 at *;have hst:st=1\/st=2\/st=3\/st=4:=by omega
  rcases hst with rfl|rfl|rfl|rfl
  ·have HWL:=G (WL.out 1 r9 rfl LK1.out (by omega))
   have hwl:wl.length=1:=by rw[<-HWL.out];simp
   have HLEN:=G hwl;clear hwl;go_wp2_with(at_builtin;refine kY _ _ 145 49 (H N 0 0) 1 24 rfl rfl underlying145 jU rfl (by decide) (by decide) rfl (m:=1) rfl (HX9.out.slT 1) rfl (by intro v hv;simp[lcs]at hv;rcases hv with rfl|rfl|rfl|rfl<;>rfl) (by omega) ?_;intro B6 k6 w6 hown6 hc6 hb6);have HRA:=G (jX (HR9.out.below hb6) (show 1<=4 by omega) (Sl.of_own hown6));have hb8:=HB5.out.trans ((hb9.trans (hb6.mono hz9)).mono HB5.out.size);clear hown6 hb6;go_wp2_with fail;go_ret;exact⟨B6,k6,by rw[HLEN.out];rfl,by rw[<-HWL.out];exact HRA.out,hb8⟩
  ·have HWL:=G (WL.out 2 r9 rfl LK1.out (by omega))
   have hwl:wl.length=2:=by rw[<-HWL.out];simp
   have HLEN:=G hwl;clear hwl;go_wp2_with(at_builtin;refine kY _ _ 145 49 (H N 0 0) 1 24 rfl rfl underlying145 jU rfl (by decide) (by decide) rfl (m:=2) rfl (HX9.out.slT 2) rfl (by intro v hv;simp[lcs]at hv;rcases hv with rfl|rfl|rfl|rfl<;>rfl) (by omega) ?_;intro B6 k6 w6 hown6 hc6 hb6);have HRA:=G (jX (HR9.out.below hb6) (show 2<=4 by omega) (Sl.of_own hown6));have hb8:=HB5.out.trans ((hb9.trans (hb6.mono hz9)).mono HB5.out.size);clear hown6 hb6;go_wp2_with fail;go_ret;exact⟨B6,k6,by rw[HLEN.out];rfl,by rw[<-HWL.out];exact HRA.out,hb8⟩
  ·have HWL:=G (WL.out 3 r9 rfl LK1.out (by omega))
   have hwl:wl.length=3:=by rw[<-HWL.out];simp
   have HLEN:=G hwl;clear hwl;go_wp2_with(at_builtin;refine kY _ _ 145 49 (H N 0 0) 1 24 rfl rfl underlying145 jU rfl (by decide) (by decide) rfl (m:=3) rfl (HX9.out.slT 3) rfl (by intro v hv;simp[lcs]at hv;rcases hv with rfl|rfl|rfl|rfl<;>rfl) (by omega) ?_;intro B6 k6 w6 hown6 hc6 hb6);have HRA:=G (jX (HR9.out.below hb6) (show 3<=4 by omega) (Sl.of_own hown6));have hb8:=HB5.out.trans ((hb9.trans (hb6.mono hz9)).mono HB5.out.size);clear hown6 hb6;go_wp2_with fail;go_ret;exact⟨B6,k6,by rw[HLEN.out];rfl,by rw[<-HWL.out];exact HRA.out,hb8⟩
  have HWL:=G (WL.out 4 r9 rfl LK1.out (by omega));have hwl:wl.length=4:=by rw[<-HWL.out];simp
  have HLEN:=G hwl;clear hwl;go_wp2_with(at_builtin;refine kY _ _ 145 49 (H N 0 0) 1 24 rfl rfl underlying145 jU rfl (by decide) (by decide) rfl (m:=4) rfl (HX9.out.slT 4) rfl (by intro v hv;simp[lcs]at hv;rcases hv with rfl|rfl|rfl|rfl<;>rfl) (by omega) ?_;intro B6 k6 w6 hown6 hc6 hb6);have HRA:=G (jX (HR9.out.below hb6) (show 4<=4 by omega) (Sl.of_own hown6));have hb8:=HB5.out.trans ((hb9.trans (hb6.mono hz9)).mono HB5.out.size);clear hown6 hb6;go_wp2_with fail;go_ret;exact⟨B6,k6,by rw[HLEN.out];rfl,by rw[<-HWL.out];exact HRA.out,hb8⟩
 |false=>
  have LK1:=U (∀k,k<4->rwN va es k=lv k) (fun k hk=>by
   rw[LK.out,if_neg (by simp)])
  have HR9:=HR;have HX9:=HX;have hb9:=hbr;have hz9:W5.heap.size<=wr.heap.size:=hb9.size;clear HR HX HW;have hst:st=1\/st=2\/st=3\/st=4:=by omega
  generalize rwN va es=r9 at *;rcases hst with rfl|rfl|rfl|rfl
  ·have HWL:=G (WL.out 1 r9 rfl LK1.out (by omega))
   have hwl:wl.length=1:=by rw[<-HWL.out];simp
   have HLEN:=G hwl;clear hwl;go_wp2_with(at_builtin;refine kY _ _ 145 49 (H N 0 0) 1 24 rfl rfl underlying145 jU rfl (by decide) (by decide) rfl (m:=1) rfl (HX9.out.slT 1) rfl (by intro v hv;simp[lcs]at hv;rcases hv with rfl|rfl|rfl|rfl<;>rfl) (by omega) ?_;intro B6 k6 w6 hown6 hc6 hb6);have HRA:=G (jX (HR9.out.below hb6) (show 1<=4 by omega) (Sl.of_own hown6));have hb8:=HB5.out.trans ((hb9.trans (hb6.mono hz9)).mono HB5.out.size);clear hown6 hb6;go_wp2_with fail;go_ret;exact⟨B6,k6,by rw[HLEN.out];rfl,by rw[<-HWL.out];exact HRA.out,hb8⟩
  ·have HWL:=G (WL.out 2 r9 rfl LK1.out (by omega))
   have hwl:wl.length=2:=by rw[<-HWL.out];simp
   have HLEN:=G hwl;clear hwl;go_wp2_with(at_builtin;refine kY _ _ 145 49 (H N 0 0) 1 24 rfl rfl underlying145 jU rfl (by decide) (by decide) rfl (m:=2) rfl (HX9.out.slT 2) rfl (by intro v hv;simp[lcs]at hv;rcases hv with rfl|rfl|rfl|rfl<;>rfl) (by omega) ?_;intro B6 k6 w6 hown6 hc6 hb6);have HRA:=G (jX (HR9.out.below hb6) (show 2<=4 by omega) (Sl.of_own hown6));have hb8:=HB5.out.trans ((hb9.trans (hb6.mono hz9)).mono HB5.out.size);clear hown6 hb6;go_wp2_with fail;go_ret;exact⟨B6,k6,by rw[HLEN.out];rfl,by rw[<-HWL.out];exact HRA.out,hb8⟩
  ·have HWL:=G (WL.out 3 r9 rfl LK1.out (by omega))
   have hwl:wl.length=3:=by rw[<-HWL.out];simp
   have HLEN:=G hwl;clear hwl;go_wp2_with(at_builtin;refine kY _ _ 145 49 (H N 0 0) 1 24 rfl rfl underlying145 jU rfl (by decide) (by decide) rfl (m:=3) rfl (HX9.out.slT 3) rfl (by intro v hv;simp[lcs]at hv;rcases hv with rfl|rfl|rfl|rfl<;>rfl) (by omega) ?_;intro B6 k6 w6 hown6 hc6 hb6);have HRA:=G (jX (HR9.out.below hb6) (show 3<=4 by omega) (Sl.of_own hown6));have hb8:=HB5.out.trans ((hb9.trans (hb6.mono hz9)).mono HB5.out.size);clear hown6 hb6;go_wp2_with fail;go_ret;exact⟨B6,k6,by rw[HLEN.out];rfl,by rw[<-HWL.out];exact HRA.out,hb8⟩
  have HWL:=G (WL.out 4 r9 rfl LK1.out (by omega));have hwl:wl.length=4:=by rw[<-HWL.out];simp
  have HLEN:=G hwl;clear hwl;go_wp2_with(at_builtin;refine kY _ _ 145 49 (H N 0 0) 1 24 rfl rfl underlying145 jU rfl (by decide) (by decide) rfl (m:=4) rfl (HX9.out.slT 4) rfl (by intro v hv;simp[lcs]at hv;rcases hv with rfl|rfl|rfl|rfl<;>rfl) (by omega) ?_;intro B6 k6 w6 hown6 hc6 hb6);have HRA:=G (jX (HR9.out.below hb6) (show 4<=4 by omega) (Sl.of_own hown6));have hb8:=HB5.out.trans ((hb9.trans (hb6.mono hz9)).mono HB5.out.size);clear hown6 hb6;go_wp2_with fail;go_ret;exact⟨B6,k6,by rw[HLEN.out];rfl,by rw[<-HWL.out];exact HRA.out,hb8⟩
end
section
open Go.RowKit
structure Found(n:Nat)(p:Nat->Bool)(i:Nat):Prop where
 le:i<=n
 lo:∀t,t<i->p t=false
 hi:∀t,i<=t->t<n->p t=true
def FI(n:Nat)(p:Nat->Bool)(w:Wv)(e:Ending)(w':Wv):Prop:=∃i:Nat,e=.returned (I J i)/\Found n p i/\By w w'
theorem uA(g:FuncId)(cb:Array Value)(n:Nat)(p:Nat->Bool)(w:Wv)(eg:∀args W,(callFunc g args).run prog W=.ok (.enter g args) W)(hbig:n<=1099511627776)
  (hf:∀(i:Nat)(W:Wv),i<n->By w W->Calls prog g (#[I J i]++cb) W (fH (p i) W)) (hm:∀a b,a<=b->b<n->p a=true->p b=true) :
  Calls prog 85 #[I J n,.func (.func g) #[] cb] w (FI n p w):=by
 have HF:=G hf;have HM:=G hm;clear hf hm;go_enter func85,ntmps85;go_wp2
 go_loopw [5,6] (fun u v wr=>∃i j:Nat,i<=j/\j<=n/\u=I J i/\v=I J j/\(∀t,t<i->p t=false)/\(∀t,j<=t->t<n->p t=true)/\By w wr)
  (fun u v _=>(intOf v).toNat-(intOf u).toNat)
 case atStart=>exact⟨0,n,Nat.zero_le _,Nat.le_refl _,rfl,rfl,fun t h=>by omega,fun t h1 h2=>by omega,Below.refl _ _⟩
 obtain⟨i,j,hij,hj,rfl,rfl,hlo,hhi,hbel⟩:=hrel;have HLO:=G hlo;have HHI:=G hhi;clear hlo hhi;by_cases hlt:i<j
 ·obtain⟨h,hh,h1,h2,h3⟩:∃h:Nat,((i:Int)+(j:Int))/2=(h:Int)/\i<=h/\h<j/\h<n:=⟨(i+j)/2,by omega,by omega,by omega,by omega⟩
  have C:=G (HF.out h wr h3 hbel);cases hp:p h with
  |true=>
   have HP:=G hp;rw[hp]at C;clear hp;go_wp2_with(go_at_fn g;refine C.out.mono ?_;rintro e w1 ⟨rfl,hb1⟩);go_roundw
   case rel=>exact⟨i,h,h1,by omega,rfl,rfl,HLO.out,fun t g1 g2=>HM.out h t g1 g2 HP.out,hbel.trans (hb1.mono hbel.size)⟩
   simp[intOf];omega
  |false=>
   have HP:=G hp;rw[hp]at C;clear hp;go_wp2_with(go_at_fn g;refine C.out.mono ?_;rintro e w1 ⟨rfl,hb1⟩);go_roundw
   case rel=>
    refine⟨h+1,j,by omega,hj,by go_num,rfl,fun t g1=>?_,HHI.out,hbel.trans (hb1.mono hbel.size)⟩;cases ht:p t with
    |false=>rfl
    |true=>have:=HM.out t h (by omega) h3 ht;rw[HP.out]at this;cases this
   simp[intOf];omega
 obtain rfl:i=j:=by omega
 go_wp2_with fail;go_ret;exact⟨i,rfl,⟨hj,HLO.out,HHI.out⟩,hbel⟩
end
section
open Go.RowKit Go.Maps Go.WideMaps
theorem VZ(A:Oa)(n a:Nat)(B:Oa)(m b:Nat)(c:Col)(i:Nat)(w:Wv)(h:aU w A n B m c)(hz:bW c)(hi:i<c.ents.length):
  Calls prog 83 #[aQ A n a B m b c,I J i] w (cA (eB c.base c.ents i) w):=by
 obtain⟨es,gs,base,second,third⟩:=c;dsimp only at *;unfold aQ;dsimp only;have HEN:=h.ents;have hnn:=h.hn;dsimp only at hnn HEN;subst hnn;obtain⟨b1,o1,rfl,hbl,hcell⟩:=HEN.at hi;obtain⟨C,cc,E,d,c1,c2,hC,hE⟩:=hcell i hi;obtain⟨z1,z2⟩:=hz.e i hi;dsimp only at z1 z2;have hnz:es.length<=1048576:=hz.n;have E1:=G (fun h=>xB (base:=base) hi h)
 have HPV:=U (0<i->∃D dd,w.cell? ⟨b1,o1+(i-1)*2,N⟩=Z (H D (es[i-1]'(by omega)).codes.length dd)/\aA w D (es[i-1]'(by omega)).codes/\(es[i-1]'(by omega)).codes.length<=1048576/\(cD base es[i]=0->(0<=aD (es[i-1]'(by omega)).codes es[i].codes->eB base es i=4)/\(¬0<=aD (es[i-1]'(by omega)).codes es[i].codes->eB base es i=0))) (fun hp=>by
  obtain⟨j,rfl⟩:∃j,i=j+1:=⟨i-1,by omega⟩
  obtain⟨D,dd,_,_,e1,_,e3,_⟩:=hcell j (by omega)
  exact⟨D,dd,e1,e3,(hz.e j (show j<es.length by omega)).1,fun hz=>⟨fun h=>xC hi hz h,fun h=>xD hi hz h⟩⟩)
 have HP0:=G (show¬0<i->cD base es[i]=0->eB base es i=0 from fun hp hz=>by
  obtain rfl:i=0:=by omega
  exact xA hi hz)
 generalize hx:es[i]=x at *;have HX:=G hx;clear hcell h hz hx HEN;have HSZ:=U (iI x ↔ (x.codes.length<1\/8<x.codes.length\/16<x.elems.length)) Iff.rfl;have hii:(i:Int)<(es.length:Int):=by omega
 have B0:By w ((w.alloc (.cells #[H (Z ⟨b1,o1,N⟩) es.length a,H B m b,I J base,I J second,I J third] 32)).alloc (.cells #[H C x.codes.length cc,H E x.elems.length d] 109)):=(ba _ _).alloc (by simp) _;by_cases hsz:x.codes.length<1\/8<x.codes.length\/16<x.elems.length
 ·have HQ:=G ((E1.out (by rw[rZ (base:=base) (HSZ.out.2 hsz)];simp)).trans (rZ (base:=base) (HSZ.out.2 hsz)))
  generalize eB base es i=R at *;clear HPV HP0 E1;obtain hsz|⟨g1,hsz⟩|⟨g1,g2,hsz⟩:x.codes.length<1\/(¬x.codes.length<1/\8<x.codes.length)\/(¬x.codes.length<1/\¬8<x.codes.length/\16<x.elems.length):=by omega
  all_goals
   go_enter func83,ntmps83;go_wp2;go_ret;exact⟨aE HQ.out.symm,B0⟩
 have HSZN:=G (fun h=>hsz (HSZ.out.1 h));have y1:¬x.codes.length<1:=by omega
 have y2:¬8<x.codes.length:=by omega
 have y3:¬16<x.elems.length:=by omega
 clear hsz HSZ;go_enter func83,ntmps83;go_wp2;have s0:((w.alloc (.cells #[H (Z ⟨b1,o1,N⟩) es.length a,H B m b,I J base,I J second,I J third] 32)).alloc (.cells #[H C x.codes.length cc,H E x.elems.length d] 109)).heap.size=w.heap.size+2:=by simp
 have k0:((w.alloc (.cells #[H (Z ⟨b1,o1,N⟩) es.length a,H B m b,I J base,I J second,I J third] 32)).alloc (.cells #[H C x.codes.length cc,H E x.elems.length d] 109)).cell? ⟨w.heap.size,0,N⟩=Z (H (Z ⟨b1,o1,N⟩) es.length a):=by simp
 have k2:((w.alloc (.cells #[H (Z ⟨b1,o1,N⟩) es.length a,H B m b,I J base,I J second,I J third] 32)).alloc (.cells #[H C x.codes.length cc,H E x.elems.length d] 109)).cell? ⟨w.heap.size,2,N⟩=Z (I J base):=by simp
 have l0:((w.alloc (.cells #[H (Z ⟨b1,o1,N⟩) es.length a,H B m b,I J base,I J second,I J third] 32)).alloc (.cells #[H C x.codes.length cc,H E x.elems.length d] 109)).cell? ⟨w.heap.size+1,0,N⟩=Z (H C x.codes.length cc):=by simp
 have l1:((w.alloc (.cells #[H (Z ⟨b1,o1,N⟩) es.length a,H B m b,I J base,I J second,I J third] 32)).alloc (.cells #[H C x.codes.length cc,H E x.elems.length d] 109)).cell? ⟨w.heap.size+1,1,N⟩=Z (H E x.elems.length d):=by simp
 obtain⟨W0,hW0⟩:∃W0,(w.alloc (.cells #[H (Z ⟨b1,o1,N⟩) es.length a,H B m b,I J base,I J second,I J third] 32)).alloc (.cells #[H C x.codes.length cc,H E x.elems.length d] 109)=W0:=⟨_,rfl⟩;rw[hW0]at B0 s0 k0 k2 l0 l1|-;clear hW0;have HC0:=G (hC.below B0);have HE0:=G (hE.below B0);have K:=G (And.intro k0 (And.intro k2 (And.intro l0 l1)));have hx0:w.heap.size<W0.heap.size:=by omega
 have hx1:w.heap.size+1<W0.heap.size:=by omega
 clear hC hE k0 k2 l0 l1 s0 c1 c2;go_loop [6] (fun u=>∃i:Nat,i<=x.codes.length/\u=I J i/\(∀t,(ht:t<x.codes.length)->t<i->inR 0 1114111 x.codes[t]=true)) (fun u=>x.codes.length-(intOf u).toNat)
 case atStart=>exact⟨0,Nat.zero_le _,rfl,fun t _ h=>by omega⟩
 obtain⟨k,hk,rfl,g1⟩:=hrel;have G1:=G g1;clear g1;have l0:=K.out.2.2.1;by_cases hlt:k<x.codes.length
 ·obtain⟨b2,o2,rfl,hcell⟩:=HC0.out.at hlt
  have c1:=hcell k hlt;have HB:=G (fun h=>wZ (base:=base) HSZN.out hlt h);have HN:=G (fun h=>cW (P:=fun c=>inR 0 1114111 c=true) hlt G1.out h);clear hcell;generalize x.codes[k]=cd at *;go_wp2_with fail;refine(fW cd _).mono ?_;rintro e w1 ⟨rfl,rfl⟩;cases hv:inR 0 1114111 cd
  ·have HQ:=G ((E1.out (by rw[HB.out hv];simp)).trans (HB.out hv))
   go_wp2_with fail;go_ret;exact⟨aE HQ.out.symm,B0⟩
  have HQ:=G (HN.out hv);go_wp2_with fail;go_round
  case rel=>exact⟨k+1,by omega,by go_num,HQ.out⟩
  simp[intOf];omega
 have G1':=G (fun t(ht:t<x.codes.length)=>G1.out t ht (by omega));clear G1;go_wp2;clear l0;go_loopw [7,8] (fun u _ wr=>∃i:Nat,i<=x.elems.length/\u=I J i/\(∀t,(ht:t<x.elems.length)->t<i->dS x.elems[t]=0)/\By W0 wr) (fun u _ _=>x.elems.length-(intOf u).toNat)
 case atStart=>exact⟨0,Nat.zero_le _,rfl,fun t _ h=>by omega,Below.refl _ _⟩
 obtain⟨k,hk,rfl,g2,hb⟩:=hrel;have G2:=G g2;clear g2;have l1:=(hb.cell (p:=⟨w.heap.size+1,1,N⟩) hx1).trans K.out.2.2.2;by_cases hlt:k<x.elems.length
 ·obtain⟨b2,o2,rfl,hbl2,hcell⟩:=(HE0.out.below hb).at hlt
  obtain⟨c1,c2,c3,c4⟩:=hcell k hlt;have HB:=G (fun h=>w_ (base:=base) HSZN.out G1'.out hlt G2.out h);have HN:=G (fun h=>cW (P:=fun e=>dS e=0) hlt G2.out h);have CE:=G (fun W=>VY x.elems[k] W);clear hcell;generalize dS x.elems[k]=ev at *;generalize x.elems[k].p=p at *;generalize x.elems[k].s=s at *;generalize x.elems[k].t=t at *;generalize x.elems[k].v=v at *;go_wp2_with fail;refine(CE.out _).mono ?_;rintro e w1 ⟨rfl,hb1⟩;have hb2:=hb.trans (hb1.mono hb.size);clear hb1 c1 c2 c3 c4;by_cases hev:ev=0
  ·have q1:(ev !=0)=false:=by simpa using hev
   have HQ:=G (HN.out hev);clear hev HB HN;go_wp2_with fail;go_roundw
   case rel=>exact⟨k+1,by omega,by go_num,HQ.out,hb2⟩
   simp[intOf];omega
  have q1:(ev !=0)=true:=by simpa using hev
  have HQ:=G ((E1.out (by rw[HB.out hev];exact hev)).trans (HB.out hev));clear hev HB HN;go_wp2_with fail;go_ret;exact⟨aE HQ.out.symm,B0.trans (hb2.mono B0.size)⟩
 have G2':=G (fun t(ht:t<x.elems.length)=>G2.out t ht (by omega));clear G2;go_wp2;clear l1;go_loopw [9] (fun u wr=>∃i:Nat,i<=x.elems.length/\u=I J i/\(∀t,(ht:t<x.elems.length)->t<i->¬base<=x.elems[t].p)/\By W0 wr) (fun u _=>x.elems.length-(intOf u).toNat)
 case atStart=>exact⟨0,Nat.zero_le _,rfl,fun t _ h=>by omega,hb⟩
 obtain⟨k,hk,rfl,g3,hb⟩:=hrel;have G3:=G g3;clear g3;have l1:=(hb.cell (p:=⟨w.heap.size+1,1,N⟩) hx1).trans K.out.2.2.2;have l0:=(hb.cell (p:=⟨w.heap.size+1,0,N⟩) hx1).trans K.out.2.2.1;have k0:=(hb.cell (p:=⟨w.heap.size,0,N⟩) hx0).trans K.out.1;have k2:=(hb.cell (p:=⟨w.heap.size,2,N⟩) hx0).trans K.out.2.1;by_cases hlt:k<x.elems.length
 ·obtain⟨b2,o2,rfl,hbl2,hcell⟩:=(HE0.out.below hb).at hlt
  have c1:=(hcell k hlt).1;have HB:=G (fun h=>xE (base:=base) HSZN.out G1'.out G2'.out hlt h);have HN:=G (fun h=>cW (P:=fun e=>¬base<=e.p) hlt G3.out h);have i1:(k:Int)<(x.elems.length:Int):=by omega
  clear hcell;generalize x.elems[k].p=p at *;by_cases hev:base<=p
  ·have q1:decide (base<=p)=true:=by simpa using hev
   have HQ:=G ((E1.out (by rw[HB.out hev];simp)).trans (HB.out hev));clear HB HN hev;go_wp2_with fail;go_quiet(fail);go_wp2_with fail;go_ret;exact⟨aE HQ.out.symm,B0.trans ((bP hb _).mono B0.size)⟩
  have q1:decide (base<=p)=false:=by simpa using hev
  have HQ:=G (HN.out hev);clear HB HN hev;go_wp2_with fail;go_quiet(fail);go_wp2_with fail;go_roundw
  case rel=>exact⟨k+1,by omega,by go_num,(fun t ht h9=>by have:=HQ.out t ht h9;omega),bP hb _⟩
  simp[intOf];omega
 have HZ:=wY (base:=base) HSZN.out G1'.out G2'.out (fun t ht=>G3.out t ht (by omega));have HCx:=HC0.out.below hb;by_cases hp:0<i
 ·obtain⟨D,dd,d1,hD,z3,hcmp⟩:=HPV.out hp
  have HCMP:=G (hcmp HZ);have hD':=(hD.below B0).below hb;have d1':=(hb.cell (p:=⟨b1,o1+(i-1)*2,N⟩) (by have:=World.block_lt_of_cell? w _ d1;have:=B0.size;simp at *;omega)).trans ((B0.cell (p:=⟨b1,o1+(i-1)*2,N⟩) (World.block_lt_of_cell? w _ d1)).trans d1);have CC:=G (fun n=>qN D C _ _ dd cc _ x.codes (wr.drewN n) (Sl.drewN hD' n) (Sl.drewN HCx n) rfl rfl (by omega) (by omega));clear hcmp E1 HPV HP0 hD d1 hD' HCx HZ;generalize (es[i-1]'(by omega)).codes=pcs at *;generalize aD pcs x.codes=cv at *;generalize eB base es i=R at *;have i1:(0:Int)<=(i:Int)-1:=by omega
  have i2:(i:Int)-1<(es.length:Int):=by omega
  have i3:((i:Int)-1).toNat=i-1:=by omega
  have w1:IntKind.i64.wrap ((i:Int)-1)=(i:Int)-1:=IntWalk.i64_in _ (by omega);by_cases hcv:0<=cv
  ·have q9:decide (0<=cv)=true:=by simpa using hcv
   have HV:=G (HCMP.out.1 (by omega));clear hcv HCMP;go_wp2_with fail;go_quiet((go_at_call 49;exact pV (CC.out _)));clear i3 w1;go_wp2_with fail;go_ret;exact⟨aE HV.out.symm,B0.trans ((bP hb _).mono B0.size)⟩
  have q9:decide (0<=cv)=false:=by simpa using hcv
  have HV:=G (HCMP.out.2 (by omega));clear hcv HCMP;go_wp2_with fail;go_quiet((go_at_call 49;exact pV (CC.out _)));clear i3 w1;go_wp2_with fail;go_ret;exact⟨aE HV.out.symm,B0.trans ((bP hb _).mono B0.size)⟩
 have hp0:decide ((0:Int)<(i:Int))=false:=by simp;omega
 have HV:=G (HP0.out hp HZ);clear E1 HPV HP0 HZ HCx;generalize eB base es i=R at *;go_wp2_with fail;go_quiet(fail);go_wp2_with fail;go_ret;exact⟨aE HV.out.symm,B0.trans ((bP hb _).mono B0.size)⟩
theorem tX(A:Oa)(n a:Nat)(B:Oa)(m b:Nat)(c:Col)(w:Wv)(h:aU w A n B m c)(hz:bW c):
  Calls prog 41 #[aQ A n a B m b c] w (cA (aW c) w):=by
 have B0:By w (w.alloc (.cells #[H A n a,H B m b,I J c.base,I J c.second,I J c.third] 32)):=ba _ _;have H1:=G (wL (c:=c));have HG:=G (wN (c:=c));have HE:=G (wM (c:=c));have CG:=G (fun W(hb:By w W)(h65:c.base<=65502)=>V_ A n a B m b c W (h.below hb) h65 (by rw[<-h.hm];exact hz.m));have CE:=G (fun W i(hb:By w W)(hi:i<c.ents.length)=>VZ A n a B m b c i W (h.below hb) hz hi);obtain⟨es,gs,base,second,third⟩:=c;dsimp only at *;unfold aQ at *;dsimp only at *;have CI:=G zAF;have hnn:=h.hn;have hnz:es.length<=1048576:=hz.n;dsimp only at hnn;subst hnn;clear h hz;by_cases q1:base<1
 ·have HQ:=G (H1.out (.inl q1))
  go_enter func41,ntmps41;go_wp2_with fail;go_ret;exact⟨aE HQ.out.symm,B0⟩
 by_cases q2:65502<base
 ·have HQ:=G (H1.out (.inr (.inl q2)))
  go_enter func41,ntmps41;go_wp2_with fail;go_ret;exact⟨aE HQ.out.symm,B0⟩
 cases q3:inR 1 65535 second
 ·have HQ:=G (H1.out (.inr (.inr (.inl q3))))
  go_enter func41,ntmps41;go_wp2_with fail;refine(CI.out second _).mono ?_;rw[q3];rintro e w' ⟨rfl,rfl⟩;go_wp2_with fail;go_ret;exact⟨aE HQ.out.symm,B0⟩
 cases q4:inR 1 65535 third
 ·have HQ:=G (H1.out (.inr (.inr (.inr q4))))
  go_enter func41,ntmps41;go_wp2_with fail;refine(CI.out second _).mono ?_;rw[q3];rintro e w' ⟨rfl,rfl⟩;go_wp2_with fail;refine(CI.out third _).mono ?_;rw[q4];rintro e w' ⟨rfl,rfl⟩;go_wp2_with fail;go_ret;exact⟨aE HQ.out.symm,B0⟩
 have hno:¬(base<1\/65502<base\/inR 1 65535 second=false\/inR 1 65535 third=false):=by rw[q3,q4];simp;omega
 have HG':=G (HG.out hno);have HE':=G (HE.out hno);clear HG HE H1 hno;go_enter func41,ntmps41;go_wp2_with fail;refine(CI.out second _).mono ?_;rw[q3];rintro e w' ⟨rfl,rfl⟩;go_wp2_with fail;refine(CI.out third _).mono ?_;rw[q4];rintro e w' ⟨rfl,rfl⟩;go_wp2_with fail;have s0:(w.alloc (.cells #[H A es.length a,H B m b,I J base,I J second,I J third] 32)).heap.size=w.heap.size+1:=by simp
 have k0:(w.alloc (.cells #[H A es.length a,H B m b,I J base,I J second,I J third] 32)).cell? ⟨w.heap.size,0,N⟩=Z (H A es.length a):=by simp
 have k1:(w.alloc (.cells #[H A es.length a,H B m b,I J base,I J second,I J third] 32)).cell? ⟨w.heap.size,1,N⟩=Z (H B m b):=by simp
 have k2:(w.alloc (.cells #[H A es.length a,H B m b,I J base,I J second,I J third] 32)).cell? ⟨w.heap.size,2,N⟩=Z (I J base):=by simp
 have k3:(w.alloc (.cells #[H A es.length a,H B m b,I J base,I J second,I J third] 32)).cell? ⟨w.heap.size,3,N⟩=Z (I J second):=by simp
 have k4:(w.alloc (.cells #[H A es.length a,H B m b,I J base,I J second,I J third] 32)).cell? ⟨w.heap.size,4,N⟩=Z (I J third):=by simp
 obtain⟨W0,hW0⟩:∃W0,w.alloc (.cells #[H A es.length a,H B m b,I J base,I J second,I J third] 32)=W0:=⟨_,rfl⟩;rw[hW0]at B0 s0 k0 k1 k2 k3 k4|-;clear hW0;have K:=G (And.intro k0 (And.intro k1 (And.intro k2 (And.intro k3 k4))));have hx0:w.heap.size<W0.heap.size:=by omega
 clear k0 k1 k2 k3 k4 s0 q3 q4 CI;refine(CG.out W0 B0 (by omega)).mono ?_;rintro e W1 ⟨rfl,hb1⟩;clear CG;by_cases hgz:dI base gs=0
 ·have g1:(dI base gs !=0)=false:=by simpa using hgz
  have HQ:=G (HE'.out hgz);clear hgz HG' HE';generalize dI base gs=ge at *;generalize aW ⟨es,gs,base,second,third⟩=R at *;go_wp2_with fail;go_loopw [4,5] (fun u _ wr=>∃i:Nat,i<=es.length/\u=I J i/\eW base es N=eW base (es.drop i) (iU es i)/\By W0 wr) (fun u _ _=>es.length-(intOf u).toNat)
  case atStart=>exact⟨0,Nat.zero_le _,rfl,rfl,hb1⟩
  obtain⟨i,hi,rfl,hen,hb⟩:=hrel;have HEE:=G hen;clear hen hb1;have f0:=(hb.cell (p:=⟨w.heap.size,0,N⟩) hx0).trans K.out.1;by_cases hlt:i<es.length
  ·have f1:=(hb.cell (p:=⟨w.heap.size,1,N⟩) hx0).trans K.out.2.1
   have f2:=(hb.cell (p:=⟨w.heap.size,2,N⟩) hx0).trans K.out.2.2.1;have f3:=(hb.cell (p:=⟨w.heap.size,3,N⟩) hx0).trans K.out.2.2.2.1;have f4:=(hb.cell (p:=⟨w.heap.size,4,N⟩) hx0).trans K.out.2.2.2.2;have ST:=G (xH base es i hlt);have CEi:=G (CE.out wr i (B0.trans (hb.mono B0.size)) hlt);generalize eB base es i=ev at *;go_wp2_with fail;refine CEi.out.mono ?_;rintro e w3 ⟨rfl,hb3⟩;have hb4:=hb.trans (hb3.mono hb.size);clear hb3 f0 f1 f2 f3 f4 CEi;by_cases hev:ev=0
   ·have e1:(ev !=0)=false:=by simpa using hev
    have HV:=G hev;clear hev;go_wp2_with fail;go_roundw
    case rel=>exact⟨i+1,by omega,by go_num,by rw[HEE.out,ST.out,HV.out];rfl,hb4⟩
    simp[intOf];omega
   have e1:(ev !=0)=true:=by simpa using hev
   have HV:=G hev;clear hev;go_wp2_with fail;go_ret;exact⟨aE (by rw[HQ.out,HEE.out,ST.out,if_pos HV.out]),B0.trans (hb4.mono B0.size)⟩
  have HF:=G (xF base es i (by omega));go_wp2;go_ret;exact⟨aE (by rw[HQ.out,HEE.out,HF.out]),B0.trans (hb.mono B0.size)⟩
 have g1:(dI base gs !=0)=true:=by simpa using hgz
 have HQ:=G (HG'.out hgz);clear hgz HG' HE';generalize dI base gs=ge at *;go_wp2_with fail;go_ret;exact⟨aE HQ.out.symm,B0.trans (hb1.mono B0.size)⟩
def iE(zs:Li):Li:=(zs.length:Int)::(zs++List.replicate (8-zs.length) 0)
def kO(zs:Li):Value:=.agg ((iE zs).map (Value.int .i64)).toArray
def jO(zs:Li)(w:Wv)(e:Ending)(w':Wv):Prop:=e=.returned (kO zs)/\By w w'
theorem kN:(prog.info? 3).map (·.size)=Z 1:=by kernel_rfl
theorem kS(tmps:Array Value)(w:Wv){b:Nat}{z0 z1 z2 z3 z4 z5 z6 z7 z8:Int}(ha:tmps.getD 2 undef=.pointer (Z ⟨b,0,N⟩))
  (c0:w.cell? ⟨b,0,N⟩=Z (I J z0)) (c1:w.cell? ⟨b,1,N⟩=Z (I J z1)) (c2:w.cell? ⟨b,2,N⟩=Z (I J z2)) (c3:w.cell? ⟨b,3,N⟩=Z (I J z3)) (c4:w.cell? ⟨b,4,N⟩=Z (I J z4)) (c5:w.cell? ⟨b,5,N⟩=Z (I J z5)) (c6:w.cell? ⟨b,6,N⟩=Z (I J z6)) (c7:w.cell? ⟨b,7,N⟩=Z (I J z7)) (c8:w.cell? ⟨b,8,N⟩=Z (I J z8)) :
  (results f167 tmps).run prog w=.ok (.agg #[I J z0,I J z1,I J z2,I J z3,I J z4,I J z5,I J z6,I J z7,I J z8]) w:=by
 have hr:f167.results=#[.cell 2 215]:=rfl;unfold results;rw[hr];simp only[ha,List.mapM_toArray,List.mapM_cons,List.mapM_nil,asAddr];go_simp
theorem PO(A:Oa)(kc:Nat)(a0:Int)(w:Wv)(hA:aA w A [a0]):Calls prog 167 #[H A 1 kc] w (jO [a0] w):=by
 obtain⟨b,o,rfl,hc⟩:=hA.at (k:=0) (by simp);have hs:=fun(W:Wv)=>run_copy_cells (P:=prog) W 49 49 3 3 (w.heap.size+1) 1 8 8 ⟨b,o,N⟩ 1 kc [I J a0] underlying49 kN rfl
 have hI:aA ((w.alloc (.cells #[I J 0,I J 0,I J 0,I J 0,I J 0,I J 0,I J 0,I J 0,I J 0] 215)).alloc (.cells #[I J 1,I J 0,I J 0,I J 0,I J 0,I J 0,I J 0,I J 0,I J 0] 215)) (Z ⟨b,o,N⟩) [a0]:=Sl.alloc (Sl.alloc hA _) _
 have hcp:=hs _ (fun j v hv=>by
  obtain⟨b',o',h1,h2⟩:=hI (by simp)
  injection h1 with h1
  injection h1 with h1 h3
  subst h1;subst h3
  have:=h2 j v (by simpa using hv)
  unfold Addr.add
  split
  ·next h0=>subst h0;simpa using this
  ·exact this) (fun j hj=>by
   have:j<8:=by simp at hj;omega
   rcases j with _|_|_|_|_|_|_|_|j<;>first|(simp;done)|omega) (fun j hj=>by simp) (aR [a0])
 simp only[World.setCells,goInt]at hcp;clear hs hI hc;go_enter func167,ntmps167;go_wp2_with fail;(try simp only[Exit.inBlock,Exit.then]);refine bodyPost_ret (kS _ _ (b:=w.heap.size) (z0:=1) (z1:=a0) (z2:=0) (z3:=0) (z4:=0) (z5:=0) (z6:=0) (z7:=0) (z8:=0) rfl (by go_simp) (by go_simp) (by go_simp) (by go_simp) (by go_simp) (by go_simp) (by go_simp) (by go_simp) (by go_simp)) rfl ?_;exact⟨rfl,(ba _ _).alloc (by simp) _⟩
theorem PQ(A:Oa)(kc:Nat)(a0 a1:Int)(w:Wv)(hA:aA w A [a0,a1]):Calls prog 167 #[H A 2 kc] w (jO [a0,a1] w):=by
 obtain⟨b,o,rfl,hc⟩:=hA.at (k:=0) (by simp);have hs:=fun(W:Wv)=>run_copy_cells (P:=prog) W 49 49 3 3 (w.heap.size+1) 1 8 8 ⟨b,o,N⟩ 2 kc [I J a0,I J a1] underlying49 kN rfl
 have hI:aA ((w.alloc (.cells #[I J 0,I J 0,I J 0,I J 0,I J 0,I J 0,I J 0,I J 0,I J 0] 215)).alloc (.cells #[I J 2,I J 0,I J 0,I J 0,I J 0,I J 0,I J 0,I J 0,I J 0] 215)) (Z ⟨b,o,N⟩) [a0,a1]:=Sl.alloc (Sl.alloc hA _) _
 have hcp:=hs _ (fun j v hv=>by
  obtain⟨b',o',h1,h2⟩:=hI (by simp)
  injection h1 with h1
  injection h1 with h1 h3
  subst h1;subst h3
  have:=h2 j v (by simpa using hv)
  unfold Addr.add
  split
  ·next h0=>subst h0;simpa using this
  ·exact this) (fun j hj=>by
   have:j<8:=by simp at hj;omega
   rcases j with _|_|_|_|_|_|_|_|j<;>first|(simp;done)|omega) (fun j hj=>by simp) (aR [a0,a1])
 simp only[World.setCells,goInt]at hcp;clear hs hI hc;go_enter func167,ntmps167;go_wp2_with fail;(try simp only[Exit.inBlock,Exit.then]);refine bodyPost_ret (kS _ _ (b:=w.heap.size) (z0:=2) (z1:=a0) (z2:=a1) (z3:=0) (z4:=0) (z5:=0) (z6:=0) (z7:=0) (z8:=0) rfl (by go_simp) (by go_simp) (by go_simp) (by go_simp) (by go_simp) (by go_simp) (by go_simp) (by go_simp) (by go_simp)) rfl ?_;exact⟨rfl,(ba _ _).alloc (by simp) _⟩
theorem PR(A:Oa)(kc:Nat)(a0 a1 a2:Int)(w:Wv)(hA:aA w A [a0,a1,a2]):Calls prog 167 #[H A 3 kc] w (jO [a0,a1,a2] w):=by
 obtain⟨b,o,rfl,hc⟩:=hA.at (k:=0) (by simp);have hs:=fun(W:Wv)=>run_copy_cells (P:=prog) W 49 49 3 3 (w.heap.size+1) 1 8 8 ⟨b,o,N⟩ 3 kc [I J a0,I J a1,I J a2] underlying49 kN rfl
 have hI:aA ((w.alloc (.cells #[I J 0,I J 0,I J 0,I J 0,I J 0,I J 0,I J 0,I J 0,I J 0] 215)).alloc (.cells #[I J 3,I J 0,I J 0,I J 0,I J 0,I J 0,I J 0,I J 0,I J 0] 215)) (Z ⟨b,o,N⟩) [a0,a1,a2]:=Sl.alloc (Sl.alloc hA _) _
 have hcp:=hs _ (fun j v hv=>by
  obtain⟨b',o',h1,h2⟩:=hI (by simp)
  injection h1 with h1
  injection h1 with h1 h3
  subst h1;subst h3
  have:=h2 j v (by simpa using hv)
  unfold Addr.add
  split
  ·next h0=>subst h0;simpa using this
  ·exact this) (fun j hj=>by
   have:j<8:=by simp at hj;omega
   rcases j with _|_|_|_|_|_|_|_|j<;>first|(simp;done)|omega) (fun j hj=>by simp) (aR [a0,a1,a2])
 simp only[World.setCells,goInt]at hcp;clear hs hI hc;go_enter func167,ntmps167;go_wp2_with fail;(try simp only[Exit.inBlock,Exit.then]);refine bodyPost_ret (kS _ _ (b:=w.heap.size) (z0:=3) (z1:=a0) (z2:=a1) (z3:=a2) (z4:=0) (z5:=0) (z6:=0) (z7:=0) (z8:=0) rfl (by go_simp) (by go_simp) (by go_simp) (by go_simp) (by go_simp) (by go_simp) (by go_simp) (by go_simp) (by go_simp)) rfl ?_;exact⟨rfl,(ba _ _).alloc (by simp) _⟩
theorem PU(A:Oa)(kc:Nat)(a0 a1 a2 a3:Int)(w:Wv)(hA:aA w A [a0,a1,a2,a3]):Calls prog 167 #[H A 4 kc] w (jO [a0,a1,a2,a3] w):=by
 obtain⟨b,o,rfl,hc⟩:=hA.at (k:=0) (by simp);have hs:=fun(W:Wv)=>run_copy_cells (P:=prog) W 49 49 3 3 (w.heap.size+1) 1 8 8 ⟨b,o,N⟩ 4 kc [I J a0,I J a1,I J a2,I J a3] underlying49 kN rfl
 have hI:aA ((w.alloc (.cells #[I J 0,I J 0,I J 0,I J 0,I J 0,I J 0,I J 0,I J 0,I J 0] 215)).alloc (.cells #[I J 4,I J 0,I J 0,I J 0,I J 0,I J 0,I J 0,I J 0,I J 0] 215)) (Z ⟨b,o,N⟩) [a0,a1,a2,a3]:=Sl.alloc (Sl.alloc hA _) _
 have hcp:=hs _ (fun j v hv=>by
  obtain⟨b',o',h1,h2⟩:=hI (by simp)
  injection h1 with h1
  injection h1 with h1 h3
  subst h1;subst h3
  have:=h2 j v (by simpa using hv)
  unfold Addr.add
  split
  ·next h0=>subst h0;simpa using this
  ·exact this) (fun j hj=>by
   have:j<8:=by simp at hj;omega
   rcases j with _|_|_|_|_|_|_|_|j<;>first|(simp;done)|omega) (fun j hj=>by simp) (aR [a0,a1,a2,a3])
 simp only[World.setCells,goInt]at hcp;clear hs hI hc;go_enter func167,ntmps167;go_wp2_with fail;(try simp only[Exit.inBlock,Exit.then]);refine bodyPost_ret (kS _ _ (b:=w.heap.size) (z0:=4) (z1:=a0) (z2:=a1) (z3:=a2) (z4:=a3) (z5:=0) (z6:=0) (z7:=0) (z8:=0) rfl (by go_simp) (by go_simp) (by go_simp) (by go_simp) (by go_simp) (by go_simp) (by go_simp) (by go_simp) (by go_simp)) rfl ?_;exact⟨rfl,(ba _ _).alloc (by simp) _⟩
theorem PV(A:Oa)(kc:Nat)(a0 a1 a2 a3 a4:Int)(w:Wv)(hA:aA w A [a0,a1,a2,a3,a4]):Calls prog 167 #[H A 5 kc] w (jO [a0,a1,a2,a3,a4] w):=by
 obtain⟨b,o,rfl,hc⟩:=hA.at (k:=0) (by simp);have hs:=fun(W:Wv)=>run_copy_cells (P:=prog) W 49 49 3 3 (w.heap.size+1) 1 8 8 ⟨b,o,N⟩ 5 kc [I J a0,I J a1,I J a2,I J a3,I J a4] underlying49 kN rfl
 have hI:aA ((w.alloc (.cells #[I J 0,I J 0,I J 0,I J 0,I J 0,I J 0,I J 0,I J 0,I J 0] 215)).alloc (.cells #[I J 5,I J 0,I J 0,I J 0,I J 0,I J 0,I J 0,I J 0,I J 0] 215)) (Z ⟨b,o,N⟩) [a0,a1,a2,a3,a4]:=Sl.alloc (Sl.alloc hA _) _
 have hcp:=hs _ (fun j v hv=>by
  obtain⟨b',o',h1,h2⟩:=hI (by simp)
  injection h1 with h1
  injection h1 with h1 h3
  subst h1;subst h3
  have:=h2 j v (by simpa using hv)
  unfold Addr.add
  split
  ·next h0=>subst h0;simpa using this
  ·exact this) (fun j hj=>by
   have:j<8:=by simp at hj;omega
   rcases j with _|_|_|_|_|_|_|_|j<;>first|(simp;done)|omega) (fun j hj=>by simp) (aR [a0,a1,a2,a3,a4])
 simp only[World.setCells,goInt]at hcp;clear hs hI hc;go_enter func167,ntmps167;go_wp2_with fail;(try simp only[Exit.inBlock,Exit.then]);refine bodyPost_ret (kS _ _ (b:=w.heap.size) (z0:=5) (z1:=a0) (z2:=a1) (z3:=a2) (z4:=a3) (z5:=a4) (z6:=0) (z7:=0) (z8:=0) rfl (by go_simp) (by go_simp) (by go_simp) (by go_simp) (by go_simp) (by go_simp) (by go_simp) (by go_simp) (by go_simp)) rfl ?_;exact⟨rfl,(ba _ _).alloc (by simp) _⟩
theorem PW(A:Oa)(kc:Nat)(a0 a1 a2 a3 a4 a5:Int)(w:Wv)(hA:aA w A [a0,a1,a2,a3,a4,a5]):Calls prog 167 #[H A 6 kc] w (jO [a0,a1,a2,a3,a4,a5] w):=by
 obtain⟨b,o,rfl,hc⟩:=hA.at (k:=0) (by simp);have hs:=fun(W:Wv)=>run_copy_cells (P:=prog) W 49 49 3 3 (w.heap.size+1) 1 8 8 ⟨b,o,N⟩ 6 kc [I J a0,I J a1,I J a2,I J a3,I J a4,I J a5] underlying49 kN rfl
 have hI:aA ((w.alloc (.cells #[I J 0,I J 0,I J 0,I J 0,I J 0,I J 0,I J 0,I J 0,I J 0] 215)).alloc (.cells #[I J 6,I J 0,I J 0,I J 0,I J 0,I J 0,I J 0,I J 0,I J 0] 215)) (Z ⟨b,o,N⟩) [a0,a1,a2,a3,a4,a5]:=Sl.alloc (Sl.alloc hA _) _
 have hcp:=hs _ (fun j v hv=>by
  obtain⟨b',o',h1,h2⟩:=hI (by simp)
  injection h1 with h1
  injection h1 with h1 h3
  subst h1;subst h3
  have:=h2 j v (by simpa using hv)
  unfold Addr.add
  split
  ·next h0=>subst h0;simpa using this
  ·exact this) (fun j hj=>by
   have:j<8:=by simp at hj;omega
   rcases j with _|_|_|_|_|_|_|_|j<;>first|(simp;done)|omega) (fun j hj=>by simp) (aR [a0,a1,a2,a3,a4,a5])
 simp only[World.setCells,goInt]at hcp;clear hs hI hc;go_enter func167,ntmps167;go_wp2_with fail;(try simp only[Exit.inBlock,Exit.then]);refine bodyPost_ret (kS _ _ (b:=w.heap.size) (z0:=6) (z1:=a0) (z2:=a1) (z3:=a2) (z4:=a3) (z5:=a4) (z6:=a5) (z7:=0) (z8:=0) rfl (by go_simp) (by go_simp) (by go_simp) (by go_simp) (by go_simp) (by go_simp) (by go_simp) (by go_simp) (by go_simp)) rfl ?_;exact⟨rfl,(ba _ _).alloc (by simp) _⟩
theorem PX(A:Oa)(kc:Nat)(a0 a1 a2 a3 a4 a5 a6:Int)(w:Wv)(hA:aA w A [a0,a1,a2,a3,a4,a5,a6]):Calls prog 167 #[H A 7 kc] w (jO [a0,a1,a2,a3,a4,a5,a6] w):=by
 obtain⟨b,o,rfl,hc⟩:=hA.at (k:=0) (by simp);have hs:=fun(W:Wv)=>run_copy_cells (P:=prog) W 49 49 3 3 (w.heap.size+1) 1 8 8 ⟨b,o,N⟩ 7 kc [I J a0,I J a1,I J a2,I J a3,I J a4,I J a5,I J a6] underlying49 kN rfl
 have hI:aA ((w.alloc (.cells #[I J 0,I J 0,I J 0,I J 0,I J 0,I J 0,I J 0,I J 0,I J 0] 215)).alloc (.cells #[I J 7,I J 0,I J 0,I J 0,I J 0,I J 0,I J 0,I J 0,I J 0] 215)) (Z ⟨b,o,N⟩) [a0,a1,a2,a3,a4,a5,a6]:=Sl.alloc (Sl.alloc hA _) _
 have hcp:=hs _ (fun j v hv=>by
  obtain⟨b',o',h1,h2⟩:=hI (by simp)
  injection h1 with h1
  injection h1 with h1 h3
  subst h1;subst h3
  have:=h2 j v (by simpa using hv)
  unfold Addr.add
  split
  ·next h0=>subst h0;simpa using this
  ·exact this) (fun j hj=>by
   have:j<8:=by simp at hj;omega
   rcases j with _|_|_|_|_|_|_|_|j<;>first|(simp;done)|omega) (fun j hj=>by simp) (aR [a0,a1,a2,a3,a4,a5,a6])
 simp only[World.setCells,goInt]at hcp;clear hs hI hc;go_enter func167,ntmps167;go_wp2_with fail;(try simp only[Exit.inBlock,Exit.then]);refine bodyPost_ret (kS _ _ (b:=w.heap.size) (z0:=7) (z1:=a0) (z2:=a1) (z3:=a2) (z4:=a3) (z5:=a4) (z6:=a5) (z7:=a6) (z8:=0) rfl (by go_simp) (by go_simp) (by go_simp) (by go_simp) (by go_simp) (by go_simp) (by go_simp) (by go_simp) (by go_simp)) rfl ?_;exact⟨rfl,(ba _ _).alloc (by simp) _⟩
theorem PY(A:Oa)(kc:Nat)(a0 a1 a2 a3 a4 a5 a6 a7:Int)(w:Wv)(hA:aA w A [a0,a1,a2,a3,a4,a5,a6,a7]):Calls prog 167 #[H A 8 kc] w (jO [a0,a1,a2,a3,a4,a5,a6,a7] w):=by
 obtain⟨b,o,rfl,hc⟩:=hA.at (k:=0) (by simp);have hs:=fun(W:Wv)=>run_copy_cells (P:=prog) W 49 49 3 3 (w.heap.size+1) 1 8 8 ⟨b,o,N⟩ 8 kc [I J a0,I J a1,I J a2,I J a3,I J a4,I J a5,I J a6,I J a7] underlying49 kN rfl
 have hI:aA ((w.alloc (.cells #[I J 0,I J 0,I J 0,I J 0,I J 0,I J 0,I J 0,I J 0,I J 0] 215)).alloc (.cells #[I J 8,I J 0,I J 0,I J 0,I J 0,I J 0,I J 0,I J 0,I J 0] 215)) (Z ⟨b,o,N⟩) [a0,a1,a2,a3,a4,a5,a6,a7]:=Sl.alloc (Sl.alloc hA _) _
 have hcp:=hs _ (fun j v hv=>by
  obtain⟨b',o',h1,h2⟩:=hI (by simp)
  injection h1 with h1
  injection h1 with h1 h3
  subst h1;subst h3
  have:=h2 j v (by simpa using hv)
  unfold Addr.add
  split
  ·next h0=>subst h0;simpa using this
  ·exact this) (fun j hj=>by
   have:j<8:=by simp at hj;omega
   rcases j with _|_|_|_|_|_|_|_|j<;>first|(simp;done)|omega) (fun j hj=>by simp) (aR [a0,a1,a2,a3,a4,a5,a6,a7])
 simp only[World.setCells,goInt]at hcp;clear hs hI hc;go_enter func167,ntmps167;go_wp2_with fail;(try simp only[Exit.inBlock,Exit.then]);refine bodyPost_ret (kS _ _ (b:=w.heap.size) (z0:=8) (z1:=a0) (z2:=a1) (z3:=a2) (z4:=a3) (z5:=a4) (z6:=a5) (z7:=a6) (z8:=a7) rfl (by go_simp) (by go_simp) (by go_simp) (by go_simp) (by go_simp) (by go_simp) (by go_simp) (by go_simp) (by go_simp)) rfl ?_;exact⟨rfl,(ba _ _).alloc (by simp) _⟩
theorem yK(A:Oa)(n kc:Nat)(zs:Li)(w:Wv)(hA:aA w A zs)(hn:zs.length=n)(h0:1<=n)(h8:n<=8):Calls prog 167 #[H A n kc] w (jO zs w):=by
 subst hn;match zs,h0,h8,hA with
 | [a0],_,_,hA=>exact PO A kc a0 w hA
 | [a0,a1],_,_,hA=>exact PQ A kc a0 a1 w hA
 | [a0,a1,a2],_,_,hA=>exact PR A kc a0 a1 a2 w hA
 | [a0,a1,a2,a3],_,_,hA=>exact PU A kc a0 a1 a2 a3 w hA
 | [a0,a1,a2,a3,a4],_,_,hA=>exact PV A kc a0 a1 a2 a3 a4 w hA
 | [a0,a1,a2,a3,a4,a5],_,_,hA=>exact PW A kc a0 a1 a2 a3 a4 a5 w hA
 | [a0,a1,a2,a3,a4,a5,a6],_,_,hA=>exact PX A kc a0 a1 a2 a3 a4 a5 a6 w hA
 | [a0,a1,a2,a3,a4,a5,a6,a7],_,_,hA=>exact PY A kc a0 a1 a2 a3 a4 a5 a6 a7 w hA
 |_::_::_::_::_::_::_::_::_::_,_,h8,_=>simp at h8
end
end Go.Proofs.YtpfbnikbebccjaaGreatDoor
