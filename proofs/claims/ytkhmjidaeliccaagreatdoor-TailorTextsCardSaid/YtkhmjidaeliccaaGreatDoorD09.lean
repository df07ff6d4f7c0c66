import Derived.Test.YtkhmjidaeliccaaGreatDoorD00
import Derived.Test.YtkhmjidaeliccaaGreatDoorD01
import Derived.Test.YtkhmjidaeliccaaGreatDoorD02
import Derived.Test.YtkhmjidaeliccaaGreatDoorD03
import Derived.Test.YtkhmjidaeliccaaGreatDoorD04
import Derived.Test.YtkhmjidaeliccaaGreatDoorD07
import Derived.Test.YtkhmjidaeliccaaGreatDoorD08
import Derived.Deep.Cut
import Derived.Test.YtkhmjidaeliccaaGreatDoorProg
import Derived.Shelf.Abstract
import Derived.Laws.IdiomCopy
import Derived.WideKeyArr
import Derived.RegionTactic
set_option maxRecDepth 100000
set_option maxHeartbeats 51200000
namespace Go.Proofs.YtkhmjidaeliccaaGreatDoor
open Option renaming none->N,some->Z
open Value renaming int->I,slice->H
open IntKind renaming i64->J
open Go.Proofs.Tryz
section
open Go.RowKit
def Blk(w:Wv)(b:Nat)(e:TypeId)(pre cs post:Lv):Prop:=w.heap[b]?=Z (.cells (pre++cs++post).toArray e (0,0))
def Row(w:Wv)(b off:Nat)(e:TypeId)(pre post:Lv)(d:Li):Prop:=pre.length=off/\Blk w b e pre (d.map (Value.int .i64)) post
section
variable {w w':Wv}{b off:Nat}{e:TypeId}{pre post:Lv}{d:Li}
theorem Blk.lt{cs:Lv}(h:Blk w b e pre cs post):b<w.heap.size:=(Array.getElem?_eq_some_iff.1 h).1
theorem Row.lt(h:Row w b off e pre post d):b<w.heap.size:=Blk.lt h.2
theorem Row.cell(h:Row w b off e pre post d){i:Nat}{x:Int}(hi:d[i]?=Z x):w.cell? ⟨b,off+i,N⟩=Z (I J x):=by
 rw[cell_of_row w b (off+i) _ e (0,0) h.2];have hl:i<d.length:=(List.getElem?_eq_some_iff.1 hi).1;rw[List.getElem?_toArray,List.append_assoc,List.getElem?_append_right (by have:=h.1;omega),List.getElem?_append_left (by simp;have:=h.1;omega),List.getElem?_map];rw[show off+i-pre.length=i by have:=h.1;omega,hi];rfl
theorem Row.frozen(h:Row w b off e pre post d)(i:Nat):w.frozen? ⟨b,i,N⟩=false:=by
 have h2:=h.2;unfold Blk at h2;simp[World.frozen?,h2]
theorem Row.set(h:Row w b off e pre post d){i:Nat}(hi:i<d.length)(v:Int):Row (w.setCell ⟨b,off+i,N⟩ (I J v)) b off e pre post (d.set i v):=by
 refine⟨h.1,?_⟩;have h2:=h.2;have h1:=h.1;unfold Blk at h2|-;simp only[World.setCell,Array.getElem?_modify,h2];simp only[if_true,Option.map_some,Option.some.injEq,Obj.cells.injEq,and_true];apply Array.ext';simp only[Option.isSome_none,Bool.false_eq_true,if_false,Array.toList_setIfInBounds,List.map_set];rw[List.append_assoc,List.set_append_right _ _ (by omega),List.set_append_left _ _ (by simp;omega),show off+i-pre.length=i by omega,<-List.append_assoc]
theorem Row.keep(h:Row w b off e pre post d)(hb:w'.heap[b]?=w.heap[b]?):Row w' b off e pre post d:=⟨h.1,hb.trans h.2⟩
theorem Row.drewN(h:Row w b off e pre post d)(n:Nat):Row (w.drewN n) b off e pre post d:=h
theorem Row.drew(h:Row w b off e pre post d):Row w.drew b off e pre post d:=h
theorem Row.below(h:Row w b off e pre post d)(hb:By w w'):Row w' b off e pre post d:=h.keep (hb.block b h.lt)
theorem aN(w:Wv)(r:Option Nat):w.grownBy w r:=⟨rfl,rfl,rfl,Nat.le_refl _,fun _ _ _=>rfl⟩
theorem aV{a c:Wv}{r:Option Nat}(h:a.grownBy w r)(g:w.grownBy c r):a.grownBy c r:=
 ⟨g.os.trans h.os,g.tape.trans h.tape,g.output.trans h.output,Nat.le_trans h.size g.size,fun k hk hne=>(g.block k (Nat.lt_of_lt_of_le hk h.size) hne).trans (h.block k hk hne)⟩
theorem cA{a:Wv}{r:Option Nat}(h:a.grownBy w r)(g:By w w'):a.grownBy w' r:=
 aV h ⟨g.os,g.tape,g.output,g.size,fun k hk _=>g.block k hk⟩
theorem J_{a:Wv}{r:Option Nat}(h:a.grownBy w r)(n:Nat):a.grownBy (w.drewN n) r:=cA h (eF w n)
theorem dO{a:Wv}{r:Option Nat}(h:a.grownBy w r):a.grownBy w.drew r:=cA h (eF w 1)
theorem j_{a:Wv}(h:a.grownBy w (Z b))(i:Nat)(v:Value):a.grownBy (w.setCell ⟨b,i,N⟩ v) (Z b):=
 aV h ⟨rfl,rfl,rfl,by simp[World.setCell],fun k _ hne=>Below.heap_setCell _ _ _ _ (by rintro rfl;exact hne rfl)⟩
end
end
section
open Go.RowKit Go.Maps Go.WideMaps Tl
theorem sX{zs:Li}{k:Nat}(hk:k<zs.length)(h:¬(0<=zs[k]/\zs[k]<=1114111)):rngT zs=false:=by
 unfold rngT;rw[Bool.and_eq_false_iff];right;rw[List.all_eq_false];exact⟨zs[k],List.getElem_mem hk,by simpa using h⟩
theorem sY{zs:Li}(h0:0<zs.length)(h:∀k,(hk:k<zs.length)->0<=zs[k]/\zs[k]<=1114111):rngT zs=true:=by
 unfold rngT;rw[Bool.and_eq_true];refine⟨?_,?_⟩
 ·cases zs with
  |nil=>simp at h0
  |cons z r=>rfl
 rw[List.all_eq_true];intro z hz;obtain⟨k,hk,rfl⟩:=List.getElem_of_mem hz;simpa using h k hk
theorem yL(A:Oa)(na ca:Nat)(B:Oa)(nb cb:Nat)(t:Tlr)(w:Wv)(hA:aB w A t.anc)(hB:aB w B t.cds)(hna:t.anc.length=na)(hnb:t.cds.length=nb)(hba:na<=1048576)(hbb:nb<=1048576):
  Calls prog 73 #[.agg #[H A na ca,H B nb cb,I J t.lvl,.bool t.bef]] w (bU (if(rngT t.anc&&rngT t.cds)=true then 0 else 1) w):=by
 subst hna;subst hnb;obtain⟨r,hr⟩:∃r:Int,(if(rngT t.anc&&rngT t.cds)=true then 0 else 1)=r:=⟨_,rfl⟩;have HR:=U (∀a b,rngT t.anc=a->rngT t.cds=b->r=if(a&&b)=true then 0 else 1) (fun a b ha hb=>by rw[<-hr,ha,hb]);rw[hr];have B0:By w ((w.alloc (.cells #[H A t.anc.length ca,H B t.cds.length cb,I J t.lvl,.bool t.bef] 35)).alloc (.cells #[H A t.anc.length ca,H B t.cds.length cb] 33)):=(ba _ _).alloc (by simp) _;have X1:Box ((w.alloc (.cells #[H A t.anc.length ca,H B t.cds.length cb,I J t.lvl,.bool t.bef] 35)).alloc (.cells #[H A t.anc.length ca,H B t.cds.length cb] 33)) (w.heap.size+1) 33 [H A t.anc.length ca,H B t.cds.length cb]:=Box.new _ _ _ (by simp);have W0E:∃W0,((w.alloc (.cells #[H A t.anc.length ca,H B t.cds.length cb,I J t.lvl,.bool t.bef] 35)).alloc (.cells #[H A t.anc.length ca,H B t.cds.length cb] 33))=W0:=⟨_,rfl⟩;have BA:=G (fun k(hk:k<t.anc.length)h=>sX (zs:=t.anc) hk h);have GA:=G (fun h0 h=>sY (zs:=t.anc) h0 h);have BB:=G (fun k(hk:k<t.cds.length)h=>sX (zs:=t.cds) hk h);have GB:=G (fun h0 h=>sY (zs:=t.cds) h0 h);have EA:=G (fun(h:t.anc.length=0)=>show rngT t.anc=false from by rw[List.length_eq_zero_iff.1 h];rfl);have EB:=G (fun(h:t.cds.length=0)=>show rngT t.cds=false from by rw[List.length_eq_zero_iff.1 h];rfl);have HIA:=G (fun W(hb:By w W)=>hA.below hb);have HIB:=G (fun W(hb:By w W)=>hB.below hb);generalize rngT t.anc=ra at *;generalize rngT t.cds=rb at *;clear hr hA hB;obtain⟨an,cd,lvl,bef⟩:=t;dsimp only at *;go_enter func73,ntmps73;go_upto_region 2 with(fail)
 obtain⟨W0,hW0⟩:=W0E;try rw[hW0]at B0 X1|-
 clear hW0;have IA:=G (HIA.out W0 B0);have IB:=G (HIB.out W0 B0);clear HIA HIB;have HX:=G X1;have HB0:=G B0;clear X1 B0;go_wp2_with fail;go_loop [13] (fun u=>∃i:Nat,i<=2/\u=I J i/\(0<i->ra=true)/\(1<i->rb=true)) (fun u=>2-(intOf u).toNat)
 case atStart=>exact⟨0,by decide,rfl,fun h=>absurd h (by decide),fun h=>absurd h (by decide)⟩
 obtain⟨i,hi,rfl,h1,h2⟩:=hrel;rcases show i=0\/i=1\/i=2 by omega with rfl|rfl|rfl
 ·have cx:=HX.out.c 0 rfl
  have H1:=G h1;clear h1 h2;by_cases h0:an.length=0
  ·have HF:=U (r=1) (by rw[HR.out false rb (EA.out h0) rfl];rfl)
   have d0:((an.length:Int)==0)=true:=by rw[h0];rfl
   clear h0 HR BA GA BB GB EA EB;go_wp2_with fail;go_ret;rw[HF.out];exact⟨rfl,HB0.out⟩
  have d0:((an.length:Int)==0)=false:=by rw[beq_eq_false_iff_ne];omega
  go_wp2_with fail;go_loop [22] (fun u=>∃k:Nat,k<=an.length/\u=I J k/\Hid (∀j,(hj:j<an.length)->j<k->0<=an[j]/\an[j]<=1114111)) (fun u=>an.length-(intOf u).toNat)
  case atStart=>exact⟨0,Nat.zero_le _,rfl,G (fun j _ h=>absurd h (by omega))⟩
  obtain⟨k,hk,rfl,hall⟩:=hrel;by_cases hlt:k<an.length
  ·obtain⟨b1,o1,rfl,hcell⟩:=IA.out.at hlt
   have cz:=hcell k hlt;have HBk:=G (fun h=>BA.out k hlt h)
   have HNk:=G (fun(h:0<=an[k]/\an[k]<=1114111)=>show ∀j,(hj:j<an.length)->j<k+1->0<=an[j]/\an[j]<=1114111 from fun j hj hj2=>by
    by_cases e:j<k
    ·exact hall.out j hj e
    ·obtain rfl:j=k:=by omega
     exact h)
   clear hcell hall;generalize an[k]=z at *;by_cases hz:0<=z/\z<=1114111
   ·have HN:=G (HNk.out hz)
    have KV:=G (gM z W0);have dz:inR 0 1114111 z=true:=fU hz.1 hz.2;rw[dz]at KV;clear hz dz HBk HNk;go_wp2_with fail;with_reducible refine KV.out.mono ?_
    rintro e W1 ⟨rfl,rfl⟩;go_wp2_with fail;go_round
    case rel=>exact⟨k+1,by omega,by go_num,HN⟩
    simp[intOf];omega
   have HF:=U (r=1) (by rw[HR.out false rb (HBk.out hz) rfl];rfl);have KV:=G (gM z W0);have dz:inR 0 1114111 z=false:=oQ.2 (by omega);rw[dz]at KV;clear hz dz HBk HNk;go_wp2_with fail;with_reducible refine KV.out.mono ?_
   rintro e W1 ⟨rfl,rfl⟩;go_wp2_with fail;go_ret;rw[HF.out];exact⟨rfl,HB0.out⟩
  obtain rfl:k=an.length:=by omega
  have HG:=G (GA.out (by omega) (fun j hj=>hall.out j hj hj));clear hall;go_wp2_with fail;go_round
  case rel=>exact⟨1,by decide,by go_num,fun _=>HG.out,fun h=>absurd h (by decide)⟩
  simp[intOf]
 ·have cx:=HX.out.c 1 rfl
  have H1:=G h1;clear h1 h2;by_cases h0:cd.length=0
  ·have HF:=U (r=1) (by rw[HR.out ra false rfl (EB.out h0)];cases ra<;>rfl)
   have d0:((cd.length:Int)==0)=true:=by rw[h0];rfl
   clear h0 HR BA GA BB GB EA EB;go_wp2_with fail;go_ret;rw[HF.out];exact⟨rfl,HB0.out⟩
  have d0:((cd.length:Int)==0)=false:=by rw[beq_eq_false_iff_ne];omega
  go_wp2_with fail;go_loop [22] (fun u=>∃k:Nat,k<=cd.length/\u=I J k/\Hid (∀j,(hj:j<cd.length)->j<k->0<=cd[j]/\cd[j]<=1114111)) (fun u=>cd.length-(intOf u).toNat)
  case atStart=>exact⟨0,Nat.zero_le _,rfl,G (fun j _ h=>absurd h (by omega))⟩
  obtain⟨k,hk,rfl,hall⟩:=hrel;by_cases hlt:k<cd.length
  ·obtain⟨b1,o1,rfl,hcell⟩:=IB.out.at hlt
   have cz:=hcell k hlt;have HBk:=G (fun h=>BB.out k hlt h)
   have HNk:=G (fun(h:0<=cd[k]/\cd[k]<=1114111)=>show ∀j,(hj:j<cd.length)->j<k+1->0<=cd[j]/\cd[j]<=1114111 from fun j hj hj2=>by
    by_cases e:j<k
    ·exact hall.out j hj e
    ·obtain rfl:j=k:=by omega
     exact h)
   clear hcell hall;generalize cd[k]=z at *;by_cases hz:0<=z/\z<=1114111
   ·have HN:=G (HNk.out hz)
    have KV:=G (gM z W0);have dz:inR 0 1114111 z=true:=fU hz.1 hz.2;rw[dz]at KV;clear hz dz HBk HNk;go_wp2_with fail;with_reducible refine KV.out.mono ?_
    rintro e W1 ⟨rfl,rfl⟩;go_wp2_with fail;go_round
    case rel=>exact⟨k+1,by omega,by go_num,HN⟩
    simp[intOf];omega
   have HF:=U (r=1) (by rw[HR.out ra false rfl (HBk.out hz)];cases ra<;>rfl);have KV:=G (gM z W0);have dz:inR 0 1114111 z=false:=oQ.2 (by omega);rw[dz]at KV;clear hz dz HBk HNk;go_wp2_with fail;with_reducible refine KV.out.mono ?_
   rintro e W1 ⟨rfl,rfl⟩;go_wp2_with fail;go_ret;rw[HF.out];exact⟨rfl,HB0.out⟩
  obtain rfl:k=cd.length:=by omega
  have HG:=G (GB.out (by omega) (fun j hj=>hall.out j hj hj));clear hall;go_wp2_with fail;go_round
  case rel=>exact⟨2,by decide,by go_num,fun _=>H1.out (by decide),fun _=>HG.out⟩
  simp[intOf]
 have HF:=U (r=0) (by rw[HR.out true true (h1 (by decide)) (h2 (by decide))];rfl);clear h1 h2 HR BA GA BB GB EA EB;go_wp2_with fail;go_ret;rw[HF.out];exact⟨rfl,HB0.out⟩
def jC(x:Nrm)(c:Col)(t:Tlr):Int:=if bQ x≠0 then bQ x else if aH c≠0 then aH c else if kndT t=true then(if(rngT t.anc&&rngT t.cds)=true then 0 else 1)else 8
theorem EV(A0:Oa)(n0 k0:Nat)(A1:Oa)(n1 k1:Nat)(A2:Oa)(n2 k2:Nat)(x:Nrm)(C:Oa)(n a:Nat)(B:Oa)(m b:Nat)(c:Col)(P:Oa)(pk:Nat)(Q:Oa)(qk:Nat)(t:Tlr)(w:Wv)(hN:dC w A0 n0 A1 n1 A2 n2 x)(hz:cC x)(hL:cK w)(hC:aY w C n B m c)(hcz:aZ c)(hP:aB w P t.anc)(hQ:aB w Q t.cds)(hpl:t.anc.length<=1048576)(hql:t.cds.length<=1048576):
  Calls prog 34 #[.agg #[H A0 n0 k0,H A1 n1 k1,H A2 n2 k2],aS C n a B m b c,.agg #[H P t.anc.length pk,H Q t.cds.length qk,I J t.lvl,.bool t.bef]] w (bU (jC x c t) w):=by
 have B0:By w (((w.alloc (.cells #[H A0 n0 k0,H A1 n1 k1,H A2 n2 k2] 28)).alloc (.cells #[H C n a,H B m b,I J c.base,I J c.second,I J c.third] 32)).alloc (.cells #[H P t.anc.length pk,H Q t.cds.length qk,I J t.lvl,.bool t.bef] 35)):=((ba _ _).alloc (by simp) _).alloc (by simp;omega) _;have X0:Box (((w.alloc (.cells #[H A0 n0 k0,H A1 n1 k1,H A2 n2 k2] 28)).alloc (.cells #[H C n a,H B m b,I J c.base,I J c.second,I J c.third] 32)).alloc (.cells #[H P t.anc.length pk,H Q t.cds.length qk,I J t.lvl,.bool t.bef] 35)) w.heap.size 28 [H A0 n0 k0,H A1 n1 k1,H A2 n2 k2]:=((Box.new w 28 [H A0 n0 k0,H A1 n1 k1,H A2 n2 k2] rfl).below (ba _ _) (by simp)).below (ba _ _) (by simp;omega);have X1:Box (((w.alloc (.cells #[H A0 n0 k0,H A1 n1 k1,H A2 n2 k2] 28)).alloc (.cells #[H C n a,H B m b,I J c.base,I J c.second,I J c.third] 32)).alloc (.cells #[H P t.anc.length pk,H Q t.cds.length qk,I J t.lvl,.bool t.bef] 35)) (w.heap.size+1) 32 [H C n a,H B m b,I J c.base,I J c.second,I J c.third]:=(Box.new (w.alloc (.cells #[H A0 n0 k0,H A1 n1 k1,H A2 n2 k2] 28)) 32 [H C n a,H B m b,I J c.base,I J c.second,I J c.third] (by simp)).below (ba _ _) (by simp);have X2:Box (((w.alloc (.cells #[H A0 n0 k0,H A1 n1 k1,H A2 n2 k2] 28)).alloc (.cells #[H C n a,H B m b,I J c.base,I J c.second,I J c.third] 32)).alloc (.cells #[H P t.anc.length pk,H Q t.cds.length qk,I J t.lvl,.bool t.bef] 35)) (w.heap.size+2) 35 [H P t.anc.length pk,H Q t.cds.length qk,I J t.lvl,.bool t.bef]:=Box.new ((w.alloc (.cells #[H A0 n0 k0,H A1 n1 k1,H A2 n2 k2] 28)).alloc (.cells #[H C n a,H B m b,I J c.base,I J c.second,I J c.third] 32)) 35 [H P t.anc.length pk,H Q t.cds.length qk,I J t.lvl,.bool t.bef] (by simp);have W0E:∃W0,(((w.alloc (.cells #[H A0 n0 k0,H A1 n1 k1,H A2 n2 k2] 28)).alloc (.cells #[H C n a,H B m b,I J c.base,I J c.second,I J c.third] 32)).alloc (.cells #[H P t.anc.length pk,H Q t.cds.length qk,I J t.lvl,.bool t.bef] 35))=W0:=⟨_,rfl⟩;have K1:=G (fun W(hb:By w W)=>q_ A0 n0 k0 A1 n1 k1 A2 n2 k2 x W (hN.below hb) hz (hL.below hb));have K2:=G (fun W(hb:By w W)=>oH C n a B m b c W (hC.below hb) hcz);have K3:=G (fun W=>wQ P t.anc.length pk Q t.cds.length qk t W);have K4:=G (fun W(hb:By w W)=>yL P t.anc.length pk Q t.cds.length qk t W (hP.below hb) (hQ.below hb) rfl rfl hpl hql);unfold bU at K1 K2 K3 K4|-;unfold aS at K2|-;obtain⟨e1,he1⟩:∃e,bQ x=e:=⟨_,rfl⟩;obtain⟨e2,he2⟩:∃e,aH c=e:=⟨_,rfl⟩;obtain⟨e3,he3⟩:∃e:Int,(if kndT t=true then 0 else 8)=e:=⟨_,rfl⟩;obtain⟨e4,he4⟩:∃e:Int,(if(rngT t.anc&&rngT t.cds)=true then 0 else 1)=e:=⟨_,rfl⟩
 have HV:=U (jC x c t=if e1≠0 then e1 else if e2≠0 then e2 else if e3≠0 then e3 else e4) (by
  unfold jC
  rw[he1,he2,he4,<-he3]
  cases kndT t<;>simp)
 rw[he1]at K1;rw[he2]at K2;rw[he3]at K3;rw[he4]at K4;generalize jC x c t=r at *;clear he1 he2 he3 he4 hN hz hL hC hcz hP hQ;generalize t.anc.length=pn at *;generalize t.cds.length=qn at *;generalize t.lvl=lv at *;generalize t.bef=bf at *;go_enter func34,ntmps34;go_upto_region 1 with(fail)
 obtain⟨W0,hW0⟩:=W0E;try rw[hW0]at B0 X0 X1 X2|-
 clear hW0;have l0:=X0.lt;have l1:=X1.lt;have l2:=X2.lt;have c10:=X0.c 0 rfl;have c11:=X0.c 1 rfl;have c12:=X0.c 2 rfl;have HB0:=G B0;have HX0:=G X0;have HX1:=G X1;have HX2:=G X2;clear X0 X1 X2 B0;have C1:=G (K1.out W0 HB0.out);clear K1;go_wp2_with fail;with_reducible refine C1.out.mono ?_
 rintro e Wa ⟨rfl,hb1⟩;have HBa:=G (HB0.out.trans (hb1.mono HB0.out.size));have HXa1:=G (HX1.out.below hb1 l1);have HXa2:=G (HX2.out.below hb1 l2);clear hb1 c10 c11 c12 C1;by_cases q1:e1=0
 ·have d1:(e1 !=0)=false:=by simp[q1]
  have HV2:=U (r=if e2≠0 then e2 else if e3≠0 then e3 else e4) (by rw[HV.out,if_neg (by simp[q1])]);clear q1 HV;have ca0:=HXa1.out.c 0 rfl;have ca1:=HXa1.out.c 1 rfl;have ca2:=HXa1.out.c 2 rfl;have ca3:=HXa1.out.c 3 rfl;have ca4:=HXa1.out.c 4 rfl;have C2:=G (K2.out Wa HBa.out);clear K2;go_wp2_with fail;with_reducible refine C2.out.mono ?_
  rintro e Wb ⟨rfl,hb1⟩;have HBb:=G (HBa.out.trans (hb1.mono HBa.out.size));have HXb2:=G (HXa2.out.below hb1 HXa2.out.lt);clear hb1 C2 ca0 ca1 ca2 ca3 ca4;by_cases q2:e2=0
  ·have d2:(e2 !=0)=false:=by simp[q2]
   have HV3:=U (r=if e3≠0 then e3 else e4) (by rw[HV2.out,if_neg (by simp[q2])]);clear q2 HV2;have cb0:=HXb2.out.c 0 rfl;have cb1:=HXb2.out.c 1 rfl;have cb2:=HXb2.out.c 2 rfl;have cb3:=HXb2.out.c 3 rfl;have C3:=G (K3.out Wb);clear K3;go_wp2_with fail;with_reducible refine C3.out.mono ?_
   rintro e Wc ⟨rfl,hb1⟩;have HBc:=G (HBb.out.trans (hb1.mono HBb.out.size));have HXc2:=G (HXb2.out.below hb1 HXb2.out.lt);clear hb1 C3 cb0 cb1 cb2 cb3;by_cases q3:e3=0
   ·have d3:(e3 !=0)=false:=by simp[q3]
    have HV4:=U (r=e4) (by rw[HV3.out,if_neg (by simp[q3])]);clear q3 HV3;have cc0:=HXc2.out.c 0 rfl;have cc1:=HXc2.out.c 1 rfl;have cc2:=HXc2.out.c 2 rfl;have cc3:=HXc2.out.c 3 rfl;have C4:=G (K4.out Wc HBc.out);clear K4;go_wp2_with fail;with_reducible refine C4.out.mono ?_
    rintro e Wd ⟨rfl,hb1⟩;have HBd:=G (HBc.out.trans (hb1.mono HBc.out.size));clear hb1 C4 cc0 cc1 cc2 cc3;go_wp2_with fail;go_ret;exact⟨by rw[HV4.out]<;>rfl,HBd.out⟩
   have d3:(e3 !=0)=true:=by simp[q3]
   have HV4:=U (r=e3) (by rw[HV3.out,if_pos q3]);clear q3;go_wp2_with fail;go_ret;exact⟨by rw[HV4.out]<;>rfl,HBc.out⟩
  have d2:(e2 !=0)=true:=by simp[q2]
  have HV4:=U (r=e2) (by rw[HV2.out,if_pos q2]);clear q2;go_wp2_with fail;go_ret;exact⟨by rw[HV4.out]<;>rfl,HBb.out⟩
 have d1:(e1 !=0)=true:=by simp[q1]
 have HV4:=U (r=e1) (by rw[HV.out,if_pos q1]);clear q1;go_wp2_with fail;go_ret;exact⟨by rw[HV4.out]<;>rfl,HBa.out⟩
end
section
open Go.RowKit
structure Found(n:Nat)(p:Nat->Bool)(i:Nat):Prop where
 le:i<=n
 lo:∀t,t<i->p t=false
 hi:∀t,i<=t->t<n->p t=true
def BH(n:Nat)(p:Nat->Bool)(w:Wv)(e:Ending)(w':Wv):Prop:=∃i:Nat,e=.returned (I J i)/\Found n p i/\By w w'
theorem T_(g:FuncId)(cb:Array Value)(n:Nat)(p:Nat->Bool)(w:Wv)(eg:∀args W,(callFunc g args).run prog W=.ok (.enter g args) W)(hbig:n<=1099511627776)
  (hf:∀(i:Nat)(W:Wv),i<n->By w W->Calls prog g (#[I J i]++cb) W (eD (p i) W)) (hm:∀a b,a<=b->b<n->p a=true->p b=true) :
  Calls prog 171 #[I J n,.func (.func g) #[] cb] w (BH n p w):=by
 have HF:=G hf;have HM:=G hm;clear hf hm;go_enter func171,ntmps171;go_wp2
 go_loopw [5,6] (fun u v wr=>∃i j:Nat,i<=j/\j<=n/\u=I J i/\v=I J j/\(∀t,t<i->p t=false)/\(∀t,j<=t->t<n->p t=true)/\By w wr)
  (fun u v _=>(intOf v).toNat-(intOf u).toNat)
 case atStart=>exact⟨0,n,Nat.zero_le _,Nat.le_refl _,rfl,rfl,fun t h=>by omega,fun t h1 h2=>by omega,Below.refl _ _⟩
 obtain⟨i,j,hij,hj,rfl,rfl,hlo,hhi,hbel⟩:=hrel;have HLO:=G hlo;have HHI:=G hhi;clear hlo hhi;by_cases hlt:i<j
 ·obtain⟨h,hh,h1,h2,h3⟩:∃h:Nat,((i:Int)+(j:Int))/2=(h:Int)/\i<=h/\h<j/\h<n:=⟨(i+j)/2,by omega,by omega,by omega,by omega⟩
  have C:=G (HF.out h wr h3 hbel);cases hp:p h with
  |true=>
   have HP:=G hp;rw[hp]at C;clear hp;go_wp2_with(go_at_fn g;refine C.out.mono ?_;rintro e w1 ⟨rfl,hb1⟩);go_roundw
   case rel=>exact⟨i,h,h1,by omega,rfl,rfl,HLO.out,fun t g1 g2=>HM.out h t g1 g2 HP.out,hbel.trans (hb1.mono hbel.size)⟩
   simp[intOf];omega
  |false=>
   have HP:=G hp;rw[hp]at C;clear hp;go_wp2_with(go_at_fn g;refine C.out.mono ?_;rintro e w1 ⟨rfl,hb1⟩);go_roundw
   case rel=>
    refine⟨h+1,j,by omega,hj,by go_num,rfl,fun t g1=>?_,HHI.out,hbel.trans (hb1.mono hbel.size)⟩;cases ht:p t with
    |false=>rfl
    |true=>have:=HM.out t h (by omega) h3 ht;rw[HP.out]at this;cases this
   simp[intOf];omega
 obtain rfl:i=j:=by omega
 go_wp2_with fail;go_ret;exact⟨i,rfl,⟨hj,HLO.out,HHI.out⟩,hbel⟩
end
section
open Go.RowKit Go.Maps Go.WideMaps
def gQ(zs:Li):Li:=(zs.length:Int)::(zs++List.replicate (8-zs.length) 0)
def kF(zs:Li):Value:=.agg ((gQ zs).map (Value.int .i64)).toArray
def iX(zs:Li)(w:Wv)(e:Ending)(w':Wv):Prop:=e=.returned (kF zs)/\By w w'
theorem kC:(prog.info? 3).map (·.size)=Z 1:=by kernel_rfl
theorem kJ(tmps:Array Value)(w:Wv){b:Nat}{z0 z1 z2 z3 z4 z5 z6 z7 z8:Int}(ha:tmps.getD 2 undef=.pointer (Z ⟨b,0,N⟩))
  (c0:w.cell? ⟨b,0,N⟩=Z (I J z0)) (c1:w.cell? ⟨b,1,N⟩=Z (I J z1)) (c2:w.cell? ⟨b,2,N⟩=Z (I J z2)) (c3:w.cell? ⟨b,3,N⟩=Z (I J z3)) (c4:w.cell? ⟨b,4,N⟩=Z (I J z4)) (c5:w.cell? ⟨b,5,N⟩=Z (I J z5)) (c6:w.cell? ⟨b,6,N⟩=Z (I J z6)) (c7:w.cell? ⟨b,7,N⟩=Z (I J z7)) (c8:w.cell? ⟨b,8,N⟩=Z (I J z8)) :
  (results f117 tmps).run prog w=.ok (.agg #[I J z0,I J z1,I J z2,I J z3,I J z4,I J z5,I J z6,I J z7,I J z8]) w:=by
 have hr:f117.results=#[.cell 2 169]:=rfl;unfold results;rw[hr];simp only[ha,List.mapM_toArray,List.mapM_cons,List.mapM_nil,asAddr];go_simp
theorem MV(A:Oa)(kc:Nat)(a0:Int)(w:Wv)(hA:aB w A [a0]):Calls prog 117 #[H A 1 kc] w (iX [a0] w):=by
 obtain⟨b,o,rfl,hc⟩:=hA.at (k:=0) (by simp);have hs:=fun(W:Wv)=>run_copy_cells (P:=prog) W 33 33 3 3 (w.heap.size+1) 1 8 8 ⟨b,o,N⟩ 1 kc [I J a0] underlying33 kC rfl
 have hI:aB ((w.alloc (.cells #[I J 0,I J 0,I J 0,I J 0,I J 0,I J 0,I J 0,I J 0,I J 0] 169)).alloc (.cells #[I J 1,I J 0,I J 0,I J 0,I J 0,I J 0,I J 0,I J 0,I J 0] 169)) (Z ⟨b,o,N⟩) [a0]:=Sl.alloc (Sl.alloc hA _) _
 have hcp:=hs _ (fun j v hv=>by
  obtain⟨b',o',h1,h2⟩:=hI (by simp)
  injection h1 with h1
  injection h1 with h1 h3
  subst h1;subst h3
  have:=h2 j v (by simpa using hv)
  unfold Addr.add
  split
  ·next h0=>subst h0;simpa using this
  ·exact this) (fun j hj=>by
   have:j<8:=by simp at hj;omega
   rcases j with _|_|_|_|_|_|_|_|j<;>first|(simp;done)|omega) (fun j hj=>by simp) (dJ [a0])
 simp only[World.setCells,goInt]at hcp;clear hs hI hc;go_enter func117,ntmps117;go_wp2_with fail;(try simp only[Exit.inBlock,Exit.then]);refine bodyPost_ret (kJ _ _ (b:=w.heap.size) (z0:=1) (z1:=a0) (z2:=0) (z3:=0) (z4:=0) (z5:=0) (z6:=0) (z7:=0) (z8:=0) rfl (by go_simp) (by go_simp) (by go_simp) (by go_simp) (by go_simp) (by go_simp) (by go_simp) (by go_simp) (by go_simp)) rfl ?_;exact⟨rfl,(ba _ _).alloc (by simp) _⟩
theorem MW(A:Oa)(kc:Nat)(a0 a1:Int)(w:Wv)(hA:aB w A [a0,a1]):Calls prog 117 #[H A 2 kc] w (iX [a0,a1] w):=by
 obtain⟨b,o,rfl,hc⟩:=hA.at (k:=0) (by simp);have hs:=fun(W:Wv)=>run_copy_cells (P:=prog) W 33 33 3 3 (w.heap.size+1) 1 8 8 ⟨b,o,N⟩ 2 kc [I J a0,I J a1] underlying33 kC rfl
 have hI:aB ((w.alloc (.cells #[I J 0,I J 0,I J 0,I J 0,I J 0,I J 0,I J 0,I J 0,I J 0] 169)).alloc (.cells #[I J 2,I J 0,I J 0,I J 0,I J 0,I J 0,I J 0,I J 0,I J 0] 169)) (Z ⟨b,o,N⟩) [a0,a1]:=Sl.alloc (Sl.alloc hA _) _
 have hcp:=hs _ (fun j v hv=>by
  obtain⟨b',o',h1,h2⟩:=hI (by simp)
  injection h1 with h1
  injection h1 with h1 h3
  subst h1;subst h3
  have:=h2 j v (by simpa using hv)
  unfold Addr.add
  split
  ·next h0=>subst h0;simpa using this
  ·exact this) (fun j hj=>by
   have:j<8:=by simp at hj;omega
   rcases j with _|_|_|_|_|_|_|_|j<;>first|(simp;done)|omega) (fun j hj=>by simp) (dJ [a0,a1])
 simp only[World.setCells,goInt]at hcp;clear hs hI hc;go_enter func117,ntmps117;go_wp2_with fail;(try simp only[Exit.inBlock,Exit.then]);refine bodyPost_ret (kJ _ _ (b:=w.heap.size) (z0:=2) (z1:=a0) (z2:=a1) (z3:=0) (z4:=0) (z5:=0) (z6:=0) (z7:=0) (z8:=0) rfl (by go_simp) (by go_simp) (by go_simp) (by go_simp) (by go_simp) (by go_simp) (by go_simp) (by go_simp) (by go_simp)) rfl ?_;exact⟨rfl,(ba _ _).alloc (by simp) _⟩
theorem MX(A:Oa)(kc:Nat)(a0 a1 a2:Int)(w:Wv)(hA:aB w A [a0,a1,a2]):Calls prog 117 #[H A 3 kc] w (iX [a0,a1,a2] w):=by
 obtain⟨b,o,rfl,hc⟩:=hA.at (k:=0) (by simp);have hs:=fun(W:Wv)=>run_copy_cells (P:=prog) W 33 33 3 3 (w.heap.size+1) 1 8 8 ⟨b,o,N⟩ 3 kc [I J a0,I J a1,I J a2] underlying33 kC rfl
 have hI:aB ((w.alloc (.cells #[I J 0,I J 0,I J 0,I J 0,I J 0,I J 0,I J 0,I J 0,I J 0] 169)).alloc (.cells #[I J 3,I J 0,I J 0,I J 0,I J 0,I J 0,I J 0,I J 0,I J 0] 169)) (Z ⟨b,o,N⟩) [a0,a1,a2]:=Sl.alloc (Sl.alloc hA _) _
 have hcp:=hs _ (fun j v hv=>by
  obtain⟨b',o',h1,h2⟩:=hI (by simp)
  injection h1 with h1
  injection h1 with h1 h3
  subst h1;subst h3
  have:=h2 j v (by simpa using hv)
  unfold Addr.add
  split
  ·next h0=>subst h0;simpa using this
  ·exact this) (fun j hj=>by
   have:j<8:=by simp at hj;omega
   rcases j with _|_|_|_|_|_|_|_|j<;>first|(simp;done)|omega) (fun j hj=>by simp) (dJ [a0,a1,a2])
 simp only[World.setCells,goInt]at hcp;clear hs hI hc;go_enter func117,ntmps117;go_wp2_with fail;(try simp only[Exit.inBlock,Exit.then]);refine bodyPost_ret (kJ _ _ (b:=w.heap.size) (z0:=3) (z1:=a0) (z2:=a1) (z3:=a2) (z4:=0) (z5:=0) (z6:=0) (z7:=0) (z8:=0) rfl (by go_simp) (by go_simp) (by go_simp) (by go_simp) (by go_simp) (by go_simp) (by go_simp) (by go_simp) (by go_simp)) rfl ?_;exact⟨rfl,(ba _ _).alloc (by simp) _⟩
theorem MY(A:Oa)(kc:Nat)(a0 a1 a2 a3:Int)(w:Wv)(hA:aB w A [a0,a1,a2,a3]):Calls prog 117 #[H A 4 kc] w (iX [a0,a1,a2,a3] w):=by
 obtain⟨b,o,rfl,hc⟩:=hA.at (k:=0) (by simp);have hs:=fun(W:Wv)=>run_copy_cells (P:=prog) W 33 33 3 3 (w.heap.size+1) 1 8 8 ⟨b,o,N⟩ 4 kc [I J a0,I J a1,I J a2,I J a3] underlying33 kC rfl
 have hI:aB ((w.alloc (.cells #[I J 0,I J 0,I J 0,I J 0,I J 0,I J 0,I J 0,I J 0,I J 0] 169)).alloc (.cells #[I J 4,I J 0,I J 0,I J 0,I J 0,I J 0,I J 0,I J 0,I J 0] 169)) (Z ⟨b,o,N⟩) [a0,a1,a2,a3]:=Sl.alloc (Sl.alloc hA _) _
 have hcp:=hs _ (fun j v hv=>by
  obtain⟨b',o',h1,h2⟩:=hI (by simp)
  injection h1 with h1
  injection h1 with h1 h3
  subst h1;subst h3
  have:=h2 j v (by simpa using hv)
  unfold Addr.add
  split
  ·next h0=>subst h0;simpa using this
  ·exact this) (fun j hj=>by
   have:j<8:=by simp at hj;omega
   rcases j with _|_|_|_|_|_|_|_|j<;>first|(simp;done)|omega) (fun j hj=>by simp) (dJ [a0,a1,a2,a3])
 simp only[World.setCells,goInt]at hcp;clear hs hI hc;go_enter func117,ntmps117;go_wp2_with fail;(try simp only[Exit.inBlock,Exit.then]);refine bodyPost_ret (kJ _ _ (b:=w.heap.size) (z0:=4) (z1:=a0) (z2:=a1) (z3:=a2) (z4:=a3) (z5:=0) (z6:=0) (z7:=0) (z8:=0) rfl (by go_simp) (by go_simp) (by go_simp) (by go_simp) (by go_simp) (by go_simp) (by go_simp) (by go_simp) (by go_simp)) rfl ?_;exact⟨rfl,(ba _ _).alloc (by simp) _⟩
theorem MZ(A:Oa)(kc:Nat)(a0 a1 a2 a3 a4:Int)(w:Wv)(hA:aB w A [a0,a1,a2,a3,a4]):Calls prog 117 #[H A 5 kc] w (iX [a0,a1,a2,a3,a4] w):=by
 obtain⟨b,o,rfl,hc⟩:=hA.at (k:=0) (by simp);have hs:=fun(W:Wv)=>run_copy_cells (P:=prog) W 33 33 3 3 (w.heap.size+1) 1 8 8 ⟨b,o,N⟩ 5 kc [I J a0,I J a1,I J a2,I J a3,I J a4] underlying33 kC rfl
 have hI:aB ((w.alloc (.cells #[I J 0,I J 0,I J 0,I J 0,I J 0,I J 0,I J 0,I J 0,I J 0] 169)).alloc (.cells #[I J 5,I J 0,I J 0,I J 0,I J 0,I J 0,I J 0,I J 0,I J 0] 169)) (Z ⟨b,o,N⟩) [a0,a1,a2,a3,a4]:=Sl.alloc (Sl.alloc hA _) _
 have hcp:=hs _ (fun j v hv=>by
  obtain⟨b',o',h1,h2⟩:=hI (by simp)
  injection h1 with h1
  injection h1 with h1 h3
  subst h1;subst h3
  have:=h2 j v (by simpa using hv)
  unfold Addr.add
  split
  ·next h0=>subst h0;simpa using this
  ·exact this) (fun j hj=>by
   have:j<8:=by simp at hj;omega
   rcases j with _|_|_|_|_|_|_|_|j<;>first|(simp;done)|omega) (fun j hj=>by simp) (dJ [a0,a1,a2,a3,a4])
 simp only[World.setCells,goInt]at hcp;clear hs hI hc;go_enter func117,ntmps117;go_wp2_with fail;(try simp only[Exit.inBlock,Exit.then]);refine bodyPost_ret (kJ _ _ (b:=w.heap.size) (z0:=5) (z1:=a0) (z2:=a1) (z3:=a2) (z4:=a3) (z5:=a4) (z6:=0) (z7:=0) (z8:=0) rfl (by go_simp) (by go_simp) (by go_simp) (by go_simp) (by go_simp) (by go_simp) (by go_simp) (by go_simp) (by go_simp)) rfl ?_;exact⟨rfl,(ba _ _).alloc (by simp) _⟩
theorem M_(A:Oa)(kc:Nat)(a0 a1 a2 a3 a4 a5:Int)(w:Wv)(hA:aB w A [a0,a1,a2,a3,a4,a5]):Calls prog 117 #[H A 6 kc] w (iX [a0,a1,a2,a3,a4,a5] w):=by
 obtain⟨b,o,rfl,hc⟩:=hA.at (k:=0) (by simp);have hs:=fun(W:Wv)=>run_copy_cells (P:=prog) W 33 33 3 3 (w.heap.size+1) 1 8 8 ⟨b,o,N⟩ 6 kc [I J a0,I J a1,I J a2,I J a3,I J a4,I J a5] underlying33 kC rfl
 have hI:aB ((w.alloc (.cells #[I J 0,I J 0,I J 0,I J 0,I J 0,I J 0,I J 0,I J 0,I J 0] 169)).alloc (.cells #[I J 6,I J 0,I J 0,I J 0,I J 0,I J 0,I J 0,I J 0,I J 0] 169)) (Z ⟨b,o,N⟩) [a0,a1,a2,a3,a4,a5]:=Sl.alloc (Sl.alloc hA _) _
 have hcp:=hs _ (fun j v hv=>by
  obtain⟨b',o',h1,h2⟩:=hI (by simp)
  injection h1 with h1
  injection h1 with h1 h3
  subst h1;subst h3
  have:=h2 j v (by simpa using hv)
  unfold Addr.add
  split
  ·next h0=>subst h0;simpa using this
  ·exact this) (fun j hj=>by
   have:j<8:=by simp at hj;omega
   rcases j with _|_|_|_|_|_|_|_|j<;>first|(simp;done)|omega) (fun j hj=>by simp) (dJ [a0,a1,a2,a3,a4,a5])
 simp only[World.setCells,goInt]at hcp;clear hs hI hc;go_enter func117,ntmps117;go_wp2_with fail;(try simp only[Exit.inBlock,Exit.then]);refine bodyPost_ret (kJ _ _ (b:=w.heap.size) (z0:=6) (z1:=a0) (z2:=a1) (z3:=a2) (z4:=a3) (z5:=a4) (z6:=a5) (z7:=0) (z8:=0) rfl (by go_simp) (by go_simp) (by go_simp) (by go_simp) (by go_simp) (by go_simp) (by go_simp) (by go_simp) (by go_simp)) rfl ?_;exact⟨rfl,(ba _ _).alloc (by simp) _⟩
theorem NA(A:Oa)(kc:Nat)(a0 a1 a2 a3 a4 a5 a6:Int)(w:Wv)(hA:aB w A [a0,a1,a2,a3,a4,a5,a6]):Calls prog 117 #[H A 7 kc] w (iX [a0,a1,a2,a3,a4,a5,a6] w):=by
 obtain⟨b,o,rfl,hc⟩:=hA.at (k:=0) (by simp);have hs:=fun(W:Wv)=>run_copy_cells (P:=prog) W 33 33 3 3 (w.heap.size+1) 1 8 8 ⟨b,o,N⟩ 7 kc [I J a0,I J a1,I J a2,I J a3,I J a4,I J a5,I J a6] underlying33 kC rfl
 have hI:aB ((w.alloc (.cells #[I J 0,I J 0,I J 0,I J 0,I J 0,I J 0,I J 0,I J 0,I J 0] 169)).alloc (.cells #[I J 7,I J 0,I J 0,I J 0,I J 0,I J 0,I J 0,I J 0,I J 0] 169)) (Z ⟨b,o,N⟩) [a0,a1,a2,a3,a4,a5,a6]:=Sl.alloc (Sl.alloc hA _) _
 have hcp:=hs _ (fun j v hv=>by
  obtain⟨b',o',h1,h2⟩:=hI (by simp)
  injection h1 with h1
  injection h1 with h1 h3
  subst h1;subst h3
  have:=h2 j v (by simpa using hv)
  unfold Addr.add
  split
  ·next h0=>subst h0;simpa using this
  ·exact this) (fun j hj=>by
   have:j<8:=by simp at hj;omega
   rcases j with _|_|_|_|_|_|_|_|j<;>first|(simp;done)|omega) (fun j hj=>by simp) (dJ [a0,a1,a2,a3,a4,a5,a6])
 simp only[World.setCells,goInt]at hcp;clear hs hI hc;go_enter func117,ntmps117;go_wp2_with fail;(try simp only[Exit.inBlock,Exit.then]);refine bodyPost_ret (kJ _ _ (b:=w.heap.size) (z0:=7) (z1:=a0) (z2:=a1) (z3:=a2) (z4:=a3) (z5:=a4) (z6:=a5) (z7:=a6) (z8:=0) rfl (by go_simp) (by go_simp) (by go_simp) (by go_simp) (by go_simp) (by go_simp) (by go_simp) (by go_simp) (by go_simp)) rfl ?_;exact⟨rfl,(ba _ _).alloc (by simp) _⟩
theorem NB(A:Oa)(kc:Nat)(a0 a1 a2 a3 a4 a5 a6 a7:Int)(w:Wv)(hA:aB w A [a0,a1,a2,a3,a4,a5,a6,a7]):Calls prog 117 #[H A 8 kc] w (iX [a0,a1,a2,a3,a4,a5,a6,a7] w):=by
 obtain⟨b,o,rfl,hc⟩:=hA.at (k:=0) (by simp);have hs:=fun(W:Wv)=>run_copy_cells (P:=prog) W 33 33 3 3 (w.heap.size+1) 1 8 8 ⟨b,o,N⟩ 8 kc [I J a0,I J a1,I J a2,I J a3,I J a4,I J a5,I J a6,I J a7] underlying33 kC rfl
 have hI:aB ((w.alloc (.cells #[I J 0,I J 0,I J 0,I J 0,I J 0,I J 0,I J 0,I J 0,I J 0] 169)).alloc (.cells #[I J 8,I J 0,I J 0,I J 0,I J 0,I J 0,I J 0,I J 0,I J 0] 169)) (Z ⟨b,o,N⟩) [a0,a1,a2,a3,a4,a5,a6,a7]:=Sl.alloc (Sl.alloc hA _) _
 have hcp:=hs _ (fun j v hv=>by
  obtain⟨b',o',h1,h2⟩:=hI (by simp)
  injection h1 with h1
  injection h1 with h1 h3
  subst h1;subst h3
  have:=h2 j v (by simpa using hv)
  unfold Addr.add
  split
  ·next h0=>subst h0;simpa using this
  ·exact this) (fun j hj=>by
   have:j<8:=by simp at hj;omega
   rcases j with _|_|_|_|_|_|_|_|j<;>first|(simp;done)|omega) (fun j hj=>by simp) (dJ [a0,a1,a2,a3,a4,a5,a6,a7])
 simp only[World.setCells,goInt]at hcp;clear hs hI hc;go_enter func117,ntmps117;go_wp2_with fail;(try simp only[Exit.inBlock,Exit.then]);refine bodyPost_ret (kJ _ _ (b:=w.heap.size) (z0:=8) (z1:=a0) (z2:=a1) (z3:=a2) (z4:=a3) (z5:=a4) (z6:=a5) (z7:=a6) (z8:=a7) rfl (by go_simp) (by go_simp) (by go_simp) (by go_simp) (by go_simp) (by go_simp) (by go_simp) (by go_simp) (by go_simp)) rfl ?_;exact⟨rfl,(ba _ _).alloc (by simp) _⟩
theorem wP(A:Oa)(n kc:Nat)(zs:Li)(w:Wv)(hA:aB w A zs)(hn:zs.length=n)(h0:1<=n)(h8:n<=8):Calls prog 117 #[H A n kc] w (iX zs w):=by
 subst hn;match zs,h0,h8,hA with
 | [a0],_,_,hA=>exact MV A kc a0 w hA
 | [a0,a1],_,_,hA=>exact MW A kc a0 a1 w hA
 | [a0,a1,a2],_,_,hA=>exact MX A kc a0 a1 a2 w hA
 | [a0,a1,a2,a3],_,_,hA=>exact MY A kc a0 a1 a2 a3 w hA
 | [a0,a1,a2,a3,a4],_,_,hA=>exact MZ A kc a0 a1 a2 a3 a4 w hA
 | [a0,a1,a2,a3,a4,a5],_,_,hA=>exact M_ A kc a0 a1 a2 a3 a4 a5 w hA
 | [a0,a1,a2,a3,a4,a5,a6],_,_,hA=>exact NA A kc a0 a1 a2 a3 a4 a5 a6 w hA
 | [a0,a1,a2,a3,a4,a5,a6,a7],_,_,hA=>exact NB A kc a0 a1 a2 a3 a4 a5 a6 a7 w hA
 |_::_::_::_::_::_::_::_::_::_,_,h8,_=>simp at h8
theorem ND:ArrKey prog 169 3 9:=⟨underlying169,by kernel_rfl,by kernel_rfl,by kernel_rfl⟩
theorem rZ:Keyed prog 169:=Keyed.of_law ND.law
noncomputable def iI(zs:Li):Lit:=(keyOf prog 169 (kF zs)).getD (.bool false)
def kok(zs:Li):Prop:=zs.length<=8/\∀z∈zs,(Lit.int .i64 z).wf=true
theorem PI{α:Type}(l:List α)(h:l.length=9):∃a b c d e f g i j,l=[a,b,c,d,e,f,g,i,j]:=by
 match l,h with
 | [a,b,c,d,e,f,g,i,j],_=>exact⟨a,b,c,d,e,f,g,i,j,rfl⟩
theorem MR(l:Li)(h:l.length=9)(hw:∀z∈l,(Lit.int .i64 z).wf=true):(keyOf prog 169 (.agg (l.map (Value.int .i64)).toArray)).isSome=true:=by
 obtain⟨z0,z1,z2,z3,z4,z5,z6,z7,z8,rfl⟩:=PI l h;have w0:=hw z0 (by simp);have w1:=hw z1 (by simp);have w2:=hw z2 (by simp);have w3:=hw z3 (by simp);have w4:=hw z4 (by simp);have w5:=hw z5 (by simp);have w6:=hw z6 (by simp);have w7:=hw z7 (by simp);have w8:=hw z8 (by simp);have hk:prog.keyType 169=true:=by kernel_rfl
 have hu:=underlying169;have hi:=underlying3;have hc9:prog.cellsOf 169=9:=by kernel_rfl
 have hc1:prog.cellsOf 3=1:=by kernel_rfl
 obtain⟨m,hm⟩:∃m,prog.types.size=m+1:=⟨prog.types.size-1,by kernel_rfl⟩;unfold keyOf;rw[hu];simp only[hk,hm,Value.formed,hu,hc9];unfold Program.keyLits;rw[hu];simp only[hc9,hc1];simp[Program.keyLits,hi,w0,w1,w2,w3,w4,w5,w6,w7,w8,List.range,List.range.loop,Value.cells]
theorem MU{zs:Li}(h:zs.length<=8):(gQ zs).length=9:=by simp[gQ];omega
theorem oU{zs:Li}(h:kok zs):keyOf prog 169 (kF zs)=Z (iI zs):=by
 have h9:=MR (gQ zs) (MU h.1) (fun z hz=>by
  simp only[gQ,List.mem_cons,List.mem_append,List.mem_replicate]at hz
  rcases hz with rfl|hz|⟨_,rfl⟩
  ·have:=h.1;exact pL (by omega) (by omega)
  ·exact h.2 z hz
  ·exact pL (by omega) (by omega))
 unfold iI;have e:kF zs=.agg ((gQ zs).map (Value.int .i64)).toArray:=rfl;rw[e];cases hk:keyOf prog 169 (.agg ((gQ zs).map (Value.int .i64)).toArray)with
 |none=>rw[hk]at h9;cases h9
 |some x=>rfl
theorem NC{xs ys:Li}(h:kF xs=kF ys):xs=ys:=by
 have h1:(gQ xs).map (Value.int .i64)=(gQ ys).map (Value.int .i64):=by
  injection h with h;exact congrArg Array.toList h
 have h2:gQ xs=gQ ys:=(List.map_inj_right (fun a b e=>by injection e)).1 h1;unfold gQ at h2;injection h2 with h3 h4;exact(List.append_inj h4 (by omega)).1
theorem NH{xs ys:Li}(hx:kok xs)(hy:kok ys)(h:iI xs=iI ys):xs=ys:=by
 refine NC ?_;have a:=oU hx;have b:=oU hy;rw[h]at a;exact rZ.inj a b
def aC(es:List Ent)(zs:Li):Option (List Elt):=es.foldl (fun r x=>if x.codes=zs then Z x.elems else r) N
theorem NP(l:List Ent)(x:Ent)(zs:Li):aC (l++[x]) zs=if x.codes=zs then Z x.elems else aC l zs:=by simp[aC,List.foldl_append]
theorem NQ{es:List Ent}{i:Nat}(hi:i<es.length)(zs:Li):aC (es.take (i+1)) zs=if es[i].codes=zs then Z es[i].elems else aC (es.take i) zs:=by
 rw[List.take_succ_eq_append_getElem hi,NP]
def cP(es:List Ent):Int:=es.foldl (fun r x=>max r (x.codes.length:Int)) 0
theorem N_{es:List Ent}{i:Nat}(hi:i<es.length):cP (es.take (i+1))=max (cP (es.take i)) (es[i].codes.length:Int):=by
 rw[List.take_succ_eq_append_getElem hi];unfold cP;rw[List.foldl_append];rfl
theorem sD{es:List Ent}{k:Nat}(h:∀x∈es,x.codes.length<=k):0<=cP es/\cP es<=k:=by
 unfold cP;have:∀(l:List Ent)(r:Int),(∀x∈l,x.codes.length<=k)->0<=r->r<=k->0<=l.foldl (fun r x=>max r (x.codes.length:Int)) r/\l.foldl (fun r x=>max r (x.codes.length:Int)) r<=k:=by
  intro l;induction l with
  |nil=>intro r _ h0 h1;exact⟨h0,h1⟩
  |cons x l ih=>
   intro r hl h0 h1;have hx:=hl x (by simp);exact ih _ (fun y hy=>hl y (by simp[hy])) (by dsimp only;omega) (by dsimp only;omega)
 exact this es 0 h (by omega) (by omega)
theorem NZ{es:List Ent}{x:Ent}(h:x∈es):(x.codes.length:Int)<=cP es:=by
 unfold cP;have mono:∀(l:List Ent)(r:Int),r<=l.foldl (fun r x=>max r (x.codes.length:Int)) r:=by
  intro l;induction l with
  |nil=>intro r;exact Int.le_refl _
  |cons y l ih=>intro r;exact Int.le_trans (by dsimp only;omega) (ih _)
 have:∀(l:List Ent)(r:Int),x∈l->(x.codes.length:Int)<=l.foldl (fun r x=>max r (x.codes.length:Int)) r:=by
  intro l;induction l with
  |nil=>intro r h;cases h
  |cons y l ih=>
   intro r h;rcases List.mem_cons.1 h with rfl|h
   ·exact Int.le_trans (by dsimp only;omega) (mono l _)
   exact ih _ h
 exact this es 0 h
theorem jI{es:List Ent}{zs:Li}{e:List Elt}(h:aC es zs=Z e):∃x∈es,x.codes=zs/\x.elems=e:=by
 unfold aC at h;have:∀(l:List Ent)(r:Option (List Elt)),l.foldl (fun r x=>if x.codes=zs then Z x.elems else r) r=Z e->r=Z e\/∃x∈l,x.codes=zs/\x.elems=e:=by
  intro l;induction l with
  |nil=>intro r h;exact .inl h
  |cons y l ih=>
   intro r h;rcases ih _ h with h1|⟨x,hx,h2⟩
   ·dsimp only at h1
    split at h1
    ·next hy=>injection h1 with h1;exact .inr ⟨y,by simp,hy,h1⟩
    exact .inl h1
   exact .inr ⟨x,by simp[hx],h2⟩
 rcases this es N h with h|h
 ·cases h
 exact h
def fQ(w:Wv)(f:Li->Option Value)(es:List Ent):Prop:=
 ∀zs,kok zs->match aC es zs with|none=>f zs=N|some e=>∃E d,f zs=Z (H E e.length d)/\cB w E e
theorem fQ.nil(w:Wv):fQ w (fun _=>N) []:=fun _ _=>rfl
theorem fQ.below{w w':Wv}{f:Li->Option Value}{es:List Ent}(h:fQ w f es)(hb:By w w'):fQ w' f es:=fun zs hz=>by
 have:=h zs hz;cases hl:aC es zs with
 |none=>rw[hl]at this;exact this
 |some e=>
  rw[hl]at this;obtain⟨E,d,h1,h2⟩:=this;exact⟨E,d,h1,h2.below hb⟩
theorem fQ.put{w:Wv}{f:Li->Option Value}{es:List Ent}{i:Nat}(h:fQ w f (es.take i))(hi:i<es.length){E:Oa}{d:Nat}(hE:cB w E es[i].elems):
  fQ w (fun y=>if y=es[i].codes then Z (H E es[i].elems.length d)else f y) (es.take (i+1)):=fun zs hz=>by
 rw[NQ hi];by_cases e:es[i].codes=zs
 ·rw[if_pos e]
  dsimp only;rw[if_pos e.symm];exact⟨E,d,rfl,hE⟩
 rw[if_neg e];dsimp only;rw[if_neg (fun x=>e x.symm)];exact h zs hz
def a_(c:Col):Col:=if aH c=0 then c else⟨[],[],64448,32,2⟩
def kO(A:Oa)(n a:Nat)(B:Oa)(m b:Nat)(c:Col)(M:Nat)(long:Int)(cl:Value)(top:Int):Lv:=
 [H A n a,H B m b,I J c.base,I J c.second,I J c.third,.map (Z M),I J long,cl,I J top]
structure dE(w:Wv)(T:Nat)(c:Col)(cl:Value)(top:Int):Prop where
 ex:∃A n a B m b M k f,Box w T 167 (kO A n a B m b c M (cP c.ents) cl top)/\aR prog 169 iI kok w M k f/\fQ w f c.ents
theorem dE.below{w w':Wv}{T:Nat}{c:Col}{cl:Value}{top:Int}(h:dE w T c cl top)(hb:By w w'):dE w' T c cl top:=by
 obtain⟨A,n,a,B,m,b,M,k,f,h1,h3,h4⟩:=h.ex;exact⟨A,n,a,B,m,b,M,k,f,h1.below hb h1.lt,h3.below hb,h4.below hb⟩
def qF(c:Col)(w:Wv)(e:Ending)(w':Wv):Prop:=∃T,e=.returned (.pointer (Z ⟨T,0,N⟩))/\w.heap.size<=T/\dE w' T c (H N 0 0) 0/\By w w'
theorem oK{base:Int}{es:List Ent}{p:Option Ent}(h:dR base es p=0):∀x∈es,bJ base x=0:=by
 induction es generalizing p with
 |nil=>intro x hx;cases hx
 |cons y r ih=>
  intro x hx;unfold dR at h;by_cases h1:bJ base y=0
  ·rcases List.mem_cons.1 hx with rfl|hx
   ·exact h1
   simp only[h1,ne_eq,not_true_eq_false,if_false]at h;cases p with
   |none=>exact ih h x hx
   |some z=>
    simp only at h;split at h
    ·cases h
    exact ih h x hx
  rw[if_pos h1]at h;exact absurd h h1
theorem lU{base:Int}{x:Ent}(h:bJ base x=0):1<=x.codes.length/\x.codes.length<=8/\x.elems.length<=16/\∀z∈x.codes,0<=z/\z<=1114111:=by
 unfold bJ at h;split at h
 ·cases h
 next h1=>
 split at h
 ·cases h
 next h2=>
 refine⟨by omega,by omega,by omega,fun z hz=>?_⟩;simp at h2;exact h2 z hz
theorem eY{c:Col}(h:aH c=0):dR c.base c.ents N=0:=by
 unfold aH at h;split at h
 ·cases h
 split at h
 ·next h1=>exact absurd h h1
 exact h
theorem GI{base:Int}{x:Ent}(h:bJ base x=0):kok x.codes:=by
 obtain⟨_,h8,_,hz⟩:=lU h;exact⟨h8,fun z hz'=>by have:=hz z hz';exact pL (by omega) (by omega)⟩
theorem GH{c:Col}(h:aH c=0){i:Nat}(hi:i<c.ents.length):kok c.ents[i].codes/\1<=c.ents[i].codes.length/\c.ents[i].codes.length<=8:=by
 have:=oK (eY h) _ (List.getElem_mem hi);exact⟨GI this,(lU this).1,(lU this).2.1⟩
theorem w_(A:Oa)(n a:Nat)(B:Oa)(m b:Nat)(c:Col)(w:Wv)(h:aY w A n B m c)(hz:aZ c)(he:aH c=0):
  Calls prog 60 #[aS A n a B m b c] w (qF c w):=by
 have B0:By w (w.alloc (.cells #[H A n a,H B m b,I J c.base,I J c.second,I J c.third] 32)):=ba _ _;have s0:(w.alloc (.cells #[H A n a,H B m b,I J c.base,I J c.second,I J c.third] 32)).heap.size=w.heap.size+1:=by simp
 have k0:(w.alloc (.cells #[H A n a,H B m b,I J c.base,I J c.second,I J c.third] 32)).cell? ⟨w.heap.size,0,N⟩=Z (H A n a):=by simp
 have k1:(w.alloc (.cells #[H A n a,H B m b,I J c.base,I J c.second,I J c.third] 32)).cell? ⟨w.heap.size,1,N⟩=Z (H B m b):=by simp
 have k2:(w.alloc (.cells #[H A n a,H B m b,I J c.base,I J c.second,I J c.third] 32)).cell? ⟨w.heap.size,2,N⟩=Z (I J c.base):=by simp
 have k3:(w.alloc (.cells #[H A n a,H B m b,I J c.base,I J c.second,I J c.third] 32)).cell? ⟨w.heap.size,3,N⟩=Z (I J c.second):=by simp
 have k4:(w.alloc (.cells #[H A n a,H B m b,I J c.base,I J c.second,I J c.third] 32)).cell? ⟨w.heap.size,4,N⟩=Z (I J c.third):=by simp
 have W0E:∃W0,w.alloc (.cells #[H A n a,H B m b,I J c.base,I J c.second,I J c.third] 32)=W0:=⟨_,rfl⟩;have CK:=G (fun W(hb:By w W)=>oH A n a B m b c W (h.below hb) hz);have HE:=G h.ents;have hn:=h.hn;have hnz:=hz.n;have HCD:=G (fun i hi=>GH he (i:=i) hi);have HER:=G he;have LB:=G (fun i=>sD (es:=c.ents.take i) (k:=8) (fun x hx=>(lU (oK (eY he) x (List.mem_of_mem_take hx))).2.1));have hmm:=@run_makeMap prog;clear h hz he;unfold aS at *;subst hn;go_enter func60,ntmps60;go_wp2_with fail;obtain⟨W0,hW0⟩:=W0E;rw[hW0]at B0 s0 k0 k1 k2 k3 k4|-;clear hW0;have hx0:w.heap.size<W0.heap.size:=by omega
 with_reducible refine(CK.out W0 B0).mono ?_
 rw[HER.out];rintro e W1 ⟨rfl,hb1⟩;clear CK;have hb2:=B0.trans (hb1.mono B0.size);have f0:=(hb1.cell (p:=⟨w.heap.size,0,N⟩) hx0).trans k0;have f1:=(hb1.cell (p:=⟨w.heap.size,1,N⟩) hx0).trans k1;have f2:=(hb1.cell (p:=⟨w.heap.size,2,N⟩) hx0).trans k2;have f3:=(hb1.cell (p:=⟨w.heap.size,3,N⟩) hx0).trans k3;have f4:=(hb1.cell (p:=⟨w.heap.size,4,N⟩) hx0).trans k4;have hx1:w.heap.size<W1.heap.size:=by have:=hb1.size;omega
 have hx2:¬w.heap.size=W1.heap.size:=by omega
 have hx3:¬w.heap.size=W1.heap.size+1:=by omega
 have KC:=G (And.intro f0 (And.intro f1 (And.intro f2 (And.intro f3 f4))));clear k0 k1 k2 k3 k4;have B2:By W1 ((W1.alloc (.map #[] 0)).alloc (.cells #[H A c.ents.length a,H B m b,I J c.base,I J c.second,I J c.third,.map (Z W1.heap.size),I J 0,H N 0 0,I J 0] 167)):=(ba _ _).alloc (by simp) _;have X2:Box ((W1.alloc (.map #[] 0)).alloc (.cells #[H A c.ents.length a,H B m b,I J c.base,I J c.second,I J c.third,.map (Z W1.heap.size),I J 0,H N 0 0,I J 0] 167)) (W1.heap.size+1) 167 (kO A c.ents.length a B m b c W1.heap.size (0) (H N 0 0) 0):=Box.new _ _ _ (by simp);have M2:aR prog 169 iI kok ((W1.alloc (.map #[] 0)).alloc (.cells #[H A c.ents.length a,H B m b,I J c.base,I J c.second,I J c.third,.map (Z W1.heap.size),I J 0,H N 0 0,I J 0] 167)) W1.heap.size 0 (fun _=>N):=(aR.made prog _ iI kok W1).alloc _;have s2:((W1.alloc (.map #[] 0)).alloc (.cells #[H A c.ents.length a,H B m b,I J c.base,I J c.second,I J c.third,.map (Z W1.heap.size),I J 0,H N 0 0,I J 0] 167)).heap.size=W1.heap.size+2:=by simp
 have W2E:∃W2,(W1.alloc (.map #[] 0)).alloc (.cells #[H A c.ents.length a,H B m b,I J c.base,I J c.second,I J c.third,.map (Z W1.heap.size),I J 0,H N 0 0,I J 0] 167)=W2:=⟨_,rfl⟩;go_wp2_with fail;obtain⟨W2,hW2⟩:=W2E;rw[hW2]at B2 X2 M2 s2|-;clear hW2 f0 f1 f2 f3 f4;have HX2:=G X2;have HM2:=G M2;clear X2 M2 hmm;have L0:=U (cP (c.ents.take 0)=0) rfl;go_loopw [5,17] (fun _ u wr=>∃(i:Nat)(f:Li->Option Value),i<=c.ents.length/\u=I J i/\Box wr (W1.heap.size+1) 167 (kO A c.ents.length a B m b c W1.heap.size (cP (c.ents.take i)) (H N 0 0) 0)/\aR prog 169 iI kok wr W1.heap.size i f/\fQ W1 f (c.ents.take i)/\By W1 wr) (fun _ u _=>c.ents.length-(intOf u).toNat)
 case atStart=>exact⟨0,fun _=>N,Nat.zero_le _,rfl,HX2.out,HM2.out,by rw[List.take_zero];exact fQ.nil _,B2⟩
 obtain⟨i,f,hi,rfl,hX,hM,hT,hbr⟩:=hrel;have HX:=G hX;have HM:=G hM;have HT:=G hT;have hXl:=hX.lt;clear hX hM hT HX2 HM2 L0;by_cases hlt:i<c.ents.length
 ·obtain⟨b1,o1,rfl,hbl,hcell⟩:=(HE.out.below hb2).at hlt
  obtain⟨C,cc,E,dd,c1',c2',hC,hE⟩:=hcell i hlt;obtain⟨hkok,hl1,hl8⟩:=HCD.out i hlt;have c1:=(hbr.cell (p:=⟨b1,o1+i*2,N⟩) hbl).trans c1';have c2:=(hbr.cell (p:=⟨b1,o1+i*2+1,N⟩) hbl).trans c2';have HKK:=G hkok;have HINT:=G (fun W(hb:By W1 W)=>hC.below hb);have LS:=G (N_ hlt);have lb:=LB.out i;have lb1:=LB.out (i+1);have TP:=G (HT.out.put hlt (E:=E) (d:=dd) hE);have hbl2:b1<wr.heap.size:=Nat.lt_of_lt_of_le hbl hbr.size;have hn1:¬b1=wr.heap.size:=by omega
  clear hcell hkok hC hE c1' c2' HT;generalize c.ents[i].codes=cds at *;generalize c.ents[i].elems=els at *;have Ba:By wr (wr.alloc (.cells #[H C cds.length cc,H E els.length dd] 75)):=ba _ _;have Xa:Box (wr.alloc (.cells #[H C cds.length cc,H E els.length dd] 75)) wr.heap.size 75 [H C cds.length cc,H E els.length dd]:=Box.new _ _ _ rfl;have sa:(wr.alloc (.cells #[H C cds.length cc,H E els.length dd] 75)).heap.size=wr.heap.size+1:=by simp
  have WaE:∃Wa,wr.alloc (.cells #[H C cds.length cc,H E els.length dd] 75)=Wa:=⟨_,rfl⟩;go_wp2_with fail;obtain⟨Wa,hWa⟩:=WaE;rw[hWa]at Ba Xa sa|-;clear hWa c1 c2;have XT:=HX.out.below Ba hXl;have t5:=XT.cell (i:=5) (v:=.map (Z W1.heap.size)) rfl;have e0:=Xa.c 0 rfl;have e1:=Xa.c 1 rfl;have HXT:=G XT;have HXA:=G Xa;have hba:=hbr.trans (Ba.mono hbr.size)
  have KY:=G ((wP C cds.length cc cds Wa.drew (HINT.out _ hba.drew) rfl hl1 hl8).mono (R':=fun e w'=>e=.returned (kF cds)/\(w'.cell? ⟨W1.heap.size+1,5,N⟩=Z (.map (Z W1.heap.size))/\w'.cell? ⟨wr.heap.size,0,N⟩=Z (H C cds.length cc)/\w'.cell? ⟨wr.heap.size,1,N⟩=Z (H E els.length dd))/\By Wa w') (fun e w'⟨he,hb⟩=>by
   have hb':By Wa w':=((Below.refl _ Wa).drew).trans hb
   exact⟨he,⟨(hb'.cell (p:=⟨W1.heap.size+1,5,N⟩) (show W1.heap.size+1<_ by omega)).trans t5,(hb'.cell (p:=⟨wr.heap.size,0,N⟩) (show wr.heap.size<_ by omega)).trans e0,(hb'.cell (p:=⟨wr.heap.size,1,N⟩) (show wr.heap.size<_ by omega)).trans e1⟩,hb'⟩))
  clear XT Xa;refine wp_region_held_drew (S:=fun W'=>W'.cell? ⟨W1.heap.size+1,5,N⟩=Z (.map (Z W1.heap.size))/\W'.cell? ⟨wr.heap.size,0,N⟩=Z (H C cds.length cc)/\W'.cell? ⟨wr.heap.size,1,N⟩=Z (H E els.length dd)) (by kernel_rfl) ⟨t5,e0,e1⟩ (fun hHeld=>?_);refine tK 0 21 ?_;refine tK 1 22 ?_;refine tK 2 23 ?_;refine tK 3 24 ?_;refine tK 4 25 ?_;refine tK 5 26 ?_;refine tK 7 28 ?_;refine tK 8 29 ?_;refine kT (R:=fun W'=>By Wa W') (i:=6) (Z 27) rfl rfl (by kernel_rfl) (by rfl) (by go_simp) KY.out (fun w6 hS6 hR6=>?_);clear hHeld KY;have hHeld:=hS6;clear hS6;try simp only[Act.put,sA,sB,sC]
  have hwb:=Ba.trans (hR6.mono Ba.size);refine DD (val:=H E els.length dd) (i:=9) N rfl rfl (by kernel_rfl) (by rfl) _ _ _ _ rfl (HM.out.below hwb) rZ underlying165 (by unfold maxLen;omega) rfl rfl rfl HKK.out (oU HKK.out) (fun y hy e=>NH hy HKK.out e) (fun w' hg=>?_) (fun w7 hM7 hg7=>?_)
  ·have h6:=hR6.size
   exact⟨(World.cell?_of_block (hg.block (W1.heap.size+1) (by omega) (by simp))).trans hHeld.1,(World.cell?_of_block (hg.block wr.heap.size (by omega) (by simp;omega))).trans hHeld.2.1,(World.cell?_of_block (hg.block wr.heap.size (by omega) (by simp;omega))).trans hHeld.2.2⟩
  refine wpAnyH_done (by kernel_rfl) ?_ _;have h6:=hR6.size;have hb7:=lO (hba.trans (hR6.mono (by omega:W1.heap.size<=Wa.heap.size))) hg7 (Nat.le_refl _) (by omega);have X7:=(HXT.out.below hR6 (by omega)).grown hg7 (by simp);have Y7:=(HXA.out.below hR6 (by omega)).grown hg7 (by simp;omega);have HX7:=G X7;have HM7:=G hM7;have t6:=X7.cell (i:=6) (v:=I J (cP (c.ents.take i))) rfl;have z6:=X7.free 6;have u0:=Y7.c 0 rfl;have g7:=hg7.size;clear X7 Y7 hM7 hg7 HM HX HXT HXA hHeld t5 e0 e1;generalize cP (c.ents.take i)=l0 at *;obtain⟨mx,hmx2⟩:∃m,max l0 (cds.length:Int)=m:=⟨_,rfl⟩;have hmx:(if l0<(cds.length:Int)then(cds.length:Int)else l0)=mx:=by rw[<-hmx2];split<;>omega
  have HMX:=G hmx;go_wp2_with fail;go_region
  all_goals
   go_wp2_with fail;go_roundw
   case rel=>
    have e:mx=cP (c.ents.take (i+1)):=by rw[LS.out,<-HMX.out];split<;>omega
    refine⟨i+1,_,by omega,by go_num,?_,(HM7.out.kept (bT _ _ _) (by simp)).below ((Below.refl _ _).drew),TP.out,(hb7.setCell (p:=⟨W1.heap.size+1,6,N⟩) (by show W1.heap.size<=W1.heap.size+1;omega) _).drew⟩;rw[e];exact HX7.out.set 6 _
   simp[intOf];omega
 obtain rfl:i=c.ents.length:=by omega
 have hXX:=HX.out;have hTT:=HT.out;rw[List.take_length]at hXX hTT;have HXX:=G hXX;have HTT:=G hTT;clear hXX hTT HT HX;go_wp2_with fail;go_ret;exact⟨W1.heap.size+1,rfl,by omega,⟨A,c.ents.length,a,B,m,b,W1.heap.size,_,_,HXX.out,HM.out,HTT.out.below hbr⟩,hb2.trans (hbr.mono hb2.size)⟩
def pW(r:Option (List Elt))(w:Wv)(e:Ending)(w':Wv):Prop:=∃E d,e=.returned (.tuple #[H E (r.getD []).length d,.bool r.isSome])/\cB w' E (r.getD [])/\By w w'
theorem XU(w:Wv):(zeroValue 54).run prog w=.ok (H N 0 0) w:=by kernel_rfl
theorem fQ.at{w:Wv}{f:Li->Option Value}{es:List Ent}(h:fQ w f es){zs:Li}(hz:kok zs):
  ∃E d,(f zs).getD (H N 0 0)=H E ((aC es zs).getD []).length d/\(f zs).isSome=(aC es zs).isSome/\cB w E ((aC es zs).getD []):=by
 have:=h zs hz;cases hl:aC es zs with
 |none=>rw[hl]at this;simp only at this;rw[this];exact⟨N,0,rfl,rfl,Sl.nil _ _⟩
 |some e=>
  rw[hl]at this;obtain⟨E,d,h1,h2⟩:=this;rw[h1];exact⟨E,d,rfl,rfl,h2⟩
theorem NM{es:List Ent}(h:∀x∈es,1<=x.codes.length):aC es []=N:=by
 cases hl:aC es []with
 |none=>rfl
 |some e=>
  obtain⟨x,hx,h1,_⟩:=jI hl;have:=h x hx;rw[h1]at this;simp at this
theorem wR{es:List Ent}{zs:Li}(h:cP es<(zs.length:Int)):aC es zs=N:=by
 cases hl:aC es zs with
 |none=>rfl
 |some e=>
  obtain⟨x,hx,h1,_⟩:=jI hl;have:=NZ hx;rw[h1]at this;omega
theorem zM(T:Nat)(c:Col)(cl:Value)(top:Int)(C:Oa)(n cc:Nat)(zs:Li)(w:Wv)(hT:dE w T c cl top)(hC:aB w C zs)(hn:zs.length=n)(hn2:n<=1048576)
  (hE:∀x∈c.ents,1<=x.codes.length/\x.codes.length<=8) (hw:∀z∈zs,(Lit.int .i64 z).wf=true) :
  Calls prog 61 #[.pointer (Z ⟨T,0,N⟩),H C n cc] w (pW (aC c.ents zs) w):=by
 obtain⟨A,n',a,B,m,b,M,k,f,hX,hM,hTF⟩:=hT.ex;subst hn;have t5:=hX.cell (i:=5) (v:=.map (Z M)) rfl;have t6:=hX.cell (i:=6) (v:=.int .i64 (cP c.ents)) rfl;have hlt:=hX.lt;have LB:=sD (k:=8) (fun x hx=>(hE x hx).2);have L1:=G (NM (fun x hx=>(hE x hx).1));have L2:=G (wR (es:=c.ents) (zs:=zs));have HAT:=G (fun hk=>hTF.at (zs:=zs) hk);have HM:=G hM;have KY:=G (fun W(hb:By w W)h1 h8=>wP C zs.length cc zs W (hC.below hb) rfl h1 h8);have HW:=G hw;clear hX hTF hM hT hw hE;by_cases h0:zs.length=0
 ·have hz:zs=[]:=List.length_eq_zero_iff.1 h0
  subst hz;rw[L1.out];clear L1 L2 HAT KY HW;go_enter func61,ntmps61;go_wp2_with fail;go_ret2;exact⟨N,0,rfl,Sl.nil _ _,Below.refl _ _⟩
 by_cases h1:cP c.ents<(zs.length:Int)
 ·rw[L2.out h1]
  clear L1 L2 HAT KY HW;have q0:((zs.length:Int)==0)=false:=by rw[beq_eq_false_iff_ne];omega
  have q1:decide (cP c.ents<(zs.length:Int))=true:=by simpa using h1
  generalize cP c.ents=lg at *;go_enter func61,ntmps61;go_wp2_with fail;go_ret2;exact⟨N,0,rfl,Sl.nil _ _,Below.refl _ _⟩
 have q0:((zs.length:Int)==0)=false:=by rw[beq_eq_false_iff_ne];omega
 have q1:decide (cP c.ents<(zs.length:Int))=false:=by simpa using h1
 have hkok:kok zs:=⟨by omega,HW.out⟩;obtain⟨E,d,v1,v2,hEl⟩:=HAT.out hkok;have HEL:=G hEl;have HV:=G (And.intro v1 v2);have HKK:=G hkok
 have KY2:=G (fun W(hb:By w W)=>(KY.out W hb (by omega) (by omega)).mono (R':=fun e w'=>e=.returned (kF zs)/\(w'.cell? ⟨T,5,N⟩=Z (.map (Z M))/\By w w')) (fun e w'⟨he,hb'⟩=>by
  have hb2:=hb.trans (hb'.mono hb.size)
  exact⟨he,(hb2.cell (p:=⟨T,5,N⟩) hlt).trans t5,hb2⟩))
 clear L1 L2 HAT KY HW hkok v1 v2 hEl;generalize cP c.ents=lg at *;generalize aC c.ents zs=r at *;go_enter func61,ntmps61;go_wp2_with fail;refine wp_region_held_drew (S:=fun W'=>W'.cell? ⟨T,5,N⟩=Z (.map (Z M))/\By w W') (by kernel_rfl) ⟨t5,(Below.refl _ _).drew⟩ (fun hHeld=>?_);refine tK 0 21 ?_;refine tK 1 22 ?_;refine tK 2 23 ?_;refine tK 3 24 ?_;refine tK 4 25 ?_;refine qK 5 26 (KY2.out _ hHeld.2) ?_;clear hHeld;intro w6 hHeld;refine DB (v:=.tuple #[H E (r.getD []).length d,.bool r.isSome]) (i:=6) (Z 27) rfl rfl (by kernel_rfl) (by kernel_rfl) (by kernel_rfl) (fun _ _ _ h=>h) (by rfl) (by assumption) _ _ _ rfl (fun w' hS'=>HM.out.below hS'.2) rZ underlying165 XU rfl rfl HKK.out (oU HKK.out) (by rw[HV.out.1,HV.out.2]) ?_;try simp only[Act.put,sA,sB,sC]
 refine tK 7 20 ?_;refine tK 8 28 ?_;refine tK 9 29 ?_;refine tK 10 6 ?_;refine tK 11 7 ?_;refine wpAnyH_done (by kernel_rfl) ?_ _;go_wp2_with fail;go_ret2;exact⟨E,d,rfl,HEL.out.below hHeld.2,hHeld.2⟩
theorem tL{c:Col}(h:aH c=0):∀x∈c.ents,1<=x.codes.length/\x.codes.length<=8:=fun x hx=>by
 have:=lU (oK (eY h) x hx);exact⟨this.1,this.2.1⟩
theorem wS{c:Col}(h:aH c=0)(zs:Li):((aC c.ents zs).getD []).length<=16:=by
 cases hl:aC c.ents zs with
 |none=>simp
 |some e=>
  obtain⟨x,hx,_,h2⟩:=jI hl;have:=(lU (oK (eY h) x hx)).2.2.1;rw[h2]at this;exact this
theorem AU(A:Oa)(n a:Nat)(B:Oa)(m b:Nat)(c:Col)(C:Oa)(kn kc:Nat)(zs:Li)(w:Wv)(h:aY w A n B m c)(hz:aZ c)(he:aH c=0)
  (hC:aB w C zs) (hn:zs.length=kn) (hn2:kn<=1048576) (hw:∀z∈zs,(Lit.int .i64 z).wf=true) :
  Calls prog 20 #[aS A n a B m b c,H C kn kc] w (pW (aC c.ents zs) w):=by
 have B0:By w (w.alloc (.cells #[H A n a,H B m b,.int .i64 c.base,.int .i64 c.second,.int .i64 c.third] 32)):=ba _ _;have k0:(w.alloc (.cells #[H A n a,H B m b,.int .i64 c.base,.int .i64 c.second,.int .i64 c.third] 32)).cell? ⟨w.heap.size,0,N⟩=Z (H A n a):=by simp
 have k1:(w.alloc (.cells #[H A n a,H B m b,.int .i64 c.base,.int .i64 c.second,.int .i64 c.third] 32)).cell? ⟨w.heap.size,1,N⟩=Z (H B m b):=by simp
 have k2:(w.alloc (.cells #[H A n a,H B m b,.int .i64 c.base,.int .i64 c.second,.int .i64 c.third] 32)).cell? ⟨w.heap.size,2,N⟩=Z (.int .i64 c.base):=by simp
 have k3:(w.alloc (.cells #[H A n a,H B m b,.int .i64 c.base,.int .i64 c.second,.int .i64 c.third] 32)).cell? ⟨w.heap.size,3,N⟩=Z (.int .i64 c.second):=by simp
 have k4:(w.alloc (.cells #[H A n a,H B m b,.int .i64 c.base,.int .i64 c.second,.int .i64 c.third] 32)).cell? ⟨w.heap.size,4,N⟩=Z (.int .i64 c.third):=by simp
 have W0E:∃W0,(w.alloc (.cells #[H A n a,H B m b,.int .i64 c.base,.int .i64 c.second,.int .i64 c.third] 32))=W0:=⟨_,rfl⟩;have MC:=G (fun W(hb:By w W)=>w_ A n a B m b c W (h.below hb) hz he);have FC:=G (fun T W(hb:By w W)hT=>zM T c (H N 0 0) 0 C kn kc zs W hT (hC.below hb) hn hn2 (tL he) hw);have HL:=wS he zs;clear h hz he hC hw;unfold aS at *;generalize aC c.ents zs=r at *;go_enter func20,ntmps20;go_wp2_with fail;obtain⟨W0,hW0⟩:=W0E;rw[hW0]at B0 k0 k1 k2 k3 k4|-;clear hW0;with_reducible refine(MC.out W0 B0).mono ?_
 rintro e W1 ⟨T,rfl,hT0,hT,hb1⟩;have hb2:=B0.trans (hb1.mono B0.size);have HT:=G hT;clear MC hT k0 k1 k2 k3 k4;go_wp2_with fail;with_reducible refine(FC.out T W1 hb2 HT.out).mono ?_
 rintro e W2 ⟨E,d,rfl,hE,hb3⟩;have hb4:=hb2.trans (hb3.mono hb2.size);have CE:=G (qR E (r.getD []).length d (r.getD []) W2 hE rfl (by omega));clear FC hE;go_wp2_with fail;with_reducible refine CE.out.mono ?_
 rintro e W3 ⟨E3,d3,rfl,hown,hb5⟩;have HO:=G hown;clear CE hown;go_wp2_with fail;go_ret2;exact⟨E3,d3,rfl,Sl.of_own HO.out,hb4.trans (hb5.mono hb4.size)⟩
end
end Go.Proofs.YtkhmjidaeliccaaGreatDoor
