import Derived.Test.YtpfbnikbebccjaaGreatDoorU00
import Derived.Test.YtpfbnikbebccjaaGreatDoorU09
import Derived.Test.YtpfbnikbebccjaaGreatDoorU10
import Derived.Test.YtpfbnikbebccjaaGreatDoorU17
import Derived.Test.YtpfbnikbebccjaaGreatDoorU18
import Derived.Test.YtpfbnikbebccjaaGreatDoorU19
set_option maxRecDepth 100000
set_option maxHeartbeats 51200000
namespace Go.Proofs.YtpfbnikbebccjaaGreatDoor
open Option renaming none->N,some->Z
open Value renaming int->I,slice->H
open IntKind renaming i64->J
open Go.Proofs.Tryz
section
open Go.RowKit Go.Maps Go.WideMaps
theorem AY(tmps:Array Value)(w:Wv){b:Nat}{v0 v1:Value}{z0 z1 z2:Int}(ha:tmps.getD 2 undef=.pointer (Z ⟨b,0,N⟩))
  (c0:w.cell? ⟨b,0,N⟩=Z v0) (c1:w.cell? ⟨b,1,N⟩=Z v1) (c2:w.cell? ⟨b,2,N⟩=Z (I J z0)) (c3:w.cell? ⟨b,3,N⟩=Z (I J z1)) (c4:w.cell? ⟨b,4,N⟩=Z (I J z2)) :
  (results f151 tmps).run prog w=.ok (.agg #[v0,v1,I J z0,I J z1,I J z2]) w:=by
 have hr:f151.results=#[.cell 2 32]:=rfl;unfold results;rw[hr];simp only[ha,List.mapM_toArray,List.mapM_cons,List.mapM_nil,asAddr];go_simp
theorem LA(A:Oa)(n a:Nat)(B:Oa)(m b:Nat)(c:Col)(w:Wv)(h:aU w A n B m c)(hz:bW c)(he:aW c=0):
  Calls prog 151 #[aQ A n a B m b c] w (fun e w'=>e=.returned (aQ A n a B m b c)/\By w w'):=by
 have B0:By w ((w.alloc (.cells #[H A n a,H B m b,I J c.base,I J c.second,I J c.third] 32)).alloc (.cells #[H N 0 0,H N 0 0,I J 0,I J 0,I J 0] 32)):=(ba _ _).alloc (by simp) _;have s0:((w.alloc (.cells #[H A n a,H B m b,I J c.base,I J c.second,I J c.third] 32)).alloc (.cells #[H N 0 0,H N 0 0,I J 0,I J 0,I J 0] 32)).heap.size=w.heap.size+2:=by simp
 have k0:((w.alloc (.cells #[H A n a,H B m b,I J c.base,I J c.second,I J c.third] 32)).alloc (.cells #[H N 0 0,H N 0 0,I J 0,I J 0,I J 0] 32)).cell? ⟨w.heap.size,0,N⟩=Z (H A n a):=by simp
 have k1:((w.alloc (.cells #[H A n a,H B m b,I J c.base,I J c.second,I J c.third] 32)).alloc (.cells #[H N 0 0,H N 0 0,I J 0,I J 0,I J 0] 32)).cell? ⟨w.heap.size,1,N⟩=Z (H B m b):=by simp
 have k2:((w.alloc (.cells #[H A n a,H B m b,I J c.base,I J c.second,I J c.third] 32)).alloc (.cells #[H N 0 0,H N 0 0,I J 0,I J 0,I J 0] 32)).cell? ⟨w.heap.size,2,N⟩=Z (I J c.base):=by simp
 have k3:((w.alloc (.cells #[H A n a,H B m b,I J c.base,I J c.second,I J c.third] 32)).alloc (.cells #[H N 0 0,H N 0 0,I J 0,I J 0,I J 0] 32)).cell? ⟨w.heap.size,3,N⟩=Z (I J c.second):=by simp
 have k4:((w.alloc (.cells #[H A n a,H B m b,I J c.base,I J c.second,I J c.third] 32)).alloc (.cells #[H N 0 0,H N 0 0,I J 0,I J 0,I J 0] 32)).cell? ⟨w.heap.size,4,N⟩=Z (I J c.third):=by simp
 have l0:((w.alloc (.cells #[H A n a,H B m b,I J c.base,I J c.second,I J c.third] 32)).alloc (.cells #[H N 0 0,H N 0 0,I J 0,I J 0,I J 0] 32)).cell? ⟨w.heap.size+1,0,N⟩=Z (H N 0 0):=by simp
 have l1:((w.alloc (.cells #[H A n a,H B m b,I J c.base,I J c.second,I J c.third] 32)).alloc (.cells #[H N 0 0,H N 0 0,I J 0,I J 0,I J 0] 32)).cell? ⟨w.heap.size+1,1,N⟩=Z (H N 0 0):=by simp
 have l2:((w.alloc (.cells #[H A n a,H B m b,I J c.base,I J c.second,I J c.third] 32)).alloc (.cells #[H N 0 0,H N 0 0,I J 0,I J 0,I J 0] 32)).cell? ⟨w.heap.size+1,2,N⟩=Z (I J 0):=by simp
 have l3:((w.alloc (.cells #[H A n a,H B m b,I J c.base,I J c.second,I J c.third] 32)).alloc (.cells #[H N 0 0,H N 0 0,I J 0,I J 0,I J 0] 32)).cell? ⟨w.heap.size+1,3,N⟩=Z (I J 0):=by simp
 have l4:((w.alloc (.cells #[H A n a,H B m b,I J c.base,I J c.second,I J c.third] 32)).alloc (.cells #[H N 0 0,H N 0 0,I J 0,I J 0,I J 0] 32)).cell? ⟨w.heap.size+1,4,N⟩=Z (I J 0):=by simp
 have lf:∀j,((w.alloc (.cells #[H A n a,H B m b,I J c.base,I J c.second,I J c.third] 32)).alloc (.cells #[H N 0 0,H N 0 0,I J 0,I J 0,I J 0] 32)).frozen? ⟨w.heap.size+1,j,N⟩=false:=fun j=>by simp
 have W0E:∃W0,((w.alloc (.cells #[H A n a,H B m b,I J c.base,I J c.second,I J c.third] 32)).alloc (.cells #[H N 0 0,H N 0 0,I J 0,I J 0,I J 0] 32))=W0:=⟨_,rfl⟩;have CK:=G (fun W(hb:By w W)=>tX A n a B m b c W (h.below hb) hz);have HER:=G he;clear h hz he;unfold aQ at *;go_enter func151,ntmps151;go_wp2_with fail;obtain⟨W0,hW0⟩:=W0E;rw[hW0]at B0 s0 k0 k1 k2 k3 k4 l0 l1 l2 l3 l4 lf|-;clear hW0;have hx0:w.heap.size<W0.heap.size:=by omega
 have hx1:w.heap.size+1<W0.heap.size:=by omega
 with_reducible refine(CK.out W0 B0).mono ?_
 rw[HER.out];rintro e W1 ⟨rfl,hb1⟩;have hb2:=B0.trans (hb1.mono B0.size);have f0:=(hb1.cell (p:=⟨w.heap.size,0,N⟩) hx0).trans k0;have f1:=(hb1.cell (p:=⟨w.heap.size,1,N⟩) hx0).trans k1;have f2:=(hb1.cell (p:=⟨w.heap.size,2,N⟩) hx0).trans k2;have f3:=(hb1.cell (p:=⟨w.heap.size,3,N⟩) hx0).trans k3;have f4:=(hb1.cell (p:=⟨w.heap.size,4,N⟩) hx0).trans k4;have g0:=(hb1.cell (p:=⟨w.heap.size+1,0,N⟩) hx1).trans l0;have g1:=(hb1.cell (p:=⟨w.heap.size+1,1,N⟩) hx1).trans l1;have g2:=(hb1.cell (p:=⟨w.heap.size+1,2,N⟩) hx1).trans l2;have g3:=(hb1.cell (p:=⟨w.heap.size+1,3,N⟩) hx1).trans l3;have g4:=(hb1.cell (p:=⟨w.heap.size+1,4,N⟩) hx1).trans l4;have hx2:w.heap.size<W1.heap.size:=by have:=hb1.size;omega
 have hx3:w.heap.size+1<W1.heap.size:=by have:=hb1.size;omega
 have z0:=(hb1.frozen (p:=⟨w.heap.size+1,0,N⟩) hx1).trans (lf 0);have z1:=(hb1.frozen (p:=⟨w.heap.size+1,1,N⟩) hx1).trans (lf 1);have z2:=(hb1.frozen (p:=⟨w.heap.size+1,2,N⟩) hx1).trans (lf 2);have z3:=(hb1.frozen (p:=⟨w.heap.size+1,3,N⟩) hx1).trans (lf 3);have z4:=(hb1.frozen (p:=⟨w.heap.size+1,4,N⟩) hx1).trans (lf 4);clear k0 k1 k2 k3 k4 l0 l1 l2 l3 l4 lf CK;go_wp2_with fail;(try simp only[Exit.inBlock,Exit.then]);refine bodyPost_ret (AY _ _ (b:=w.heap.size+1) (v0:=H A n a) (v1:=H B m b) (z0:=c.base) (z1:=c.second) (z2:=c.third) rfl (by go_simp) (by go_simp) (by go_simp) (by go_simp) (by go_simp)) rfl ?_;have hN1:w.heap.size<=w.heap.size+1:=by omega
 exact⟨rfl,((((hb2.setCell (p:=⟨w.heap.size+1,0,N⟩) hN1 _).setCell (p:=⟨w.heap.size+1,1,N⟩) hN1 _).setCell (p:=⟨w.heap.size+1,2,N⟩) hN1 _).setCell (p:=⟨w.heap.size+1,3,N⟩) hN1 _).setCell (p:=⟨w.heap.size+1,4,N⟩) hN1 _⟩
def jS(es:List Ent)(zs:Li):Option (List Elt):=(es.find? (fun x=>decide (x.codes=zs))).map Ent.elems
theorem MV{es:List Ent}{zs:Li}{k:Nat}(hk:k<es.length)(h:es[k].codes=zs)(hb:∀t,(ht:t<es.length)->t<k->es[t].codes≠zs):jS es zs=Z es[k].elems:=by
 unfold jS
 rw[List.find?_eq_some_iff_getElem.2 ⟨by simpa using h,k,hk,rfl,fun j hj=>by simp[hb j (by omega) hj]⟩];rfl
theorem MW{es:List Ent}{zs:Li}(h:∀t,(ht:t<es.length)->es[t].codes≠zs):jS es zs=N:=by
 unfold jS
 rw[List.find?_eq_none.2]
 ·rfl
 intro x hx;obtain⟨t,ht,rfl⟩:=List.getElem_of_mem hx;simp[h t ht]
theorem AP(A:Oa)(n a:Nat)(B:Oa)(m b:Nat)(c:Col)(C:Oa)(kn kc:Nat)(zs:Li)(w:Wv)(h:aU w A n B m c)(hz:bW c)
  (hC:aA w C zs) (hkn:zs.length=kn) (hk2:kn<=1048576) :
  Calls prog 154 #[aQ A n a B m b c,H C kn kc] w (qU (jS c.ents zs) w):=by
 have B0:By w (w.alloc (.cells #[H A n a,H B m b,I J c.base,I J c.second,I J c.third] 32)):=ba _ _;have k0:(w.alloc (.cells #[H A n a,H B m b,I J c.base,I J c.second,I J c.third] 32)).cell? ⟨w.heap.size,0,N⟩=Z (H A n a):=by simp
 have s0:(w.alloc (.cells #[H A n a,H B m b,I J c.base,I J c.second,I J c.third] 32)).heap.size=w.heap.size+1:=by simp
 have W0E:∃W0,(w.alloc (.cells #[H A n a,H B m b,I J c.base,I J c.second,I J c.third] 32))=W0:=⟨_,rfl⟩;have HE:=G h.ents;have HC:=G hC;have hn:=h.hn;have hnz:=hz.n;have HZ:=G hz.e;have F1:=G (fun k hk hh hb=>MV (es:=c.ents) (zs:=zs) (k:=k) hk hh hb);have F0:=G (MW (es:=c.ents) (zs:=zs));clear h hz hC;unfold aQ at *;generalize jS c.ents zs=r at *
 generalize c.ents=es at *;subst hn;subst hkn;go_enter func154,ntmps154;go_wp2_with fail;obtain⟨W0,hW0⟩:=W0E;rw[hW0]at B0 s0 k0|-;clear hW0;have hx0:w.heap.size<W0.heap.size:=by omega
 go_loopw [6] (fun u wr=>∃i:Nat,i<=es.length/\u=I J i/\(∀t,(ht:t<es.length)->t<i->es[t].codes≠zs)/\By W0 wr) (fun u _=>es.length-(intOf u).toNat)
 case atStart=>exact⟨0,Nat.zero_le _,rfl,fun t _ h=>by omega,Below.refl _ _⟩
 obtain⟨i,hi,rfl,hne,hbr⟩:=hrel;have HNE:=G hne;clear hne;have f0:=(hbr.cell (p:=⟨w.heap.size,0,N⟩) hx0).trans k0;have hx1:w.heap.size<wr.heap.size:=by have:=hbr.size;omega
 have hb2:=B0.trans (hbr.mono B0.size);by_cases hlt:i<es.length
 ·obtain⟨b1,o1,rfl,hbl,hcell⟩:=(HE.out.below hb2).at hlt
  obtain⟨D,cc,E,dd,c1,c2,hD,hE⟩:=hcell i hlt;obtain⟨z1,z2⟩:=HZ.out i hlt;have HEL:=G hE;have EQ:=G (lU D C _ zs.length cc kc es[i].codes zs wr hD (HC.out.below hb2) rfl rfl (by omega) (by omega));have FY:=G (fun hh=>F1.out i hlt hh HNE.out);have FN:=G (fun hh=>cW (P:=fun x=>x.codes≠zs) hlt HNE.out hh);have hii:(i:Int)<(es.length:Int):=by omega
  clear hcell hD hE;generalize es[i].codes=cds at *;generalize es[i].elems=els at *;go_wp2_with fail;with_reducible refine EQ.out.mono ?_
  rintro e w1 ⟨rfl,hq⟩;have hbq:=hbr.trans (hq.below.mono hbr.size);have g0:=(hbq.cell (p:=⟨w.heap.size,0,N⟩) hx0).trans k0;have g2:=(hq.below.cell (p:=⟨b1,o1+i*2+1,N⟩) hbl).trans c2;have hx2:w.heap.size<w1.heap.size:=by have:=hbq.size;omega
  have hx5:b1<w1.heap.size:=by have:=hq.below.size;omega
  clear EQ;by_cases hcz:cds=zs
  ·have q1:decide (cds=zs)=true:=by simpa using hcz
   obtain rfl:=FY.out hcz;have HEL1:=G (HEL.out.below hq.below);clear FY FN F1 F0 hcz;generalize decide (cds=zs)=dz at *;subst q1;have hB9:By W0 (w1.alloc (.cells #[] 106)):=hbq.alloc hbq.size _;have f9:=(hB9.cell (p:=⟨w.heap.size,0,N⟩) hx0).trans k0;go_wp2_with(at_builtin;refine aJ _ _ 107 106 (.agg #[I J 0,I J 0,I J 0,.bool false]) 4 32 rfl rfl underlying107 mZ rfl (by decide) (by decide) rfl (iS [] 106 4 0 w1.heap.size rfl rfl (Nat.le_refl _) (by omega)) rfl (Sl.alloc HEL1.out _) (gJ Elt.cells 4 (fun _=>rfl) els) (nG _) (by omega) (by simp) ?_;intro A1 c1 w9 hown1 hc1 hb9 _ _;simp only[Nat.zero_add,List.nil_append]at hown1 hc1;have HOWN:=G hown1;clear hown1);go_ret2;refine⟨A1,c1,?_,Sl.of_own HOWN.out,(B0.trans (hB9.mono B0.size)).trans (hb9.mono (by omega))⟩;simp
  have q1:decide (cds=zs)=false:=by simpa using hcz
  have HN:=G (FN.out hcz);clear FY FN hcz;generalize decide (cds=zs)=dz at *;subst q1;go_wp2_with fail;go_roundw
  case rel=>exact⟨i+1,by omega,by go_num,HN.out,hbq⟩
  simp[intOf];omega
 obtain rfl:=F0.out (fun t ht=>HNE.out t ht (by omega));go_wp2_with fail;go_ret2;exact⟨N,0,rfl,Sl.nil _ _,hb2⟩
end
section
open Go.RowKit
theorem LZ{base:Int}{x:Ent}{r:List Ent}{p:Option Ent}(h:eW base (x::r) p=0):cD base x=0/\(∀y,p=Z y->aD y.codes x.codes<0)/\eW base r (Z x)=0:=by
 unfold eW at h;by_cases h1:cD base x=0
 ·simp only[h1,ne_eq,not_true_eq_false,if_false]at h
  cases p with
  |none=>exact⟨h1,(fun y e=>by cases e),h⟩
  |some z=>
   simp only at h;split at h
   ·cases h
   next h2=>exact⟨h1,(fun y e=>by injection e with e;subst e;omega),h⟩
 rw[if_pos h1]at h;exact absurd h h1
theorem xG{base:Int}:∀{es:List Ent}{p:Option Ent},eW base es p=0->es.Pairwise (fun x y=>aD x.codes y.codes<0)/\∀y,p=Z y->∀x∈es,aD y.codes x.codes<0
 | [],_,_=>⟨List.Pairwise.nil,fun _ _ _ h=>by cases h⟩
 |x::r,p,h=>by
  obtain⟨_,h1,h2⟩:=LZ h;obtain⟨i1,i2⟩:=xG h2;refine⟨List.pairwise_cons.2 ⟨i2 x rfl,i1⟩,fun y hy z hz=>?_⟩;rcases List.mem_cons.1 hz with rfl|hz
  ·exact h1 y hy
  exact lI (h1 y hy) (i2 x rfl z hz)
theorem QH(x:Ent)(r:List Ent)(zs:Li):aL (x::r) zs=match aL r zs with|some e=>Z e|none=>if x.codes=zs then Z x.elems else N:=by
 have:∀(l:List Ent)(q:Option (List Elt)),l.foldl (fun r x=>if x.codes=zs then Z x.elems else r) q=match l.foldl (fun r x=>if x.codes=zs then Z x.elems else r) N with|some e=>Z e|none=>q:=by
  intro l;induction l with
  |nil=>intro q;rfl
  |cons y l ih=>
   intro q;simp only[List.foldl_cons];rw[ih,ih (if y.codes=zs then Z y.elems else N)];split
   ·rfl
   split<;>rfl
 unfold aL;rw[List.foldl_cons,this]
theorem yL:∀{es:List Ent},es.Pairwise (fun x y=>aD x.codes y.codes<0)->∀zs,aL es zs=jS es zs
 | [],_,_=>rfl
 |x::r,h,zs=>by
  obtain⟨h1,h2⟩:=List.pairwise_cons.1 h;rw[QH,yL h2 zs];unfold jS
  by_cases e:x.codes=zs
  ·rw[List.find?_cons_of_pos (by simpa using e)]
   have:r.find? (fun x=>decide (x.codes=zs))=N:=by
    rw[List.find?_eq_none];intro y hy;have:=JO (h1 y hy);rw[e]at this;simpa using fun e'=>this e'.symm
   rw[this];simp[e]
  rw[List.find?_cons_of_neg (by simpa using e)];cases r.find? (fun x=>decide (x.codes=zs))<;>simp[e]
theorem yN{c:Col}(h:aW c=0)(zs:Li):aL c.ents zs=jS c.ents zs:=yL (xG (mW h)).1 zs
theorem wO{c:Col}(h:aW c=0):dI c.base c.grps=0/\1<=c.base/\c.base<=65502/\(1<=c.second/\c.second<=65535)/\(1<=c.third/\c.third<=65535):=by
 unfold aW at h;split at h
 ·cases h
 next h0=>
 split at h
 ·next h1=>exact absurd h h1
 next h1=>
 have h2:inR 1 65535 c.second=true:=by cases hh:inR 1 65535 c.second<;>simp_all
 have h3:inR 1 65535 c.third=true:=by cases hh:inR 1 65535 c.third<;>simp_all
 exact⟨by simpa using h1,by omega,by omega,iD.1 h2,iD.1 h3⟩
end
namespace Mtc
open Go.RowKit
section
variable {E:Type}{cl:Int->Int}{ent:Li->Option (List E)}{imp:Int->List E}
def partsF(cl:Int->Int)(ent:Li->Option (List E)):Nat->Li->List (Li×Bool)
 |0,_=>[]
 |_+1,[]=>[]
 |f+1,x::t=>((matched cl ent (x::t)).1,(matched cl ent (x::t)).2.2)::partsF cl ent f (matched cl ent (x::t)).2.1
theorem partsF_more:∀(f g:Nat)(t:Li),t.length<=f->t.length<=g->partsF cl ent f t=partsF cl ent g t
 |0,0,t,_,_=>rfl
 |0,g+1,t,h,_=>by
  obtain rfl:t=[]:=List.length_eq_zero_iff.1 (by omega);rfl
 |f+1,0,t,_,h=>by
  obtain rfl:t=[]:=List.length_eq_zero_iff.1 (by omega);rfl
 |f+1,g+1,[],_,_=>rfl
 |f+1,g+1,x::t,h1,h2=>by
  have h:=(matched_len (cl:=cl) (ent:=ent) (t:=x::t) (by simp)).1;unfold partsF;rw[partsF_more f g _ (by omega) (by omega)]
def parts(cl:Int->Int)(ent:Li->Option (List E))(t:Li):List (Li×Bool):=partsF cl ent t.length t
theorem parts_step{t:Li}(h:t≠[]):parts cl ent t=((matched cl ent t).1,(matched cl ent t).2.2)::parts cl ent (matched cl ent t).2.1:=by
 cases t with
 |nil=>exact absurd rfl h
 |cons x t=>
  have hl:=(matched_len (cl:=cl) (ent:=ent) (t:=x::t) (by simp)).1;show((matched cl ent (x::t)).1,(matched cl ent (x::t)).2.2)::partsF cl ent t.length (matched cl ent (x::t)).2.1=_
  rw[partsF_more (cl:=cl) (ent:=ent) t.length (matched cl ent (x::t)).2.1.length (matched cl ent (x::t)).2.1 (by simp at hl;omega) (Nat.le_refl _)];rfl
theorem parts_ind{P:Li->Prop}(cl:Int->Int)(ent:Li->Option (List E))(h0:P [])(h1:∀t,t≠[]->P (matched cl ent t).2.1->P t)(t:Li):P t:=by
 have key:∀(n:Nat)(t:Li),t.length<=n->P t:=by
  intro n;induction n with
  |zero=>intro t h;obtain rfl:t=[]:=List.length_eq_zero_iff.1 (by omega);exact h0
  |succ n ih=>
   intro t h;by_cases ht:t=[]
   ·rw[ht];exact h0
   have:=(matched_len (cl:=cl) (ent:=ent) ht).1;exact h1 t ht (ih _ (by omega))
 exact key t.length t (Nat.le_refl _)
def known(cl:Int->Int)(ent:Li->Option (List E))(t:Li):Bool:=(parts cl ent t).all (fun p=>p.2)
theorem known_step{t:Li}(h:t≠[]):known cl ent t=((matched cl ent t).2.2&&known cl ent (matched cl ent t).2.1):=by
 unfold known;rw[parts_step h,List.all_cons]
theorem grow_mem:∀(r part left:Li)(hi:Int)(x:Int),x∈(grow cl ent part left hi r).1++(grow cl ent part left hi r).2 ↔ x∈part++left++r
 | [],part,left,hi,x=>by simp[grow]
 |y::r,part,left,hi,x=>by
  unfold grow;split
  ·simp
  split
  ·rw[grow_mem r];simp only[List.mem_append,List.mem_cons,List.not_mem_nil,or_false]
   constructor
   ·rintro(((h|h)|h)|h)<;>simp[h]
   rintro((h|h)|h|h)<;>simp[h]
  rw[grow_mem r];simp only[List.mem_append,List.mem_cons,List.not_mem_nil,or_false];constructor
  ·rintro((h|h|h)|h)<;>simp[h]
  rintro((h|h)|h|h)<;>simp[h]
theorem grow_head:∀(r part left:Li)(hi:Int),part≠[]->(grow cl ent part left hi r).1.head?=part.head?
 | [],part,left,hi,_=>by simp[grow]
 |y::r,part,left,hi,h=>by
  unfold grow;split
  ·rfl
  split
  ·rw[grow_head r _ _ _ (by simp)]
   cases part with
   |nil=>exact absurd rfl h
   |cons a p=>rfl
  rw[grow_head r _ _ _ h]
theorem matched_mem{t:Li}(x:Int):x∈(matched cl ent t).1++(matched cl ent t).2.1 ↔ x∈t:=by
 unfold matched;split
 ·rw[List.take_append_drop]
 rw[grow_mem,List.append_nil,List.take_append_drop]
theorem matched_head{t:Li}(h:t≠[]):(matched cl ent t).1.head?=t.head?:=by
 cases t with
 |nil=>exact absurd rfl h
 |cons x t=>
  unfold matched;split
  ·rfl
  next hz=>
  have hz1:0<sz ent (x::t) (x::t).length:=by omega
  have e:∀n,0<n->((x::t).take n).head?=Z x:=by
   intro n hn;cases n with
   |zero=>omega
   |succ n=>rfl
  dsimp only;rw[grow_head _ _ _ _ (fun h=>by have:=e _ hz1;rw[h]at this;cases this),e _ hz1];rfl
variable {F:Type}{ent':Li->Option (List F)}
end
end Mtc
section
open Go.RowKit Go.Maps Go.WideMaps
def nQ:Value->Nat
 | H _ n _=>n
 |_=>0
def aX(x:Nrm)(c:Col)(t:Li):List Elt:=Mtc.elems (cls (usN x).cls) (aL (cC c).ents) (dJ (cC c)) (dtx x false t)
structure EL(cl:Int->Int)(ent:Li->Option (List Elt))(imp:Int->List Elt)(els:List Elt)(tot:Nat)(b:Nat)(w1:Wv)(t:Li)(A:Oa)(cap:Nat)(E:Oa)(k:Nat)(es:List Elt)(W:Wv):Prop where
 eq:es++Mtc.elems cl ent imp t=els
 own:W.ownsRow w1.heap.size 106 4 (H E es.length k) es.length (aF Elt.cells es)
 gr:w1.grownBy W (Z b)
 bd:es.length+16*t.length<=16*tot
 cp:t.length<=cap
 cm:cap<=9223372036854775807
 row:t≠[]->b<w1.heap.size/\∃off pre post,A=Z ⟨b,off,N⟩/\Row W b off 3 pre post t
 io:∀z∈t,iok z
section
variable {cl:Int->Int}{ent:Li->Option (List Elt)}{imp:Int->List Elt}{els:List Elt}{tot b:Nat}{w1:Wv}{t:Li}{A:Oa}{cap:Nat}{E:Oa}{k:Nat}{es:List Elt}{W:Wv}
theorem EL.own_match(h:EL cl ent imp els tot b w1 t A cap E k es W)(ht:t≠[]){W':Wv}(hg:W.grownBy W' (Z b)):W'.ownsRow w1.heap.size 106 4 (H E es.length k) es.length (aF Elt.cells es):=by
 refine h.own.kept hg ?_;cases E with
 |none=>exact .inl rfl
 |some a=>
  right;intro e;have e':a.block=b:=by injection e
  rcases h.own.2 with⟨hv,_⟩|⟨g,cp,cur,hv,h1,_⟩
  ·cases hv
  injection hv with hv;injection hv with hv;subst hv;have:=(h.row ht).1;dsimp only at e';omega
theorem EL.next(h:EL cl ent imp els tot b w1 t A cap E k es W)(ht:t≠[]){off:Nat}{pre post:Lv}{W' W2:Wv}(hg:W.grownBy W' (Z b))(hp:(Mtc.ofPart ent imp (Mtc.matched cl ent t).1 (Mtc.matched cl ent t).2.2).length<=16)(hrow:A=Z ⟨b,off,N⟩/\Row W' b off 3 pre post ((Mtc.matched cl ent t).1++(Mtc.matched cl ent t).2.1))
  {E':Oa} {k':Nat} (ho:W2.ownsRow w1.heap.size 106 4 (H E' (es.length+(Mtc.ofPart ent imp (Mtc.matched cl ent t).1 (Mtc.matched cl ent t).2.2).length) k') (es.length+(Mtc.ofPart ent imp (Mtc.matched cl ent t).1 (Mtc.matched cl ent t).2.2).length) (aF Elt.cells es++aF Elt.cells (Mtc.ofPart ent imp (Mtc.matched cl ent t).1 (Mtc.matched cl ent t).2.2))) (hb:Below w1.heap.size W' W2) :
  EL cl ent imp els tot b w1 (Mtc.matched cl ent t).2.1 (bV A cap (Mtc.matched cl ent t).1.length) (cap-(Mtc.matched cl ent t).1.length) E' k' (es++Mtc.ofPart ent imp (Mtc.matched cl ent t).1 (Mtc.matched cl ent t).2.2) W2:=by
 obtain⟨hl1,hl2⟩:=Mtc.matched_len (cl:=cl) (ent:=ent) ht;obtain⟨hA,hrow⟩:=hrow;have hcp:=h.cp;have hcm:=h.cm;have hbd:=h.bd;have hmem:=Mtc.matched_mem (cl:=cl) (ent:=ent) (t:=t);have heq:=h.eq;rw[Mtc.elems_step ht,<-List.append_assoc]at heq;have hbl:=(h.row ht).1;have hio:=h.io;have hgr:=h.gr;generalize Mtc.matched cl ent t=mt at *;generalize Mtc.ofPart ent imp mt.1 mt.2.2=l at *;refine⟨heq,by rw[List.length_append,iM];exact ho,xU (bF hgr hg) hb (Nat.le_refl _),by rw[List.length_append];omega,by omega,by omega,fun hne=>⟨hbl,off+mt.1.length,pre++mt.1.map (Value.int .i64),post,?_,?_⟩,fun z hz=>hio z ((hmem z).1 (by simp[hz]))⟩
 ·have:=List.length_pos_iff.2 hne
  unfold bV;rw[if_neg (by omega),hA,Option.map_some,Addr.add_lit]
 refine⟨by rw[List.length_append,List.length_map,hrow.1],?_⟩;have h2:=(hrow.keep (hb.block b hbl)).2;unfold Blk at h2|-;rw[h2,List.map_append];simp only[List.append_assoc]
theorem EL.first{d:Li}{n:Nat}{wb:Wv}(hA:w1.ownsRow wb.heap.size 3 1 (H A n cap) n (d.map (Value.int .i64)))(hn:d.length=n)(hio:∀z∈d,iok z)(hb:∀g o,A=Z ⟨g,o,N⟩->g=b):EL cl ent imp (Mtc.elems cl ent imp d) d.length b w1 d A cap N 0 [] w1:=by
 refine⟨rfl,World.ownsRow_nil _ _ _ _,aO _ _,by simp,?_,?_,fun hne=>?_,hio⟩
 ·obtain⟨_,_,hv,hc⟩:=gE hA
  injection hv with _ _ hv;subst hv;omega
 ·rcases hA.2 with⟨hv,_⟩|⟨g,cp,cur,hv,_,_,_,h5,_⟩
  ·injection hv with _ _ hv
   omega
  injection hv with _ _ hv;unfold maxLen at h5;omega
 have hpos:=List.length_pos_iff.2 hne;obtain⟨g,post,rfl,h1,h2,h3,h4,h5⟩:=tT hA (by omega);obtain rfl:=hb g 0 rfl;exact⟨h2.lt,0,[],post,rfl,h2⟩
end
theorem tU{c:Col}(h:aW c=0)(p:Li)(q:Bool):(Mtc.ofPart (aL c.ents) (dJ c) p q).length<=16:=by
 unfold Mtc.ofPart;split
 ·exact QL h p
 unfold dJ;split<;>simp
theorem LL(A0:Oa)(n0 k0:Nat)(A1:Oa)(n1 k1:Nat)(A2:Oa)(n2 k2:Nat)(x:Nrm)(C:Oa)(n a:Nat)(B:Oa)(m b:Nat)(c:Col)(D:Oa)(dn dk:Nat)(t:Li)(w:Wv)(hN:bA w A0 n0 A1 n1 A2 n2 x)(hz:cK x)(hL:dL w)(hC:aU w C n B m c)(hcz:bW c)(hD:aA w D t)(hn:t.length=dn)(hbig:dn<=16384)(hio:∀z∈t,iok z):
  Calls prog 120 #[.agg #[H A0 n0 k0,H A1 n1 k1,H A2 n2 k2],aQ C n a B m b c,H D dn dk] w (n_ (aX x c t) w):=by
 subst hn;have B0:By w ((w.alloc (.cells #[H A0 n0 k0,H A1 n1 k1,H A2 n2 k2] 28)).alloc (.cells #[H C n a,H B m b,I J c.base,I J c.second,I J c.third] 32)):=(ba _ _).alloc (by simp) _;have X0:Box ((w.alloc (.cells #[H A0 n0 k0,H A1 n1 k1,H A2 n2 k2] 28)).alloc (.cells #[H C n a,H B m b,I J c.base,I J c.second,I J c.third] 32)) w.heap.size 28 [H A0 n0 k0,H A1 n1 k1,H A2 n2 k2]:=(Box.new w 28 [H A0 n0 k0,H A1 n1 k1,H A2 n2 k2] rfl).below (B:=w.heap.size+1) ((Below.refl _ _).alloc (by simp) _) (by omega);have X1:Box ((w.alloc (.cells #[H A0 n0 k0,H A1 n1 k1,H A2 n2 k2] 28)).alloc (.cells #[H C n a,H B m b,I J c.base,I J c.second,I J c.third] 32)) (w.heap.size+1) 32 [H C n a,H B m b,I J c.base,I J c.second,I J c.third]:=Box.new _ _ _ (by simp);have W0E:∃W0,((w.alloc (.cells #[H A0 n0 k0,H A1 n1 k1,H A2 n2 k2] 28)).alloc (.cells #[H C n a,H B m b,I J c.base,I J c.second,I J c.third] 32))=W0:=⟨_,rfl⟩;have hxi:=LH (x:=x) false hio;have hxl:=lZ x false t;have HE:=U (aX x c t=Mtc.elems (cls (usN x).cls) (aL (cC c).ents) (dJ (cC c)) (dtx x false t)) rfl;have MC:=G (fun W(hb:By w W)=>RH C n a B m b c W (hC.below hb) hcz);have WC:=G (fun W T(hb:By w W)hT0 hT=>zAX A0 n0 k0 A1 n1 k1 A2 n2 k2 x T (cC c) w W hN hz hL hb hT0 hT);have DC:=G (fun W(hb:By w W)=>wR A0 n0 k0 A1 n1 k1 A2 n2 k2 x D t.length dk t false W (hN.below hb) hz (hL.below hb) (hD.below hb) rfl hbig hio);have hcv:=oO c;have PL:=G (tU hcv);have hce:=zAD hcv;have hcb:=(wO hcv).2;have hcs:=hz.us.z0;have hca:=zAB x;clear hN hz hL hC hcz hD hio hcv;generalize aX x c t=els at *;generalize dtx x false t=d at *;generalize (usN x).cls=cs at *;unfold aQ at *;go_enter func120,ntmps120;go_wp2_with fail;obtain⟨W0,hW0⟩:=W0E;try rw[hW0]at B0 X0 X1|-
 clear hW0;have p00:=X0.c 0 rfl;have p01:=X0.c 1 rfl;have p02:=X0.c 2 rfl;have p10:=X1.c 0 rfl;have p11:=X1.c 1 rfl;have p12:=X1.c 2 rfl;have p13:=X1.c 3 rfl;have p14:=X1.c 4 rfl;have l0:=X0.lt;have l1:=X1.lt;have SH:=G (fun W'(hb':By W0 W')=>show W'.cell? ⟨w.heap.size,0,N⟩=Z (H A0 n0 k0)/\W'.cell? ⟨w.heap.size,1,N⟩=Z (H A1 n1 k1)/\W'.cell? ⟨w.heap.size,2,N⟩=Z (H A2 n2 k2)/\W'.cell? ⟨w.heap.size+1,0,N⟩=Z (H C n a)/\W'.cell? ⟨w.heap.size+1,1,N⟩=Z (H B m b)/\W'.cell? ⟨w.heap.size+1,2,N⟩=Z (I J c.base)/\W'.cell? ⟨w.heap.size+1,3,N⟩=Z (I J c.second)/\W'.cell? ⟨w.heap.size+1,4,N⟩=Z (I J c.third)/\By W0 W' from⟨(hb'.cell l0).trans p00,(hb'.cell l0).trans p01,(hb'.cell l0).trans p02,(hb'.cell l1).trans p10,(hb'.cell l1).trans p11,(hb'.cell l1).trans p12,(hb'.cell l1).trans p13,(hb'.cell l1).trans p14,hb'⟩);have TM:=G (fun W(hb':By W0 W)=>(MC.out W (B0.trans (hb'.mono B0.size))).mono (R':=fun e W'=>∃v,e=.returned v/\(W'.cell? ⟨w.heap.size,0,N⟩=Z (H A0 n0 k0)/\W'.cell? ⟨w.heap.size,1,N⟩=Z (H A1 n1 k1)/\W'.cell? ⟨w.heap.size,2,N⟩=Z (H A2 n2 k2)/\W'.cell? ⟨w.heap.size+1,0,N⟩=Z (H C n a)/\W'.cell? ⟨w.heap.size+1,1,N⟩=Z (H B m b)/\W'.cell? ⟨w.heap.size+1,2,N⟩=Z (I J c.base)/\W'.cell? ⟨w.heap.size+1,3,N⟩=Z (I J c.second)/\W'.cell? ⟨w.heap.size+1,4,N⟩=Z (I J c.third)/\By W0 W')/\(∃T,v=.pointer (Z ⟨T,0,N⟩)/\W.heap.size<=T/\eJ W' T (cC c) (H N 0 0) 0)) (fun e W'⟨T,he,g1,g2,g3⟩=>⟨_,he,SH.out W' (hb'.trans (g3.mono hb'.size)),T,rfl,g1,g2⟩));clear p00 p01 p02 p10 p11 p12 p13 p14;refine wp_region_held_drew (S:=fun W'=>W'.cell? ⟨w.heap.size,0,N⟩=Z (H A0 n0 k0)/\W'.cell? ⟨w.heap.size,1,N⟩=Z (H A1 n1 k1)/\W'.cell? ⟨w.heap.size,2,N⟩=Z (H A2 n2 k2)/\W'.cell? ⟨w.heap.size+1,0,N⟩=Z (H C n a)/\W'.cell? ⟨w.heap.size+1,1,N⟩=Z (H B m b)/\W'.cell? ⟨w.heap.size+1,2,N⟩=Z (I J c.base)/\W'.cell? ⟨w.heap.size+1,3,N⟩=Z (I J c.second)/\W'.cell? ⟨w.heap.size+1,4,N⟩=Z (I J c.third)/\By W0 W') (by kernel_rfl) (SH.out _ ((Below.refl _ _).drew)) (fun hHeld=>?_);refine tK 0 13 ?_;refine tK 2 15 ?_;refine qE 1 14 (TM.out _ hHeld.2.2.2.2.2.2.2.2) ?_;clear hHeld;rintro _ W1 hHeld ⟨T,rfl,hT0,hTab⟩;have TW:=G ((WC.out W1 T (B0.trans (hHeld.2.2.2.2.2.2.2.2.mono B0.size)) (by have:=B0.size;have:W0.heap.size<=T:=hT0;omega) hTab).mono (R':=fun e W'=>∃v,e=.returned v/\(W'.cell? ⟨w.heap.size,0,N⟩=Z (H A0 n0 k0)/\W'.cell? ⟨w.heap.size,1,N⟩=Z (H A1 n1 k1)/\W'.cell? ⟨w.heap.size,2,N⟩=Z (H A2 n2 k2)/\W'.cell? ⟨w.heap.size+1,0,N⟩=Z (H C n a)/\W'.cell? ⟨w.heap.size+1,1,N⟩=Z (H B m b)/\W'.cell? ⟨w.heap.size+1,2,N⟩=Z (I J c.base)/\W'.cell? ⟨w.heap.size+1,3,N⟩=Z (I J c.second)/\W'.cell? ⟨w.heap.size+1,4,N⟩=Z (I J c.third)/\By W0 W')/\(v=.pointer (Z ⟨T,0,N⟩)/\(∃A k,eJ W' T (cC c) (H A cs.length k) (f_ cs)/\aZ W' A cs))) (fun e W'⟨he,h2,h3⟩=>⟨_,he,SH.out W' (hHeld.2.2.2.2.2.2.2.2.trans (lX h3 (show W0.heap.size<=T from hT0) hHeld.2.2.2.2.2.2.2.2.size)),rfl,h2⟩));refine qE 3 16 (TW.out) ?_;clear hHeld;rintro _ W2 hHeld ⟨rfl,AX,kX,hTab2,hSp2⟩;refine tK 4 7 ?_;refine wpAnyH_done (by kernel_rfl) ?_ _;have hb2:=hHeld.2.2.2.2.2.2.2.2;have hbw2:=B0.trans (hb2.mono B0.size);have q00:=hHeld.1;have q01:=hHeld.2.1;have q02:=hHeld.2.2.1;have HT:=G hTab2;have HS:=G hSp2;have KD:=G (DC.out W2 hbw2);have hbd:=hbw2.size;clear hHeld SH TM TW WC MC hTab hTab2 hSp2 DC;go_wp2_with fail;with_reducible refine KD.out.mono ?_
 rintro e W3 ⟨E0,d0,rfl,hown,hb3⟩;have HM:=U (∀b,W2.heap.size<=b->uR T (cC c) cs AX kX b W2) (fun b hb=>⟨HT.out,HS.out,hb,hca,by omega,hce,⟨hcb.1,hcb.2.1⟩⟩)
 obtain⟨bq,hbq,HBQ⟩:∃bq,W2.heap.size<=bq/\∀g o,E0=Z ⟨g,o,N⟩->g=bq:=by
  cases E0 with
  |none=>exact⟨_,Nat.le_refl _,fun g o h=>by cases h⟩
  |some ad=>
   rcases hown.2 with⟨hv,_⟩|⟨g,cp,cur,hv,h1,_⟩
   ·cases hv
   injection hv with hv;injection hv with hv;subst hv;exact⟨g,h1,fun g' o h=>by injection h with h;injection h with h1 h2;exact h1.symm⟩
 have HF:=G (EL.first (cl:=cls cs) (ent:=aL (cC c).ents) (imp:=dJ (cC c)) hown rfl hxi HBQ);rw[<-HE.out]at HF;have MT:=G (HM.out bq hbq);clear HM HBQ hown KD q00 q01 q02 HT HS;go_wp2_with fail;go_loopw [8,9] (fun u v wr=>∃(t':Li)(A':Oa)(cap':Nat)(E':Oa)(k':Nat)(es:List Elt),u=H E' es.length k'/\v=H A' t'.length cap'/\EL (cls cs) (aL (cC c).ents) (dJ (cC c)) els d.length bq W3 t' A' cap' E' k' es wr) (fun _ v _=>nQ v)
 case atStart=>exact⟨d,E0,d0,N,0,[],rfl,rfl,HF.out⟩
 obtain⟨t',A',cap',E',k',es,rfl,rfl,hel⟩:=hrel;have HL:=G hel;have hcp:=hel.cp;have hcm:=hel.cm;have hbd2:=hel.bd;have hwsz:=hel.gr.size;have hwr:By W2 wr:=hb3.trans (lX hel.gr hbq hb3.size);by_cases hne:t'=[]
 ·have hes:=hel.eq
  rw[hne,Mtc.elems_nil,List.append_nil]at hes;have hlt:t'.length=0:=by rw[hne];rfl
  have HO:=G hel.own;have hbb:=hbw2.trans (hwr.mono hbw2.size);have h3:=hb3.size;clear hel HL;subst hne;subst hes;go_wp2_with fail;go_ret;exact⟨E',k',rfl,eL HO.out (by omega),hbb⟩
 have hpos:=List.length_pos_iff.2 hne;obtain⟨hbl,off,pre,post,rfl,hrow⟩:=hel.row hne;have TC:=G (zAt T (cC c) cs AX kX bq off cap' pre post t' W2 wr MT.out hwr hrow hne (by omega) hcp hcm hel.io);have ML:=Mtc.matched_len (cl:=cls cs) (ent:=aL (cC c).ents) hne;have hpl:=PL.out (Mtc.matched (cls cs) (aL (cC c).ents) t').1 (Mtc.matched (cls cs) (aL (cC c).ents) t').2.2;have OM:=G (fun W' hg=>hel.own_match hne (W':=W') hg);have NX:=G (fun(W' W2:Wv) (off:Nat) (pre post:Lv) hg hrow (E2:Oa) (k2:Nat) ho hb=>HL.out.next hne (off:=off) (pre:=pre) (post:=post) (W':=W') (W2:=W2) hg hpl hrow (E':=E2) (k':=k2) ho hb);unfold qW uV at TC;have hlt:decide ((0:Int)<(t'.length:Int))=true:=by simpa using hpos
 clear hel HL hrow;generalize hmt:Mtc.matched (cls cs) (aL (cC c).ents) t'=mt at *;clear hmt;generalize hpt:Mtc.ofPart (aL (cC c).ents) (dJ (cC c)) mt.1 mt.2.2=pt at *;clear hpt;obtain⟨m1,m2,mk⟩:=mt;dsimp only at *;have hcut:=fun(W:Wv)=>qB (Z ⟨bq,off,N⟩) t'.length cap' m1.length (by omega) W
 go_wp2_with fail;with_reducible refine TC.out.mono ?_
 rintro e W4 ⟨E4,d4,rfl,hE4,hrow4,hg4⟩;have HO4:=G (OM.out W4 hg4);have HE4:=G hE4;have HN4:=G (fun W2=>NX.out W4 W2 off pre post hg4 ⟨rfl,hrow4⟩);have h34:W3.heap.size<=W4.heap.size:=Nat.le_trans hwsz hg4.size;clear hE4 hrow4 hg4 OM NX TC;go_wp2_with(at_builtin;refine aJ _ _ 107 106 (.agg #[I J 0,I J 0,I J 0,.bool false]) 4 32 rfl rfl underlying107 mZ rfl (by decide) (by decide) rfl HO4.out rfl HE4.out (gJ Elt.cells 4 (fun _=>rfl) _) (nG _) (by omega) h34 ?_;intro B5 k5 w5 hown5 hc5 hb5 hg5 hB5);have HL5:=G (HN4.out w5 B5 k5 hown5 hb5);clear hown5 hb5 hg5 hB5 HN4 HO4 HE4;go_wp2_with fail;go_roundw
 case rel=>exact⟨m2,_,_,B5,k5,es++pt,by rw[List.length_append],by rw[show t'.length-m1.length=m2.length by omega],HL5.out⟩
 simp[nQ];omega
theorem sZ{M:Nat}:∀{l:List (Li)},(∀x∈l,x.length<=M)->(cF l).length<=l.length*(M+1)
 | [],_=>by simp[cF]
 | [x],h=>by have:=h x (by simp);simp[cF];omega
 |x::y::l,h=>by
  have h1:=h x (by simp);have h2:=sZ (M:=M) (l:=y::l) (fun z hz=>h z (by simp[hz]));have e:(cF (x::y::l)).length=x.length+((cF (y::l)).length+1):=by
   show(x++0::cF (y::l)).length=_
   rw[List.length_append,List.length_cons]
  rw[e,List.length_cons (a:=x),Nat.add_mul];omega
theorem RF(o:Opt)(es:List Elt)(k:Nat):(jV o es k).length<=es.length:=by
 unfold jV;split
 ·rw[List.length_reverse];exact Nat.le_trans (qA _ _) (by rw[mM];exact Nat.le_refl _)
 exact Nat.le_trans (qA _ _) (by rw[mM];exact Nat.le_refl _)
theorem uL{o:Opt}{es:List Elt}{x:Li}(h:x∈dW o es):x.length<=es.length:=by
 unfold dW at h;obtain⟨k,_,rfl⟩:=List.mem_map.1 h;exact RF o es k
theorem s_(o:Opt)(es:List Elt)(h:o.st<=4)(i:Nat):(cF ((dW o es).take i)).length<=4*(es.length+1):=by
 refine Nat.le_trans (sZ (M:=es.length) (fun x hx=>uL (List.mem_of_mem_take hx))) (Nat.mul_le_mul_right _ ?_);rw[List.length_take,uK];omega
theorem LM{cl:Int->Int}{ent:Li->Option (List Elt)}{imp:Int->List Elt}(h:∀p q,(Mtc.ofPart ent imp p q).length<=16)(t:Li):(Mtc.elems cl ent imp t).length<=16*t.length:=by
 refine Mtc.parts_ind cl ent (P:=fun t=>(Mtc.elems cl ent imp t).length<=16*t.length) (by simp[Mtc.elems_nil]) (fun t ht ih=>?_) t;rw[Mtc.elems_step ht,List.length_append];have h1:=h (Mtc.matched cl ent t).1 (Mtc.matched cl ent t).2.2;have h2:=(Mtc.matched_len (cl:=cl) (ent:=ent) ht).1;omega
theorem rY(x:Nrm)(c:Col)(t:Li):(aX x c t).length<=1024*t.length:=by
 have h1:=LM (cl:=cls (usN x).cls) (tU (oO c)) (dtx x false t);have h2:=lZ x false t;unfold aX;omega
theorem sU(d:Li):(bT d).length<=d.length:=by
 unfold bT;rw[List.length_map];exact List.length_filter_le _ _
theorem yB{d:Li}{i:Nat}(hi:i<d.length):bT (d.take (i+1))=bT (d.take i)++if 0<=d[i]/\d[i]<=1114111 then [d[i]+1]else []:=by
 rw[List.take_succ_eq_append_getElem hi,OJ]
theorem zU(o:Opt):aN (aN o)=aN o:=if_pos (zV o)
structure Grw(WD W:Wv)(base:Nat)(K0 K:Oa)(k:Nat)(zs:Li):Prop where
 own:W.ownsRow base 3 1 (H K zs.length k) zs.length (zs.map (Value.int .i64))
 gr:WD.grownBy W (blk K0)
 or_:K=K0\/∀q,blk K=Z q->WD.heap.size<=q
theorem Grw.app{WD W W':Wv}{base:Nat}{K0 K B:Oa}{k k':Nat}{zs ys:Li}{o:Obj}(h:Grw WD W base K0 K k zs)(ho:W'.ownsRow base 3 1 (H B (zs.length+ys.length) k') (zs.length+ys.length) (zs.map (Value.int .i64)++ys.map (Value.int .i64)))(hg:(W.alloc o).grownBy W' (Value.ownBlock (H K zs.length k)))(hB:B=K\/B=Z ⟨(W.alloc o).heap.size,0,N⟩):Grw WD W' base K0 B k' (zs++ys):=by
 rw[dZ]at hg;have h1:=eX h.gr o;have hz:=h1.size;refine⟨by rw[List.length_append,List.map_append];exact ho,?_,?_⟩
 ·rcases h.or_ with rfl|g
  ·exact bF h1 hg
  exact⟨hg.os.trans h1.os,hg.tape.trans h1.tape,hg.output.trans h1.output,Nat.le_trans hz hg.size,fun q hq hne=>(hg.block q (by omega) (fun e=>by have:=g q e.symm;omega)).trans (h1.block q hq hne)⟩
 rcases hB with rfl|rfl
 ·exact h.or_
 right;intro q hq;have:q=(W.alloc o).heap.size:=by injection hq with hq;exact hq.symm
 omega
theorem Grw.low{WD W:Wv}{base:Nat}{K0 K:Oa}{k:Nat}{zs:Li}(h:Grw WD W base K0 K k zs)(hb:base<=WD.heap.size)(hk:∀q,blk K0=Z q->base<=q):Below base WD W:=
 ⟨h.gr.os,h.gr.tape,h.gr.output,h.gr.size,fun q hq=>h.gr.block q (by omega) (fun e=>by have:=hk q e.symm;omega)⟩
theorem Grw.ints{WD W:Wv}{base:Nat}{K0 K A:Oa}{k n c bd:Nat}{zs d:Li}(h:Grw WD W base K0 K k zs)(hA:WD.ownsRow bd 3 1 (H A n c) n (d.map (Value.int .i64)))(hk:∀q,blk K0=Z q->q<bd):aA W A d:=by
 refine Sl.of_own (hA.kept h.gr ?_);rw[dZ];cases hb:blk A with
 |none=>exact .inl rfl
 |some q=>
  right;intro e;have h1:=(hA.lt q (by rw[dZ];exact hb)).1;have h2:=hk q e.symm;omega
theorem QB(A0:Oa)(n0 k0:Nat)(A1:Oa)(n1 k1:Nat)(A2:Oa)(n2 k2:Nat)(x:Nrm)(C:Oa)(n a:Nat)(B:Oa)(m b:Nat)(c:Col)(o:Opt)(D:Oa)(dn dk:Nat)(t:Li)(w:Wv)(hN:bA w A0 n0 A1 n1 A2 n2 x)(hz:cK x)(hL:dL w)(hC:aU w C n B m c)(hcz:bW c)(hD:aA w D t)(hn:t.length=dn)(hbig:dn<=16384)(hio:∀z∈t,iok z):
  Calls prog 84 #[.agg #[H A0 n0 k0,H A1 n1 k1,H A2 n2 k2],aQ C n a B m b c,.agg #[I J o.st,I J o.va,.bool o.bk,.bool o.idn],H D dn dk] w (bE (iP (aN o) (aX x c t) (dtx x false t)) w):=by
 subst hn;have EF:=G (fun W=>wV o W);obtain⟨⟨hst1,hst4⟩,hva1,hva3⟩:=nI o;have hel:=rY x c t;have hdl:=lZ x false t;have EC:=G (fun W(hb:By w W)=>LL A0 n0 k0 A1 n1 k1 A2 n2 k2 x C n a B m b c D t.length dk t W (hN.below hb) hz (hL.below hb) (hC.below hb) hcz (hD.below hb) rfl hbig hio);have DC:=G (fun W(hb:By w W)=>wR A0 n0 k0 A1 n1 k1 A2 n2 k2 x D t.length dk t false W (hN.below hb) hz (hL.below hb) (hD.below hb) rfl hbig hio);have OO:=zU o;have WC0:=G (fun E k(W:Wv)(hE:cJ W E (aX x c t))=>zAG E (aX x c t).length k (aX x c t) (aN o) W hE rfl (by omega));rw[OO]at WC0;have JL:=G (s_ (aN o) (aX x c t) hst4);have WLN:=uK (aN o) (aX x c t);have WL4:(dW (aN o) (aX x c t)).length<=4:=by omega
 have HK:=U (iP (aN o) (aX x c t) (dtx x false t)=cF (dW (aN o) (aX x c t))++if(aN o).idn=true then 0::bT (dtx x false t)else []) rfl;have WLM:=G (fun y(hy:y∈dW (aN o) (aX x c t))=>uL hy);have IL:=G (fun i=>sU ((dtx x false t).take i));clear hN hz hL hC hcz hD hio OO WLN;generalize iP (aN o) (aX x c t) (dtx x false t)=ky at *;generalize dW (aN o) (aX x c t)=wl at *;generalize aX x c t=els at *;generalize dtx x false t=d at *;generalize aN o=od at *;obtain⟨st0,va0,bk0,idn0⟩:=o;obtain⟨st,va,bk,idn⟩:=od;dsimp only at *;have WC:=G (fun E k(W:Wv)hE=>WC0.out E k W hE);clear WC0 hva1 hva3 hst1 hst4;unfold aQ at *;have B0:By w (((w.alloc (.cells #[H A0 n0 k0,H A1 n1 k1,H A2 n2 k2] 28)).alloc (.cells #[H C n a,H B m b,I J c.base,I J c.second,I J c.third] 32)).alloc (.cells #[I J st0,I J va0,.bool bk0,.bool idn0] 34)):=((ba _ _).alloc (by simp) _).alloc (by simp<;>omega) _;have X0:Box (((w.alloc (.cells #[H A0 n0 k0,H A1 n1 k1,H A2 n2 k2] 28)).alloc (.cells #[H C n a,H B m b,I J c.base,I J c.second,I J c.third] 32)).alloc (.cells #[I J st0,I J va0,.bool bk0,.bool idn0] 34)) w.heap.size 28 [H A0 n0 k0,H A1 n1 k1,H A2 n2 k2]:=aS (aS (Box.new w 28 [H A0 n0 k0,H A1 n1 k1,H A2 n2 k2] rfl) _) _;have X1:Box (((w.alloc (.cells #[H A0 n0 k0,H A1 n1 k1,H A2 n2 k2] 28)).alloc (.cells #[H C n a,H B m b,I J c.base,I J c.second,I J c.third] 32)).alloc (.cells #[I J st0,I J va0,.bool bk0,.bool idn0] 34)) (w.heap.size+1) 32 [H C n a,H B m b,I J c.base,I J c.second,I J c.third]:=aS (Box.new _ 32 [H C n a,H B m b,I J c.base,I J c.second,I J c.third] (by simp)) _;have X2:Box (((w.alloc (.cells #[H A0 n0 k0,H A1 n1 k1,H A2 n2 k2] 28)).alloc (.cells #[H C n a,H B m b,I J c.base,I J c.second,I J c.third] 32)).alloc (.cells #[I J st0,I J va0,.bool bk0,.bool idn0] 34)) (w.heap.size+1+1) 34 [I J st0,I J va0,.bool bk0,.bool idn0]:=Box.new _ _ _ (by simp);have W0E:∃W0,(((w.alloc (.cells #[H A0 n0 k0,H A1 n1 k1,H A2 n2 k2] 28)).alloc (.cells #[H C n a,H B m b,I J c.base,I J c.second,I J c.third] 32)).alloc (.cells #[I J st0,I J va0,.bool bk0,.bool idn0] 34))=W0:=⟨_,rfl⟩;go_enter func84,ntmps84;go_upto_region 1 with(fail)
 obtain⟨W0,hW0⟩:=W0E;try rw[hW0]at B0 X0 X1 X2|-
 clear hW0;have c0:=X2.c 0 rfl;have c1:=X2.c 1 rfl;have c2:=X2.c 2 rfl;have c3:=X2.c 3 rfl;have l0:=X0.lt;have l1:=X1.lt;have l2:=X2.lt;go_wp2_with fail;with_reducible refine(EF.out _).mono ?_
 rintro e W1 ⟨rfl,hb1⟩;have B1:=B0.trans (hb1.mono B0.size);have Y0:=X0.below hb1 l0;have Y1:=X1.below hb1 l1;have Y2:=X2.below hb1 l2;clear c0 c1 c2 c3 EF X0 X1 X2 hb1 B0;have f0:=Y2.free 0;have f1:=Y2.free 1;have f2:=Y2.free 2;have f3:=Y2.free 3;have e0:=Y2.c 0 rfl;have e1:=Y2.c 1 rfl;have e2:=Y2.c 2 rfl;have e3:=Y2.c 3 rfl;have Z2:Box ((((W1.setCell ⟨w.heap.size+1+1,0,N⟩ (I J st)).setCell ⟨w.heap.size+1+1,1,N⟩ (I J va)).setCell ⟨w.heap.size+1+1,2,N⟩ (.bool bk)).setCell ⟨w.heap.size+1+1,3,N⟩ (.bool idn)) (w.heap.size+1+1) 34 [I J st,I J va,.bool bk,.bool idn]:=(((Y2.set 0 _).set 1 _).set 2 _).set 3 _;have Z0:Box ((((W1.setCell ⟨w.heap.size+1+1,0,N⟩ (I J st)).setCell ⟨w.heap.size+1+1,1,N⟩ (I J va)).setCell ⟨w.heap.size+1+1,2,N⟩ (.bool bk)).setCell ⟨w.heap.size+1+1,3,N⟩ (.bool idn)) w.heap.size 28 [H A0 n0 k0,H A1 n1 k1,H A2 n2 k2]:=bG (bG (bG (bG Y0 _ (by simp;omega) _) _ (by simp;omega) _) _ (by simp;omega) _) _ (by simp;omega) _;have Z1:Box ((((W1.setCell ⟨w.heap.size+1+1,0,N⟩ (I J st)).setCell ⟨w.heap.size+1+1,1,N⟩ (I J va)).setCell ⟨w.heap.size+1+1,2,N⟩ (.bool bk)).setCell ⟨w.heap.size+1+1,3,N⟩ (.bool idn)) (w.heap.size+1) 32 [H C n a,H B m b,I J c.base,I J c.second,I J c.third]:=bG (bG (bG (bG Y1 _ (by simp) _) _ (by simp) _) _ (by simp) _) _ (by simp) _;have B5:By w ((((W1.setCell ⟨w.heap.size+1+1,0,N⟩ (I J st)).setCell ⟨w.heap.size+1+1,1,N⟩ (I J va)).setCell ⟨w.heap.size+1+1,2,N⟩ (.bool bk)).setCell ⟨w.heap.size+1+1,3,N⟩ (.bool idn)):=(((B1.setCell (by simp;omega) _).setCell (by simp;omega) _).setCell (by simp;omega) _).setCell (by simp;omega) _;have W5E:∃W5,((((W1.setCell ⟨w.heap.size+1+1,0,N⟩ (I J st)).setCell ⟨w.heap.size+1+1,1,N⟩ (I J va)).setCell ⟨w.heap.size+1+1,2,N⟩ (.bool bk)).setCell ⟨w.heap.size+1+1,3,N⟩ (.bool idn))=W5:=⟨_,rfl⟩;go_upto_region 2 with(fail)
 obtain⟨W5,hW5⟩:=W5E;try rw[hW5]at B5 Z0 Z1 Z2|-
 clear hW5 f0 f1 f2 f3 e0 e1 e2 e3 Y0 Y1 Y2 B1 l0 l1 l2;have l0:=Z0.lt;have l1:=Z1.lt;have l2:=Z2.lt;have p00:=Z0.c 0 rfl;have p01:=Z0.c 1 rfl;have p02:=Z0.c 2 rfl;have p10:=Z1.c 0 rfl;have p11:=Z1.c 1 rfl;have p12:=Z1.c 2 rfl;have p13:=Z1.c 3 rfl;have p14:=Z1.c 4 rfl;have p20:=Z2.c 0 rfl;have p21:=Z2.c 1 rfl;have p22:=Z2.c 2 rfl;have p23:=Z2.c 3 rfl;have SH:=G (fun W'(hb':By W5 W')=>show W'.cell? ⟨w.heap.size,0,N⟩=Z (H A0 n0 k0)/\W'.cell? ⟨w.heap.size,1,N⟩=Z (H A1 n1 k1)/\W'.cell? ⟨w.heap.size,2,N⟩=Z (H A2 n2 k2)/\W'.cell? ⟨w.heap.size+1,0,N⟩=Z (H C n a)/\W'.cell? ⟨w.heap.size+1,1,N⟩=Z (H B m b)/\W'.cell? ⟨w.heap.size+1,2,N⟩=Z (I J c.base)/\W'.cell? ⟨w.heap.size+1,3,N⟩=Z (I J c.second)/\W'.cell? ⟨w.heap.size+1,4,N⟩=Z (I J c.third)/\W'.cell? ⟨w.heap.size+1+1,0,N⟩=Z (I J st)/\W'.cell? ⟨w.heap.size+1+1,1,N⟩=Z (I J va)/\W'.cell? ⟨w.heap.size+1+1,2,N⟩=Z (.bool bk)/\W'.cell? ⟨w.heap.size+1+1,3,N⟩=Z (.bool idn)/\By W5 W' from⟨(hb'.cell l0).trans p00,(hb'.cell l0).trans p01,(hb'.cell l0).trans p02,(hb'.cell l1).trans p10,(hb'.cell l1).trans p11,(hb'.cell l1).trans p12,(hb'.cell l1).trans p13,(hb'.cell l1).trans p14,(hb'.cell l2).trans p20,(hb'.cell l2).trans p21,(hb'.cell l2).trans p22,(hb'.cell l2).trans p23,hb'⟩);have TE:=G (fun W(hb':By W5 W)=>(EC.out W (B5.trans (hb'.mono B5.size))).mono (R':=fun e W'=>∃v,e=.returned v/\(W'.cell? ⟨w.heap.size,0,N⟩=Z (H A0 n0 k0)/\W'.cell? ⟨w.heap.size,1,N⟩=Z (H A1 n1 k1)/\W'.cell? ⟨w.heap.size,2,N⟩=Z (H A2 n2 k2)/\W'.cell? ⟨w.heap.size+1,0,N⟩=Z (H C n a)/\W'.cell? ⟨w.heap.size+1,1,N⟩=Z (H B m b)/\W'.cell? ⟨w.heap.size+1,2,N⟩=Z (I J c.base)/\W'.cell? ⟨w.heap.size+1,3,N⟩=Z (I J c.second)/\W'.cell? ⟨w.heap.size+1,4,N⟩=Z (I J c.third)/\W'.cell? ⟨w.heap.size+1+1,0,N⟩=Z (I J st)/\W'.cell? ⟨w.heap.size+1+1,1,N⟩=Z (I J va)/\W'.cell? ⟨w.heap.size+1+1,2,N⟩=Z (.bool bk)/\W'.cell? ⟨w.heap.size+1+1,3,N⟩=Z (.bool idn)/\By W5 W')/\(∃E d,v=H E els.length d/\cJ W' E els)) (fun e W'⟨E,d,he,g1,g2⟩=>⟨_,he,SH.out W' (hb'.trans (g2.mono hb'.size)),E,d,rfl,Sl.of_own g1⟩));have HZ:=G (And.intro Z0 (And.intro Z1 Z2));clear p00 p01 p02 p10 p11 p12 p13 p14 p20 p21 p22 p23 Z0 Z1 Z2;unfold oB at WC;go_wp2_with fail;refine wp_region_held_drew (S:=fun W'=>W'.cell? ⟨w.heap.size,0,N⟩=Z (H A0 n0 k0)/\W'.cell? ⟨w.heap.size,1,N⟩=Z (H A1 n1 k1)/\W'.cell? ⟨w.heap.size,2,N⟩=Z (H A2 n2 k2)/\W'.cell? ⟨w.heap.size+1,0,N⟩=Z (H C n a)/\W'.cell? ⟨w.heap.size+1,1,N⟩=Z (H B m b)/\W'.cell? ⟨w.heap.size+1,2,N⟩=Z (I J c.base)/\W'.cell? ⟨w.heap.size+1,3,N⟩=Z (I J c.second)/\W'.cell? ⟨w.heap.size+1,4,N⟩=Z (I J c.third)/\W'.cell? ⟨w.heap.size+1+1,0,N⟩=Z (I J st)/\W'.cell? ⟨w.heap.size+1+1,1,N⟩=Z (I J va)/\W'.cell? ⟨w.heap.size+1+1,2,N⟩=Z (.bool bk)/\W'.cell? ⟨w.heap.size+1+1,3,N⟩=Z (.bool idn)/\By W5 W') (by kernel_rfl) (SH.out _ ((Below.refl _ _).drew)) (fun hHeld=>?_);refine tK 0 16 ?_;refine tK 1 17 ?_;refine tK 2 18 ?_;refine tK 4 20 ?_;refine tK 7 23 ?_;refine qE 3 19 (TE.out _ hHeld.2.2.2.2.2.2.2.2.2.2.2.2) ?_;clear hHeld;rintro _ W2 hHeld ⟨E2,d2,rfl,hE2⟩;have TW:=G ((WC.out E2 d2 W2 hE2).mono (R':=fun e W'=>∃v,e=.returned v/\(W'.cell? ⟨w.heap.size,0,N⟩=Z (H A0 n0 k0)/\W'.cell? ⟨w.heap.size,1,N⟩=Z (H A1 n1 k1)/\W'.cell? ⟨w.heap.size,2,N⟩=Z (H A2 n2 k2)/\W'.cell? ⟨w.heap.size+1,0,N⟩=Z (H C n a)/\W'.cell? ⟨w.heap.size+1,1,N⟩=Z (H B m b)/\W'.cell? ⟨w.heap.size+1,2,N⟩=Z (I J c.base)/\W'.cell? ⟨w.heap.size+1,3,N⟩=Z (I J c.second)/\W'.cell? ⟨w.heap.size+1,4,N⟩=Z (I J c.third)/\W'.cell? ⟨w.heap.size+1+1,0,N⟩=Z (I J st)/\W'.cell? ⟨w.heap.size+1+1,1,N⟩=Z (I J va)/\W'.cell? ⟨w.heap.size+1+1,2,N⟩=Z (.bool bk)/\W'.cell? ⟨w.heap.size+1+1,3,N⟩=Z (.bool idn)/\By W5 W')/\(∃B d,v=H B wl.length d/\fI W' B wl)) (fun e W'⟨B3,d3,he,g1,g2⟩=>⟨_,he,SH.out W' (hHeld.2.2.2.2.2.2.2.2.2.2.2.2.trans (g2.mono hHeld.2.2.2.2.2.2.2.2.2.2.2.2.size)),B3,d3,rfl,g1⟩));refine qE 5 21 (TW.out) ?_;clear hHeld;rintro _ W3 hHeld ⟨B3,d3,rfl,hrows⟩;refine tK 6 22 ?_;refine wpAnyH_done (by kernel_rfl) ?_ _;have hb3:=hHeld.2.2.2.2.2.2.2.2.2.2.2.2;have HBW:=G (B5.trans (hb3.mono B5.size));have HB3:=G hb3;have HRW:=G hrows;have hs3:=hb3.size;clear hHeld SH TE TW WC EC hrows hE2 hb3;go_wp2_with fail;go_loopw [9,23] (fun u v wr=>∃(i:Nat)(K:Oa)(k:Nat),i<=wl.length/\v=I J i/\u=H K (cF (wl.take i)).length k/\wr.ownsRow W3.heap.size 3 1 (H K (cF (wl.take i)).length k) (cF (wl.take i)).length ((cF (wl.take i)).map (Value.int .i64))/\By W3 wr) (fun _ v _=>wl.length-(intOf v).toNat)
 case atStart=>exact⟨0,N,0,Nat.zero_le _,rfl,rfl,World.ownsRow_nil _ _ _ _,Below.refl _ _⟩
 obtain⟨i,K,k,hi,rfl,rfl,ho,hbr⟩:=hrel;have HO:=G ho;have hrs:=hbr.size;clear ho;by_cases hlt:i<wl.length
 ·obtain⟨bb,oo,C4,c4,rfl,hcell3,hcc,hI⟩:=HRW.out.at hlt
  have hcell:=(hbr.cell (p:=⟨bb,oo+i,N⟩) (World.block_lt_of_cell? W3 _ hcell3)).trans hcell3;have HI:=G hI;have HT:=G (yJ hlt);have hj:=JL.out i;have hwl:wl[i].length<=els.length:=WLM.out _ (List.getElem_mem hlt);have HJ:=G hbr;clear hI hbr hcell3 HRW;generalize hj1:cF (wl.take (i+1))=j1 at *;have HJ1:=G hj1;clear hj1;generalize cF (wl.take i)=j0 at *;generalize wl[i]=row at *;have HI1:=G (HI.out.below HJ.out);by_cases h0:i=0
  ·have HT0:=U (j1=j0++row) (by rw[HT.out,if_pos h0,List.append_nil])
   have hi0:decide ((0:Int)<(i:Int))=false:=by simp;omega
   have hi1:¬0<i:=by omega
   have hi2:decide (0<i)=false:=by simpa using hi1
   clear h0;clear HT;go_wp2_with(at_builtin;refine aJ _ _ 49 3 (I J 0) 1 8 rfl rfl underlying49 aM rfl (by decide) (by decide) rfl HO.out rfl HI1.out (by simp) (aR _) (by omega) hrs ?_;intro K3 k3 w3 hown3 hc3 hb3 hg3 hB3);have HO3:=G hown3;have HB3':=G (HJ.out.trans hb3);clear hown3 hc3 hb3 hg3 hB3;go_wp2_with fail;go_roundw
   case rel=>exact⟨i+1,K3,k3,by omega,by go_num,by rw[HJ1.out,HT0.out,List.length_append],by rw[HJ1.out,HT0.out,List.length_append,List.map_append];exact HO3.out,HB3'.out⟩
   simp[intOf];omega
  have HT0:=U (j1=(j0++[0])++row) (by rw[HT.out,if_neg h0]);clear HT;have hi0:decide ((0:Int)<(i:Int))=true:=by simp;omega
  have HAL:=G (fun(o:Obj)=>show By wr (wr.alloc o)from ba _ _);go_upto_region 8 with(at_builtin;refine aJ _ _ 49 3 (I J 0) 1 8 rfl rfl underlying49 aM rfl (by decide) (by decide) rfl (HO.out.alloc _) rfl (bZ wr [0] _ rfl) (by simp) (aR _) (by omega) (by simp;omega) ?_;intro K3 k3 w3 hown3 hc3 hb3 hg3 hB3)
  have HO3:=G hown3;have hb4:=HJ.out.trans (((HAL.out _).mono hrs).trans hb3);have HJ4:=G hb4;have hrs4:=hb4.size;have HI4:=G (HI.out.below hb4);clear hown3 hc3 hb3 hg3 hB3 hb4;go_wp2_with(at_builtin;refine aJ _ _ 49 3 (I J 0) 1 8 rfl rfl underlying49 aM rfl (by decide) (by decide) rfl HO3.out rfl HI4.out (by simp) (aR _) (by omega) hrs4 ?_;intro K5 k5 w5 hown5 hc5 hb5 hg5 hB5);have HO5:=G hown5;have HB5':=G (HJ4.out.trans hb5);clear hown5 hc5 hb5 hg5 hB5;go_wp2_with fail;go_roundw
  case rel=>exact⟨i+1,K5,k5,by omega,by go_num,by rw[HJ1.out,HT0.out,List.length_append,List.length_append];rfl,by rw[HJ1.out,HT0.out,List.length_append,List.map_append,List.length_append,List.map_append];exact HO5.out,HB5'.out⟩
  simp[intOf];omega
 obtain rfl:i=wl.length:=by omega
 have hj:=JL.out wl.length;rw[List.take_length]at HO hj|-;have hbw5:=HB3.out.trans (hbr.mono hs3);have HB5w:=G hbw5;have q3:=(hbw5.cell (p:=⟨w.heap.size+1+1,3,N⟩) l2).trans (HZ.out.2.2.c 3 rfl);have hw3:w.heap.size<=W3.heap.size:=by have:=HBW.out.size;exact this
 have HJ:=G hbr;clear hbr hbw5 JL WLM HRW;generalize cF wl=j0 at *;cases idn with
 |false=>
  have HK2:=U (ky=j0) (by rw[HK.out,if_neg (by simp),List.append_nil]);clear HK DC IL;go_wp2_with fail;go_ret;exact⟨K,k,by rw[HK2.out];rfl,by rw[HK2.out];exact eL HO.out hw3,HBW.out.trans (HJ.out.mono hw3)⟩
 |true=>
  have HK2:=U (ky=(j0++[0])++bT d) (by rw[HK.out,if_pos rfl,List.append_assoc];rfl);have IS:=G (fun i(hi:i<d.length)=>yB hi);have HAL:=G (fun(o:Obj)=>show By wr (wr.alloc o)from ba _ _);clear HK;go_upto_region 13 with(at_builtin;refine aJ _ _ 49 3 (I J 0) 1 8 rfl rfl underlying49 aM rfl (by decide) (by decide) rfl (HO.out.alloc _) rfl (bZ wr [0] _ rfl) (by simp) (aR _) (by omega) (by simp;omega) ?_;intro K3 k3 w3 hown3 hc3 hb3 hg3 hB3)
  have hb4:=HJ.out.trans (((HAL.out _).mono hrs).trans hb3);have HJ4:=G hb4;have hrs4:=hb4.size;have hbw5:=HB3.out.trans (hb4.mono hs3);have q0:=(hbw5.cell (p:=⟨w.heap.size,0,N⟩) l0).trans (HZ.out.1.c 0 rfl);have q1:=(hbw5.cell (p:=⟨w.heap.size,1,N⟩) l0).trans (HZ.out.1.c 1 rfl);have q2:=(hbw5.cell (p:=⟨w.heap.size,2,N⟩) l0).trans (HZ.out.1.c 2 rfl);have CD:=G (DC.out w3 (HBW.out.trans (hb4.mono hw3)))
  have HO3:=U (w3.ownsRow W3.heap.size 3 1 (H K3 (j0++[0]).length k3) (j0++[0]).length ((j0++[0]).map (Value.int .i64))) (by
   rw[List.length_append,List.map_append];exact hown3)
  have hl3:(j0++[0]).length=j0.length+1:=by simp
  have HL3:=G hl3;have hlt3:(j0++[0]).length<=4*(els.length+1)+1:=by omega
  clear hown3 hc3 hb3 hg3 hB3 hb4 DC q3 hl3;generalize hjz:j0++[0]=jz at *;clear hjz;go_wp2_with fail;with_reducible refine CD.out.mono ?_
  rintro e W6 ⟨D6,d6,rfl,hown6,hb6⟩;have HD6:=G hown6;have hkb:∀q,blk K3=Z q->W3.heap.size<=q/\q<w3.heap.size:=fun q hq=>HO3.out.lt q (by rw[dZ];exact hq)
  have HKB:=G hkb
  have HG6:=U (Grw W6 W6 W3.heap.size K3 K3 k3 (jz++bT (d.take 0))) (by
   rw[List.take_zero,show bT []=[]from rfl,List.append_nil]
   exact⟨aK HO3.out hb6,aO _ _,.inl rfl⟩)
  have h36:W3.heap.size<=W6.heap.size:=by have:=hb6.size;omega
  have HB6:=U (By W3 W6) (HJ4.out.trans (hb6.mono hrs4));clear hown6 hb6 hkb CD q0 q1 q2 hbw5;go_wp2_with fail;go_loopw [9,48] (fun u v wr=>∃(i:Nat)(K:Oa)(k:Nat),i<=d.length/\v=I J i/\u=H K (jz++bT (d.take i)).length k/\Grw W6 wr W3.heap.size K3 K k (jz++bT (d.take i))) (fun _ v _=>d.length-(intOf v).toNat)
  case atStart=>exact⟨0,K3,k3,Nat.zero_le _,rfl,by rw[List.take_zero,show bT []=[]from rfl,List.append_nil,HL3.out],HG6.out⟩
  obtain⟨i,K,k,hi,rfl,rfl,hg⟩:=hrel;have HG:=G hg;have hgs:=hg.gr.size;have HDI:=G (hg.ints HD6.out (fun q hq=>(HKB.out q hq).2));clear hg HG6;by_cases hlt:i<d.length
  ·obtain⟨bb,oo,rfl,hcell⟩:=HDI.out.at hlt
   have hc0:=hcell i hlt;have ISi:=G (IS.out i hlt);have hil:=IL.out i;rw[List.length_take]at hil;have hlj:(jz++bT (d.take i)).length<=jz.length+d.length:=by rw[List.length_append];omega
   clear hcell HDI;generalize hj1:bT (d.take (i+1))=j1 at *;have HJ1:=G hj1;clear hj1;generalize d[i]=z at *;by_cases hz:0<=z/\z<=1114111
   ·obtain⟨hz1,hz2⟩:=hz
    have HT0:=U (jz++j1=(jz++bT (d.take i))++[z+1]) (by rw[ISi.out,if_pos ⟨hz1,hz2⟩,List.append_assoc]);have e1:decide (0<=z)=true:=by simpa using hz1
    have e2:decide (z<=1114111)=true:=by simpa using hz2
    clear ISi hil;generalize jz++bT (d.take i)=j0' at *;go_wp2_with(at_builtin;refine aJ _ _ 49 3 (I J 0) 1 8 rfl rfl underlying49 aM rfl (by decide) (by decide) rfl (HG.out.own.alloc _) rfl (bZ wr [z+1] _ rfl) (by simp) (aR _) (by omega) (by simp;omega) ?_;intro K5 k5 w5 hown5 hc5 hb5 hg5 hB5);have HG5:=G (HG.out.app (ys:=[z+1]) hown5 hg5 hB5);clear hown5 hc5 hb5 hg5 hB5;go_wp2_with fail;go_roundw
    case rel=>exact⟨i+1,K5,k5,by omega,by go_num,by rw[HJ1.out,HT0.out,List.length_append];rfl,by rw[HJ1.out,HT0.out];exact HG5.out⟩
    simp[intOf];omega
   have HT0:=U (jz++j1=jz++bT (d.take i)) (by rw[ISi.out,if_neg hz,List.append_nil]);clear ISi hil;generalize jz++bT (d.take i)=j0' at *;by_cases hz1:0<=z
   ·have hz2:¬z<=1114111:=fun g=>hz ⟨hz1,g⟩
    have e1:decide (0<=z)=true:=by simpa using hz1
    have e2:decide (z<=1114111)=false:=by simpa using hz2
    clear hz hz2 hz1;go_wp2_with fail;go_roundw
    case rel=>exact⟨i+1,K,k,by omega,by go_num,by rw[HJ1.out,HT0.out],by rw[HJ1.out,HT0.out];exact HG.out⟩
    simp[intOf];omega
   have e1:decide (0<=z)=false:=by simpa using hz1
   clear hz hz1;go_wp2_with fail;go_roundw
   case rel=>exact⟨i+1,K,k,by omega,by go_num,by rw[HJ1.out,HT0.out],by rw[HJ1.out,HT0.out];exact HG.out⟩
   simp[intOf];omega
  obtain rfl:i=d.length:=by omega
  rw[List.take_length]at HG|-;have HLW:=G (HG.out.low h36 (fun q hq=>(HKB.out q hq).1));have HKY:=U (jz++bT d=ky) HK2.out.symm;clear HDI IS IL HK2;generalize jz++bT d=jf at *;go_wp2_with fail;go_ret;exact⟨K,k,by rw[<-HKY.out];rfl,by rw[<-HKY.out];exact eL HG.out.own hw3,HBW.out.trans ((HB6.out.trans HLW.out).mono hw3)⟩
end
end Go.Proofs.YtpfbnikbebccjaaGreatDoor
