import Derived.Test.YtkhmjidaeliccaaGreatDoorD00
import Derived.Test.YtkhmjidaeliccaaGreatDoorD02
import Derived.Test.YtkhmjidaeliccaaGreatDoorD07
import Derived.Test.YtkhmjidaeliccaaGreatDoorD15
import Derived.Test.YtkhmjidaeliccaaGreatDoorD16
import Derived.Shelf.Spec.SlicesInsertGrow
set_option maxRecDepth 100000
set_option maxHeartbeats 51200000
namespace Go.Proofs.YtkhmjidaeliccaaGreatDoor
open Option renaming none->N,some->Z
open Value renaming int->I,slice->H
open IntKind renaming i64->J
open Go.Proofs.Tryz
section
open Go.RowKit
theorem gX{α:Type}(enc:α->Lv)(k:Nat)(hk:∀x,(enc x).length=k):∀(xs:List α)(i j:Nat)(v:Value)(y:α)(hi:i<xs.length),j<k->enc y=(enc xs[i]).set j v->(aE enc xs).set (i*k+j) v=aE enc (xs.set i y)
 | [],i,_,_,_,hi,_,_=>absurd hi (Nat.not_lt_zero _)
 |x::xs,0,j,v,y,_,hj,he=>by
  have e1:aE enc (x::xs)=enc x++aE enc xs:=by simp[aE]
  have e2:aE enc ((x::xs).set 0 y)=enc y++aE enc xs:=by simp[aE]
  rw[e1,e2,he,Nat.zero_mul,Nat.zero_add,List.set_append_left _ _ (by rw[hk];exact hj)];rfl
 |x::xs,i+1,j,v,y,hi,hj,he=>by
  have e1:aE enc (x::xs)=enc x++aE enc xs:=by simp[aE]
  have e2:aE enc ((x::xs).set (i+1) y)=enc x++aE enc (xs.set i y):=by simp[aE]
  have hi':i<xs.length:=by simpa using hi
  rw[e1,e2,List.set_append_right _ _ (by rw[hk,Nat.add_mul];omega),hk,show(i+1)*k+j-k=i*k+j by rw[Nat.add_mul,Nat.one_mul];omega];rw[gX enc k hk xs i j v y hi' hj (by simpa using he)]
theorem AP{α β:Type}:∀(ms:List α)(vs:List β)(i:Nat)(v:β)(hi:i<ms.length),(ms.zip vs).set i (ms[i],v)=ms.zip (vs.set i v)
 | [],_,i,_,hi=>absurd hi (Nat.not_lt_zero _)
 |_::_,[],_,_,_=>by simp
 |m::ms,u::vs,0,v,_=>by simp
 |m::ms,u::vs,i+1,v,hi=>by simp[AP ms vs i v (by simpa using hi)]
def gJ(B:Oa)(z:Nat)(w:Wv)(C:Oa)(zs:Li):Prop:=aB w C zs/\(zs≠[]->∀q,blk C=Z q->blk B≠Z q/\q≠z)
theorem Sl.stored{w:Wv}{C:Oa}{cs:Lv}(h:Sl w C cs)(p:Addr)(hp:cs≠[]->∀q,blk C=Z q->p.block≠q)(v:Value):Sl (w.setCell p v) C cs:=fun hne=>by
 obtain⟨b,o,rfl,hc⟩:=h hne;refine⟨b,o,rfl,fun j u hu=>?_⟩;have hn:=hp hne b rfl;rw[World.cell?_of_block (Below.heap_setCell w p v b (fun e=>hn e.symm))];exact hc j u hu
theorem gJ.below{w w':Wv}{z:Nat}{B C:Oa}{zs:Li}(h:gJ B z w C zs)(hb:By w w'):gJ B z w' C zs:=⟨h.1.below hb,h.2⟩
theorem gJ.stored{w:Wv}{z:Nat}{B C:Oa}{zs:Li}(h:gJ B z w C zs)(p:Addr)(hp:blk B=Z p.block\/p.block=z)(v:Value):gJ B z (w.setCell p v) C zs:=
 ⟨Sl.stored h.1 p (fun hne q hq e=>by
  have h2:=h.2 (by rintro rfl;exact hne rfl) q hq
  rcases hp with g|g
  ·exact h2.1 (by rw[g,e])
  ·exact h2.2 (by rw[<-e,g])) v,h.2⟩
theorem lF{w:Wv}{C:Oa}{cs:Lv}(h:Sl w C cs)(hne:cs≠[]){q:Nat}(hq:blk C=Z q):q<w.heap.size:=by
 obtain⟨b,o,rfl,hc⟩:=h hne;have hl:0<cs.length:=List.length_pos_iff.2 hne;have h1:=hc 0 cs[0] (List.getElem?_eq_getElem hl);have:=World.block_lt_of_cell? w _ h1;have e:b=q:=by injection hq
 dsimp only at this;omega
theorem rS{zs:Li}(h:zs≠[]):zs.map (Value.int .i64)≠[]:=by simpa using h
theorem aU{w:Wv}{base:Nat}{e:TypeId}{size n c:Nat}{A:Oa}{xs:Lv}(h:w.ownsRow base e size (H A n c) n xs){q:Nat}(hq:blk A=Z q):base<=q/\q<w.heap.size:=h.lt q (by rw[cH];exact hq)
theorem gY{w:Wv}{base:Nat}{e:TypeId}{size n c:Nat}{A:Oa}{xs:Lv}(h:w.ownsRow base e size (H A n c) n xs)(hn:0<n):∃g,A=Z ⟨g,0,N⟩/\base<=g/\g<w.heap.size:=by
 rcases h.2 with⟨_,h0⟩|⟨g,cap,cur,hv,h1,h2,_⟩
 ·omega
 injection hv with hA _ _;exact⟨g,hA,h1,(aU h (by rw[hA];rfl)).2⟩
theorem sP{w:Wv}{base z size n c:Nat}{e:TypeId}{B:Oa}{cs:Lv}(h:w.ownsRow base e size (H B n c) n cs)(hz:z<base)(p:Addr)(hp:p.block=z)(v:Value):(w.setCell p v).ownsRow base e size (H B n c) n cs:=
 ownsRow_setCell_below h (by omega) v
structure fP(w:Wv)(base z:Nat)(B:Oa)(cap:Nat)(ms:List Mp):Prop where
 ex:∃vs:Lv,vs.length=ms.length/\w.ownsRow base 154 3 (H B ms.length cap) ms.length (aE mpC (ms.zip vs))/\∀i,(hi:i<ms.length)->(hv:i<vs.length)->∃C c,vs[i]=H C ms[i].toq.length c/\ms[i].toq.length<=c/\gJ B z w C ms[i].toq
theorem mps_raw{w:Wv}{A:Oa}{ms:List Mp}(h:Mps w A ms):∃cs,Sl w A cs/\cs.length=ms.length*3/\(∀u∈cs,u.oneCell'=true)/\
  ∀base z B cap w',By w w'->w.heap.size<=base->w.heap.size<=z->w'.ownsRow base 154 3 (H B ms.length cap) ms.length cs->fP w' base z B cap ms:=by
 obtain⟨vs,h1,h2,h3⟩:=h;have hzl:(ms.zip vs).length=ms.length:=by rw[List.length_zip];omega
 refine⟨aE mpC (ms.zip vs),h2,by rw[gE mpC 3 (fun _=>rfl),hzl],?_,fun base z B cap w' hb hbs hzs ho=>⟨vs,h1,ho,fun i hi hv=>?_⟩⟩
 ·intro u hu
  obtain⟨p,hp,hg⟩:=List.mem_flatMap.1 hu;obtain⟨j,hj,rfl⟩:=List.getElem_of_mem hp;simp only[mpC,List.mem_cons,List.not_mem_nil,or_false]at hg;have hj':j<ms.length:=by omega
  rcases hg with rfl|rfl|rfl
  ·rfl
  ·obtain⟨C,c,e,_⟩:=h3 j hj' (by omega)
   rw[show(ms.zip vs)[j].2=vs[j]'(by omega)from by rw[List.getElem_zip],e];rfl
  rfl
 obtain⟨C,c,e1,e2,e3⟩:=h3 i hi hv;refine⟨C,c,e1,e2,e3.below hb,fun hne q hq=>?_⟩;have h1:=lF e3 (rS hne) hq;refine⟨fun e=>?_,by omega⟩;have:=(aU ho e).1;omega
section
variable {w w':Wv}{base z:Nat}{B:Oa}{cap:Nat}{ms:List Mp}
theorem fP.below(h:fP w base z B cap ms)(hb:By w w'):fP w' base z B cap ms:=by
 obtain⟨vs,h1,h2,h3⟩:=h.ex;refine⟨vs,h1,bI h2 hb,fun i hi hv=>?_⟩;obtain⟨C,c,e1,e2,e3⟩:=h3 i hi hv;exact⟨C,c,e1,e2,e3.below hb⟩
theorem fP.is(h:fP w base z B cap ms):Mps w B ms:=by
 obtain⟨vs,h1,h2,h3⟩:=h.ex;refine⟨vs,h1,Sl.of_own h2,fun i hi hv=>?_⟩;obtain⟨C,c,e1,e2,e3⟩:=h3 i hi hv;exact⟨C,c,e1,e2,e3.1⟩
theorem fP.at(h:fP w base z B cap ms){i:Nat}(hi:i<ms.length):∃g C c,B=Z ⟨g,0,N⟩/\base<=g/\g<w.heap.size/\w.cell? ⟨g,i*3,N⟩=Z (I J ms[i].frm)/\w.cell? ⟨g,i*3+1,N⟩=Z (H C ms[i].toq.length c)/\w.cell? ⟨g,i*3+2,N⟩=Z (.string ms[i].tag)/\w.frozen? ⟨g,i*3+1,N⟩=false/\aB w C ms[i].toq:=by
 obtain⟨vs,h1,h2,h3⟩:=h.ex;obtain⟨g,rfl,hg1,hg2⟩:=gY h2 (by omega);obtain⟨C,c,e1,e2,e3⟩:=h3 i hi (by omega);have hzl:(ms.zip vs).length=ms.length:=by rw[List.length_zip];omega
 have hzi:i<(ms.zip vs).length:=by omega
 have ezi:(ms.zip vs)[i]=(ms[i],vs[i]'(by omega)):=List.getElem_zip;have gt:=fun j(hj:j<3)=>(h2.cellAt (i*3+j) (by omega)).trans (gW mpC 3 (fun _=>rfl) (ms.zip vs) i j hzi hj)
 refine⟨g,C,c,rfl,hg1,hg2,(gt 0 (by omega)).trans (by rw[ezi];rfl),(gt 1 (by omega)).trans (by rw[ezi,e1];rfl),(gt 2 (by omega)).trans (by rw[ezi];rfl),h2.frozenAt _,e3.1⟩
theorem fP.put{g:Nat}(h:fP w base z (Z ⟨g,0,N⟩) cap ms){i:Nat}(hi:i<ms.length){C:Oa}{c:Nat}(hc:ms[i].toq.length<=c)(hC:aB w C ms[i].toq)(hap:ms[i].toq≠[]->∀q,blk C=Z q->g≠q/\q≠z):
  fP (w.setCell ⟨g,i*3+1,N⟩ (H C ms[i].toq.length c)) base z (Z ⟨g,0,N⟩) cap ms:=by
 obtain⟨vs,h1,h2,h3⟩:=h.ex;have hzi:i<(ms.zip vs).length:=by rw[List.length_zip];omega
 have ezi:(ms.zip vs)[i]=(ms[i],vs[i]'(by omega)):=List.getElem_zip;refine⟨vs.set i (H C ms[i].toq.length c),by simpa using h1,?_,fun j hj hv=>?_⟩
 ·have:=(h2.stored (i*3+1) (H C ms[i].toq.length c)).1
  rw[gX mpC 3 (fun _=>rfl) (ms.zip vs) i 1 _ (ms[i],H C ms[i].toq.length c) hzi (by omega) (by rw[ezi];rfl),AP ms vs i _ hi]at this;exact this
 have hIC:gJ (Z ⟨g,0,N⟩) z w C ms[i].toq:=⟨hC,fun hne q hq=>⟨fun e=>(hap hne q hq).1 (Option.some.inj (show Z g=Z q from e)),(hap hne q hq).2⟩⟩;by_cases e:i=j
 ·subst e
  exact⟨C,c,by rw[List.getElem_set_self],hc,hIC.stored ⟨g,i*3+1,N⟩ (.inl rfl) _⟩
 obtain⟨C',c',e1,e2,e3⟩:=h3 j hj (by omega);exact⟨C',c',by rw[List.getElem_set_ne e,e1],e2,e3.stored ⟨g,i*3+1,N⟩ (.inl rfl) _⟩
theorem fP.off(h:fP w base z B cap ms)(hz:z<base)(p:Addr)(hp:p.block=z)(v:Value):fP (w.setCell p v) base z B cap ms:=by
 obtain⟨vs,h1,h2,h3⟩:=h.ex;refine⟨vs,h1,sP h2 hz p hp v,fun i hi hv=>?_⟩;obtain⟨C,c,e1,e2,e3⟩:=h3 i hi hv;exact⟨C,c,e1,e2,e3.stored p (.inr hp) v⟩
end
def h_(B:Oa)(z:Nat)(w:Wv)(C:Oa)(es:List Elt):Prop:=cB w C es/\(es≠[]->∀q,blk C=Z q->blk B≠Z q/\q≠z)
theorem vH{es:List Elt}(h:es≠[]):aE Elt.cells es≠[]:=by
 intro e;have:=congrArg List.length e;rw[gE Elt.cells 4 (fun _=>rfl)]at this;have:=List.length_pos_iff.2 h;simp at *;omega
theorem h_.below{w w':Wv}{z:Nat}{B C:Oa}{es:List Elt}(h:h_ B z w C es)(hb:By w w'):h_ B z w' C es:=⟨h.1.below hb,h.2⟩
theorem h_.stored{w:Wv}{z:Nat}{B C:Oa}{es:List Elt}(h:h_ B z w C es)(p:Addr)(hp:blk B=Z p.block\/p.block=z)(v:Value):h_ B z (w.setCell p v) C es:=
 ⟨Sl.stored h.1 p (fun hne q hq e=>by
  have h2:=h.2 (by rintro rfl;exact hne rfl) q hq
  rcases hp with g|g
  ·exact h2.1 (by rw[g,e])
  ·exact h2.2 (by rw[<-e,g])) v,h.2⟩
def enC(v:Value×Value):Lv:=[v.1,v.2]
structure dX(w:Wv)(base z:Nat)(B:Oa)(cap:Nat)(xs:List Ent):Prop where
 ex:∃vs:List (Value×Value),vs.length=xs.length/\w.ownsRow base 75 2 (H B xs.length cap) xs.length (aE enC vs)/\∀i,(hi:i<xs.length)->(hv:i<vs.length)->∃C c E d,vs[i]=(H C xs[i].codes.length c,H E xs[i].elems.length d)/\gJ B z w C xs[i].codes/\h_ B z w E xs[i].elems
theorem IT{w:Wv}{A:Oa}{xs:List Ent}(h:gB w A xs):∃cs,Sl w A cs/\cs.length=xs.length*2/\(∀u∈cs,u.oneCell'=true)/\
  ∀base z B cap w',By w w'->w.heap.size<=base->w.heap.size<=z->w'.ownsRow base 75 2 (H B xs.length cap) xs.length cs->dX w' base z B cap xs:=by
 obtain⟨vs,h1,h2,h3⟩:=h;refine⟨aE enC vs,h2,by rw[gE enC 2 (fun _=>rfl),h1],?_,fun base z B cap w' hb hbs hzs ho=>⟨vs,h1,ho,fun i hi hv=>?_⟩⟩
 ·intro u hu
  obtain⟨p,hp,hg⟩:=List.mem_flatMap.1 hu;obtain⟨j,hj,rfl⟩:=List.getElem_of_mem hp;obtain⟨C,c,E,d,e,_⟩:=(h3 j (by omega) hj).ex;simp only[enC,List.mem_cons,List.not_mem_nil,or_false]at hg;rcases hg with rfl|rfl
  ·rw[e];rfl
  rw[e];rfl
 obtain⟨C,c,E,d,e1,e2,e3⟩:=(h3 i hi hv).ex;refine⟨C,c,E,d,e1,⟨e2.below hb,fun hne q hq=>⟨fun e=>?_,?_⟩⟩,⟨e3.below hb,fun hne q hq=>⟨fun e=>?_,?_⟩⟩⟩
 ·have:=lF e2 (rS hne) hq
  have:=(aU ho e).1;omega
 ·have:=lF e2 (rS hne) hq
  omega
 ·have:=lF e3 (vH hne) hq
  have:=(aU ho e).1;omega
 have:=lF e3 (vH hne) hq;omega
section
variable {w w':Wv}{base z:Nat}{B:Oa}{cap:Nat}{xs:List Ent}
theorem dX.below(h:dX w base z B cap xs)(hb:By w w'):dX w' base z B cap xs:=by
 obtain⟨vs,h1,h2,h3⟩:=h.ex;refine⟨vs,h1,bI h2 hb,fun i hi hv=>?_⟩;obtain⟨C,c,E,d,e1,e2,e3⟩:=h3 i hi hv;exact⟨C,c,E,d,e1,e2.below hb,e3.below hb⟩
theorem dX.is(h:dX w base z B cap xs):gB w B xs:=by
 obtain⟨vs,h1,h2,h3⟩:=h.ex;refine⟨vs,h1,Sl.of_own h2,fun i hi hv=>?_⟩;obtain⟨C,c,E,d,e1,e2,e3⟩:=h3 i hi hv;exact⟨C,c,E,d,e1,e2.1,e3.1⟩
theorem dX.at(h:dX w base z B cap xs){i:Nat}(hi:i<xs.length):∃g C c E d,B=Z ⟨g,0,N⟩/\base<=g/\g<w.heap.size/\w.cell? ⟨g,i*2,N⟩=Z (H C xs[i].codes.length c)/\w.cell? ⟨g,i*2+1,N⟩=Z (H E xs[i].elems.length d)/\w.frozen? ⟨g,i*2,N⟩=false/\w.frozen? ⟨g,i*2+1,N⟩=false/\aB w C xs[i].codes/\cB w E xs[i].elems:=by
 obtain⟨vs,h1,h2,h3⟩:=h.ex;obtain⟨g,rfl,hg1,hg2⟩:=gY h2 (by omega);obtain⟨C,c,E,d,e1,e2,e3⟩:=h3 i hi (by omega);have hzi:i<vs.length:=by omega
 have gt:=fun j(hj:j<2)=>(h2.cellAt (i*2+j) (by omega)).trans (gW enC 2 (fun _=>rfl) vs i j hzi hj)
 exact⟨g,C,c,E,d,rfl,hg1,hg2,(gt 0 (by omega)).trans (by rw[e1];rfl),(gt 1 (by omega)).trans (by rw[e1];rfl),h2.frozenAt _,h2.frozenAt _,e2.1,e3.1⟩
theorem dX.put{g:Nat}(h:dX w base z (Z ⟨g,0,N⟩) cap xs){i:Nat}(hi:i<xs.length){C:Oa}{c:Nat}{E:Oa}{d:Nat}(hC:aB w C xs[i].codes)(hap:xs[i].codes≠[]->∀q,blk C=Z q->g≠q/\q≠z)(hE:cB w E xs[i].elems)(hape:xs[i].elems≠[]->∀q,blk E=Z q->g≠q/\q≠z):
  dX ((w.setCell ⟨g,i*2,N⟩ (H C xs[i].codes.length c)).setCell ⟨g,i*2+1,N⟩ (H E xs[i].elems.length d)) base z (Z ⟨g,0,N⟩) cap xs:=by
 obtain⟨vs,h1,h2,h3⟩:=h.ex;have hzi:i<vs.length:=by omega
 refine⟨(vs.set i (H C xs[i].codes.length c,vs[i].2)).set i (H C xs[i].codes.length c,H E xs[i].elems.length d),by simpa using h1,?_,fun j hj hv=>?_⟩
 ·have t1:=(h2.stored (i*2+0) (H C xs[i].codes.length c)).1
  rw[gX enC 2 (fun _=>rfl) vs i 0 _ (H C xs[i].codes.length c,vs[i].2) hzi (by omega) rfl]at t1;have t2:=(t1.stored (i*2+1) (H E xs[i].elems.length d)).1;rw[gX enC 2 (fun _=>rfl) (vs.set i (H C xs[i].codes.length c,vs[i].2)) i 1 _ (H C xs[i].codes.length c,H E xs[i].elems.length d) (by simpa using hzi) (by omega) (by rw[List.getElem_set_self];rfl)]at t2;exact t2
 have hIC:gJ (Z ⟨g,0,N⟩) z w C xs[i].codes:=⟨hC,fun hne q hq=>⟨fun e=>(hap hne q hq).1 (Option.some.inj (show Z g=Z q from e)),(hap hne q hq).2⟩⟩;have hIE:h_ (Z ⟨g,0,N⟩) z w E xs[i].elems:=⟨hE,fun hne q hq=>⟨fun e=>(hape hne q hq).1 (Option.some.inj (show Z g=Z q from e)),(hape hne q hq).2⟩⟩;by_cases e:i=j
 ·subst e
  exact⟨C,c,E,d,by rw[List.getElem_set_self],(hIC.stored ⟨g,i*2,N⟩ (.inl rfl) _).stored ⟨g,i*2+1,N⟩ (.inl rfl) _,(hIE.stored ⟨g,i*2,N⟩ (.inl rfl) _).stored ⟨g,i*2+1,N⟩ (.inl rfl) _⟩
 obtain⟨C',c',E',d',e1,e2,e3⟩:=h3 j hj (by omega);exact⟨C',c',E',d',by rw[List.getElem_set_ne e,List.getElem_set_ne e,e1],(e2.stored ⟨g,i*2,N⟩ (.inl rfl) _).stored ⟨g,i*2+1,N⟩ (.inl rfl) _,(e3.stored ⟨g,i*2,N⟩ (.inl rfl) _).stored ⟨g,i*2+1,N⟩ (.inl rfl) _⟩
theorem dX.off(h:dX w base z B cap xs)(hz:z<base)(p:Addr)(hp:p.block=z)(v:Value):dX (w.setCell p v) base z B cap xs:=by
 obtain⟨vs,h1,h2,h3⟩:=h.ex;refine⟨vs,h1,sP h2 hz p hp v,fun i hi hv=>?_⟩;obtain⟨C,c,E,d,e1,e2,e3⟩:=h3 i hi hv;exact⟨C,c,E,d,e1,e2.stored p (.inr hp) v,e3.stored p (.inr hp) v⟩
end
end
section
open Go.Shelf Go.RowKit Go.Lib
theorem wF:(prog.info? 75).map (fun i=>(i.zero,i.size,i.bytes))=Z (Z (.agg #[H N 0 0,H N 0 0]),2,48):=by kernel_rfl
theorem pG:(prog.info? 75).map (·.size)=Z 2:=by kernel_rfl
theorem pF{P:Program}(k:Nat)(w:Wv)(dT sT ty elem:TypeId)(b o dLen dCap:Nat)(a:Addr)(sLen sCap:Nat)(cs:Lv)
  (hu:P.underlying dT=Z (.slice elem)) (hs:(P.info? elem).map (·.size)=Z k) (hn:cs.length=Nat.min sLen dLen*k)
  (hsrc:∀j v,cs[j]?=Z v->w.cell? (a.add j)=Z v) (hc:∀j,j<cs.length->(w.cell? ⟨b,o+j,N⟩).isSome=true) (hf:∀j,j<cs.length->w.frozen? ⟨b,o+j,N⟩=false) (h1:∀v∈cs,v.oneCell'=true) :
  (Builtin.copy_ #[dT,sT] ty #[H (Z ⟨b,o,N⟩) dLen dCap,H (Z a) sLen sCap]).run P w=.ok (goInt (Nat.min sLen dLen)) (w.setCells b o cs):=by
 have hl:=run_loadCells_list (P:=P) w a cs hsrc;have hst:=run_storeCells_cells (P:=P) b o cs 0 w (by simpa using hc) (by simpa using hf) h1;cases hq:P.info? elem with
 |none=>simp[hq]at hs
 |some i=>
  have hi:i.size=k:=by simpa[hq]using hs
  rw[hn]at hl;simp[Builtin.copy_,run_underlying hu,Builtin.lenOf,Builtin.firstCells,sizeOf,typeInfo,hq,hi,hl,hst]
theorem MA(b n c i vb vc:Nat)(cs vs:Lv)(w:Wv)(hi:i<n)(hroom:n+1<=c)(hc63:c<=9223372036854775807)(hn:n<=1099511627776)(hvb:vb≠b)
  (hcl:cs.length=n*2) (hvl:vs.length=2)
  (hcs:∀j v,cs[j]?=Z v->w.cell? ⟨b,j,N⟩=Z v) (hsp:∀j,j<(n+1)*2->(w.cell? ⟨b,j,N⟩).isSome=true) (hfz:∀j,w.frozen? ⟨b,j,N⟩=false)
  (hvs:∀j v,vs[j]?=Z v->w.cell? ⟨vb,j,N⟩=Z v) (h1c:∀v∈cs,v.oneCell'=true) (h1v:∀v∈vs,v.oneCell'=true)
  (tA tB:TypeId) (kA kB:Nat) (hsa:w.shape? vb=Z (tA,kA)) (hsb:w.shape? b=Z (tB,kB)) (hkB:kB≠0) (hfa:w.frozen? ⟨vb,0,N⟩=false) (hfe:w.frozen? ⟨vb,kA,N⟩=false) :
  Calls prog 87 #[H (Z ⟨b,0,N⟩) n c,I J i,H (Z ⟨vb,0,N⟩) 1 vc] w fun e w'=>
   e=.returned (H (Z ⟨b,0,N⟩) (n+1) c)/\w'=(w.drew.setCells b ((i+1)*2) (cs.drop (i*2))).setCells b (i*2) vs:=by
 have mixed:prog.follows Departure.mixedOrders=true:=by kernel_rfl
 have hz2:¬((i:Int)=(n:Int)):=by omega
 have hov:∀o lb cb,(callFunc 145 #[H (Z ⟨vb,0,N⟩) 1 vc,H (Z ⟨b,o,N⟩) lb cb]).run prog w=.ok (.value (.bool false)) w:=fun o lb cb=>by
  rw[run_callFunc_extern func145 (by kernel_rfl) (by kernel_rfl) (by kernel_rfl) (e:=Extern.SlicesOverlaps.overlaps #[29,29] #[4]) (by kernel_rfl),
   Lib.run_overlaps_apart w 29 4 75 underlying29 2 sizeOf75 ⟨vb,0,N⟩ ⟨b,o,N⟩ 1 vc lb cb hvb tA tB kA kB hsa hsb hkB hfa hfe]
  rfl
 have hdl:(cs.drop (i*2)).length=(n-i)*2:=by rw[List.length_drop,hcl];omega
 have hcp1:∀ty dc sc,(Builtin.copy_ #[29,29] ty #[H (Z ⟨b,(i+1)*2,N⟩) (n-i) dc,H (Z ⟨b,i*2,N⟩) (n+1-i) sc]).run prog w.drew=.ok (goInt (Nat.min (n+1-i) (n-i))) (w.drew.setCells b ((i+1)*2) (cs.drop (i*2))):=fun ty dc sc=>
  pF 2 w.drew _ _ ty 75 b ((i+1)*2) (n-i) dc ⟨b,i*2,N⟩ (n+1-i) sc (cs.drop (i*2)) underlying29 pG (by rw[hdl];simp only[Nat.min_def];split<;>omega)
   (fun j v hj=>by rw[Addr.add_lit];exact hcs (i*2+j) v (by rwa[List.getElem?_drop]at hj))
   (fun j hj=>hsp _ (by rw[hdl]at hj;omega)) (fun j hj=>hfz _) (fun v hv=>h1c v (List.mem_of_mem_drop hv))
 obtain⟨W1,hW1⟩:∃W1,W1=w.drew.setCells b ((i+1)*2) (cs.drop (i*2)):=⟨_,rfl⟩
 have hsp1:∀k,k<(n+1)*2->(W1.cell? ⟨b,k,N⟩).isSome=true:=fun k hk=>by
  rw[hW1];exact isSome_setCells b (cs.drop (i*2)) ((i+1)*2) w.drew (fun j hj=>hsp _ (by rw[hdl]at hj;omega)) k (hsp k hk)
 have hcp2:∀ty dc,(Builtin.copy_ #[29,29] ty #[H (Z ⟨b,i*2,N⟩) (n+1-i) dc,H (Z ⟨vb,0,N⟩) 1 vc]).run prog W1=.ok (goInt (Nat.min 1 (n+1-i))) (W1.setCells b (i*2) vs):=fun ty dc=>
  pF 2 W1 _ _ ty 75 b (i*2) (n+1-i) dc ⟨vb,0,N⟩ 1 vc vs underlying29 pG (by rw[hvl];simp only[Nat.min_def];split<;>omega)
   (fun j v hj=>by
    rw[Addr.add_lit,hW1,World.cell?_setCells_out b _ _ _ _ (fun h _=>absurd h hvb),Nat.zero_add]
    exact hvs j v hj)
   (fun j hj=>hsp1 _ (by omega)) (fun j hj=>by rw[hW1,World.frozen?_setCells];exact hfz _) h1v
 rw[<-hW1]at hcp1|-;clear hW1 hsp1 hcs hsp hfz hvs hsa hsb hfa hfe hdl;have hw1:IntKind.i64.wrap ((i:Int)+1)=(i:Int)+1:=by rw[IntKind.wrap_i64];omega
 have hb1:(0:Int)<=(i:Int)+1:=by omega
 have htn:((i:Int)+1).toNat=i+1:=by omega
 have hle1:(i:Int)+1<=(n:Int)+1:=by omega
 have hle2:(i:Int)<=(n:Int)+1:=by omega
 have hin:i<=n:=by omega
 have hb2:¬(c=i+1):=by omega
 have hb4:¬(c=i):=by omega
 go_enter func87,ntmps87;go_wp2_with(simp only[hov]);go_region_law_o (refine step_copy_runI rfl _ _ 29 29 rfl _ _ (by simp[Act.eval,Act.put]) (by simp[Act.eval,Act.put]) (hcp1 _ _ _) ?_);go_wp2_with(at_builtin;refine wpList_copy_runI _ rfl _ _ 29 29 rfl _ _ rfl rfl (hcp2 _ _) ?_);go_ret;exact⟨rfl,rfl⟩
theorem L_(b n c i vb vc:Nat)(cs vs:Lv)(w:Wv)(hi:i<n)(hnc:n<=c)(hroom:c<n+1)(hn:n<=1048576)(hbw:b<w.heap.size)(hvw:vb<w.heap.size)
  (hcl:cs.length=n*2) (hvl:vs.length=2)
  (hcs:∀j v,cs[j]?=Z v->w.cell? ⟨b,j,N⟩=Z v)
  (hvs:∀j v,vs[j]?=Z v->w.cell? ⟨vb,j,N⟩=Z v) (h1c:∀v∈cs,v.oneCell'=true) (h1v:∀v∈vs,v.oneCell'=true) :
  Calls prog 87 #[H (Z ⟨b,0,N⟩) n c,I J i,H (Z ⟨vb,0,N⟩) 1 vc] w fun e w'=>
   ∃ROW:Array Value,n+1<=grownCap w (n+1) c 75/\grownCap w (n+1) c 75<=maxLen/\ROW.size=grownCap w (n+1) c 75*2/\ROW.toList.take (i*2)=cs.take (i*2)/\e=.returned (H (Z ⟨w.heap.size,0,N⟩) (n+1) (grownCap w (n+1) c 75))/\
   w'=(((w.alloc (.cells ROW 75)).drew.setCells w.heap.size (i*2) vs).drew).setCells w.heap.size ((i+1)*2) (cs.drop (i*2)):=by
 obtain⟨i0,hi0,hz0,hzs,hzb⟩:=info_parts wF;have mixed:prog.follows Departure.mixedOrders=true:=by kernel_rfl
 have hz2:¬((i:Int)=(n:Int)):=by omega
 have hz3:(c:Int)<(n:Int)+1:=by omega
 have hkk:(n:Int)+1-(i:Int)=((n+1-i:Nat):Int):=by omega
 have hik:i+(n+1-i)=n+1:=by omega
 have hold:(Builtin.firstCells i0.size i (H (Z ⟨b,0,N⟩) i c)).run prog w.drew=.ok (cs.take (i*2)).toArray w.drew:=by
  rw[hzs]
  exact run_firstCells_some w.drew 2 i ⟨b,0,N⟩ i c (cs.take (i*2)) (by rw[List.length_take];omega) (fun j v hj=>by
   rw[Addr.add_lit,Nat.zero_add]
   rw[List.getElem?_take]at hj
   split at hj
   ·exact hcs j v hj
   ·cases hj)
 have hrz:∀ty,(Builtin.append_ #[29,3] ty #[H (Z ⟨b,0,N⟩) i c,I J ((n:Int)+1-(i:Int))]).run prog w =
   .ok (H (Z ⟨w.heap.size,0,N⟩) (n+1) (grownCap w (n+1) c 75)) (w.drew.alloc (.cells ((cs.take (i*2)).toArray++Builtin.zeroCells (Value.agg #[H N 0 0,H N 0 0]).cells (n+1-i)++Builtin.zeroCells (Value.agg #[H N 0 0,H N 0 0]).cells (grownCap w (n+1) c 75-(n+1))) 75)):=fun ty=>by
  have h:=Lib.run_append_grow_zeros w 29 3 ty 75 i0 _ .i64 .i64 underlying29 underlying3 hi0 hz0 (Z ⟨b,0,N⟩) i c (cs.take (i*2)) hold (n+1-i) (by omega) (by omega) (by omega) (by omega) (by rw[hzb];omega) (by rw[hzb,hik];exact growslice_fits hroom (by omega));rw[hik]at h;rw[hkk];exact h
 have hGn:n+1<=grownCap w (n+1) c 75:=grownCap_ge w _ _ _;have hGm:=grownCap_le_maxLen w (n+1) c 75 (by unfold maxLen;omega);obtain⟨G,hG⟩:∃G,G=grownCap w (n+1) c 75:=⟨_,rfl⟩;rw[<-hG]at hrz hGn hGm|-;have hzc:(Value.agg #[H N 0 0,H N 0 0]).cells.size=2:=rfl;obtain⟨ROW,hROW⟩:∃ROW:Array Value,ROW=(cs.take (i*2)).toArray++Builtin.zeroCells (Value.agg #[H N 0 0,H N 0 0]).cells (n+1-i)++Builtin.zeroCells (Value.agg #[H N 0 0,H N 0 0]).cells (G-(n+1)):=⟨_,rfl⟩;rw[<-hROW]at hrz;have hRl:ROW.size=G*2:=by
  have e1:=size_zeroCells (Value.agg #[H N 0 0,H N 0 0]).cells (n+1-i);have e2:=size_zeroCells (Value.agg #[H N 0 0,H N 0 0]).cells (G-(n+1));rw[hzc]at e1 e2;rw[hROW,Array.size_append,Array.size_append,e1,e2];simp;omega
 have hRt:ROW.toList.take (i*2)=cs.take (i*2):=by
  rw[hROW,Array.toList_append,Array.toList_append,List.append_assoc,List.take_append_of_le_length (by simp;omega),List.take_of_length_le (by simp;omega)]
 obtain⟨W1,hW1⟩:∃W1,W1=w.drew.alloc (.cells ROW 75):=⟨_,rfl⟩;rw[<-hW1]at hrz
 have hN:∀j,j<(n+1)*2->(W1.cell? ⟨w.heap.size,j,N⟩).isSome=true:=fun j hj=>by
  rw[hW1,World.cell?_alloc_at (w:=w.drew) ROW _ w.heap.size j rfl,Array.getElem?_eq_getElem (by omega)];rfl
 have hNf:∀j,W1.frozen? ⟨w.heap.size,j,N⟩=false:=fun j=>by rw[hW1];exact World.frozen?_alloc_at (w:=w.drew) ROW _ w.heap.size j rfl
 have hOb:∀j v,w.cell? ⟨b,j,N⟩=Z v->W1.cell? ⟨b,j,N⟩=Z v:=fun j v h=>by rw[hW1,World.cell?_alloc_past (w:=w.drew) _ b j hbw];exact h
 have hOv:∀j v,w.cell? ⟨vb,j,N⟩=Z v->W1.cell? ⟨vb,j,N⟩=Z v:=fun j v h=>by rw[hW1,World.cell?_alloc_past (w:=w.drew) _ vb j hvw];exact h
 have hcpA:∀(W:Wv),(∀x,W.cell? x=W1.cell? x)->(∀x,W.frozen? x=W1.frozen? x)->∀ty dc,(Builtin.copy_ #[29,29] ty #[H (Z ⟨w.heap.size,i*2,N⟩) (n+1-i) dc,H (Z ⟨vb,0,N⟩) 1 vc]).run prog W=.ok (goInt (Nat.min 1 (n+1-i))) (W.setCells w.heap.size (i*2) vs):=fun W hWc hWf ty dc=>
  pF 2 W _ _ ty 75 w.heap.size (i*2) (n+1-i) dc ⟨vb,0,N⟩ 1 vc vs underlying29 pG (by rw[hvl];simp only[Nat.min_def];split<;>omega)
   (fun j v hj=>by rw[Addr.add_lit,hWc,Nat.zero_add];exact hOv _ v (hvs j v hj))
   (fun j hj=>by rw[hWc];exact hN _ (by omega)) (fun j hj=>by rw[hWf];exact hNf _) h1v
 have hG63:G<=9223372036854775807:=by unfold maxLen at hGm;omega
 have hGi:¬(G=i):=by omega
 have hGim:¬(G=i+1):=by omega
 have hci:¬(c=i):=by omega
 have hbN:b≠w.heap.size:=by omega
 have hdl:(cs.drop (i*2)).length=(n-i)*2:=by rw[List.length_drop,hcl];omega
 have hcpB:∀(W:Wv),(∀x,W.cell? x=(W1.setCells w.heap.size (i*2) vs).cell? x)->(∀x,W.frozen? x=(W1.setCells w.heap.size (i*2) vs).frozen? x)->∀ty dc sc,(Builtin.copy_ #[29,29] ty #[H (Z ⟨w.heap.size,(i+1)*2,N⟩) (n-i) dc,H (Z ⟨b,i*2,N⟩) (n-i) sc]).run prog W=.ok (goInt (Nat.min (n-i) (n-i))) (W.setCells w.heap.size ((i+1)*2) (cs.drop (i*2))):=fun W hWc hWf ty dc sc=>
  pF 2 W _ _ ty 75 w.heap.size ((i+1)*2) (n-i) dc ⟨b,i*2,N⟩ (n-i) sc (cs.drop (i*2)) underlying29 pG (by rw[hdl];simp only[Nat.min_def];split<;>omega)
   (fun j v hj=>by
    rw[Addr.add_lit,hWc,World.cell?_setCells_out _ _ _ _ _ (fun h _=>absurd h hbN)]
    exact hOb _ v (hcs (i*2+j) v (by rwa[List.getElem?_drop]at hj)))
   (fun j hj=>by rw[hdl]at hj;rw[hWc];exact isSome_setCells _ _ _ _ (fun t ht=>hN _ (by omega)) _ (hN _ (by omega)))
   (fun j hj=>by rw[hWf,World.frozen?_setCells];exact hNf _) (fun v hv=>h1c v (List.mem_of_mem_drop hv))
 subst hW1;have hE1:∀x,((w.alloc (.cells ROW 75)).drew).cell? x=(w.drew.alloc (.cells ROW 75)).cell? x:=fun x=>rfl
 have hE2:∀x,((w.alloc (.cells ROW 75)).drew).frozen? x=(w.drew.alloc (.cells ROW 75)).frozen? x:=fun x=>rfl
 have hF1:∀x,(((w.alloc (.cells ROW 75)).drew.setCells w.heap.size (i*2) vs).drew).cell? x=((w.drew.alloc (.cells ROW 75)).setCells w.heap.size (i*2) vs).cell? x:=fun x=>rfl
 have hF2:∀x,(((w.alloc (.cells ROW 75)).drew.setCells w.heap.size (i*2) vs).drew).frozen? x=((w.drew.alloc (.cells ROW 75)).setCells w.heap.size (i*2) vs).frozen? x:=fun x=>rfl
 have HEND:=Lib.hid (fun e' w'(h1:e'=Ending.returned (H (Z ⟨w.heap.size,0,N⟩) (n+1) G))(h2:w'=(((w.alloc (.cells ROW 75)).drew.setCells w.heap.size (i*2) vs).drew).setCells w.heap.size ((i+1)*2) (cs.drop (i*2)))=>show ∃ROW:Array Value,n+1<=G/\G<=maxLen/\ROW.size=G*2/\ROW.toList.take (i*2)=cs.take (i*2)/\e'=.returned (H (Z ⟨w.heap.size,0,N⟩) (n+1) G)/\w'=(((w.alloc (.cells ROW 75)).drew.setCells w.heap.size (i*2) vs).drew).setCells w.heap.size ((i+1)*2) (cs.drop (i*2))from⟨ROW,hGn,hGm,hRl,hRt,h1,h2⟩);have hw1:IntKind.i64.wrap ((i:Int)+1)=(i:Int)+1:=by rw[IntKind.wrap_i64];omega
 have hb1:(0:Int)<=(i:Int)+1:=by omega
 have htn:((i:Int)+1).toNat=i+1:=by omega
 have hle1:(i:Int)+1<=(n:Int)+1:=by omega
 have hle2:(i:Int)<=(n:Int)+1:=by omega
 have hin:i<=n:=by omega
 have hb3:(i:Int)<=(n:Int):=by omega
 clear hkk hik hold hROW hG hRl hRt hzs hzb hz0 hi0 hzc hdl hcl hvl hcs hvs;go_enter func87,ntmps87
 go_wp2_with(first
  |(at_builtin;refine Lib.wpList_append_run _ rfl _ _ _ _ rfl _ _ rfl rfl _ _ (hrz _) ?_)
  |(at_builtin;refine wpList_copy_runI _ rfl _ _ 29 29 rfl _ _ rfl rfl (hcpA _ hE1 hE2 _ _) ?_)
  | (at_builtin;refine wpList_copy_runI _ rfl _ _ 29 29 rfl _ _ rfl rfl (hcpB _ (fun _=>rfl) (fun _=>rfl) _ _ _) ?_))
 go_region_law_o (refine step_copy_runI rfl _ _ 29 29 rfl (H (Z ⟨w.heap.size,(i+1)*2,N⟩) (n-i) (G-(i+1))) (H (Z ⟨b,i*2,N⟩) (n-i) (c-i)) (by simp[Act.eval,Act.put]) (by simp[Act.eval,Act.put]) (hcpB _ hF1 hF2 3 (G-(i+1)) (c-i)) ?_);go_wp2;go_ret;exact HEND.out _ _ rfl rfl
theorem MB{L D vs:Lv}{p N k:Nat}(hD:D.length=N)(hL:L.take N=D)(hl:N+k<=L.length)(hp:p<=N)(hk:vs.length=k):(splice (splice L (p+k) (D.drop p)) p vs).take (N+k)=D.take p++(vs++D.drop p)/\(splice (splice L (p+k) (D.drop p)) p vs).length=L.length:=by
 have h1:p+k+(D.drop p).length=N+k:=by rw[List.length_drop];omega
 have l1:(splice L (p+k) (D.drop p)).length=L.length:=length_splice _ _ _ (by omega);refine⟨?_,by rw[length_splice _ _ _ (by rw[l1];omega),l1]⟩;have ei:L.take p=D.take p:=by rw[<-hL,List.take_take,Nat.min_eq_left hp]
 have e1:(splice L (p+k) (D.drop p)).take p=D.take p:=by
  unfold splice;rw[List.take_append_of_le_length (by rw[List.length_take];omega),List.take_take,Nat.min_eq_left (by omega),ei]
 have e2:(splice L (p+k) (D.drop p)).drop (p+k)=D.drop p++L.drop (N+k):=by
  unfold splice;rw[List.drop_append_of_le_length (by rw[List.length_take];omega),List.drop_of_length_le (by rw[List.length_take];omega),List.nil_append,h1]
 generalize splice L (p+k) (D.drop p)=X at *;unfold splice;rw[hk,e1,e2];have e:D.take p++(vs++(D.drop p++L.drop (N+k)))=(D.take p++(vs++D.drop p))++L.drop (N+k):=by simp
 have el:(D.take p++(vs++D.drop p)).length=N+k:=by simp[hD,hk];omega
 rw[e,List.take_append_of_le_length (by omega),List.take_of_length_le (by omega)]
theorem JZ{L D vs:Lv}{p N k:Nat}(hD:D.length=N)(hL:L.take p=D.take p)(hl:N+k<=L.length)(hp:p<=N)(hk:vs.length=k):(splice (splice L p vs) (p+k) (D.drop p)).take (N+k)=D.take p++(vs++D.drop p)/\(splice (splice L p vs) (p+k) (D.drop p)).length=L.length:=by
 have h1:p+k+(D.drop p).length=N+k:=by rw[List.length_drop];omega
 have l1:(splice L p vs).length=L.length:=length_splice _ _ _ (by omega);refine⟨?_,by rw[length_splice _ _ _ (by omega),l1]⟩;have e1:(splice L p vs).take (p+k)=D.take p++vs:=by
  unfold splice;have el:(D.take p++vs).length=p+k:=by simp[hD,hk];omega
  rw[hL,<-List.append_assoc,List.take_append_of_le_length (by omega),List.take_of_length_le (by omega)]
 generalize splice L p vs=X at *;unfold splice;have el:(D.take p++(vs++D.drop p)).length=N+k:=by simp[hD,hk];omega
 have e:D.take p++vs++(D.drop p++X.drop (p+k+(D.drop p).length))=(D.take p++(vs++D.drop p))++X.drop (p+k+(D.drop p).length):=by simp
 rw[e1,e,List.take_append_of_le_length (by omega),List.take_of_length_le (by omega)]
def dH{α:Type}(xs:List α)(i:Nat)(x:α):List α:=xs.take i++x::xs.drop i
theorem vT{α:Type}(enc:α->Lv)(k:Nat)(hk:∀x,(enc x).length=k)(xs:List α)(i:Nat)(hi:i<=xs.length):(aE enc xs).take (i*k)=aE enc (xs.take i)/\(aE enc xs).drop (i*k)=aE enc (xs.drop i):=by
 have e:=k_ (enc:=enc) (xs.take i) (xs.drop i);rw[List.take_append_drop]at e;have l:=gE enc k hk (xs.take i);rw[List.length_take,Nat.min_eq_left hi]at l;rw[e];exact⟨by rw[List.take_append_of_le_length (by omega),List.take_of_length_le (by omega)],by rw[List.drop_append_of_le_length (by omega),List.drop_of_length_le (by omega),List.nil_append]⟩
theorem JK{α:Type}(enc:α->Lv)(k:Nat)(hk:∀x,(enc x).length=k)(xs:List α)(i:Nat)(hi:i<=xs.length)(x:α):aE enc (dH xs i x)=(aE enc xs).take (i*k)++(enc x++(aE enc xs).drop (i*k)):=by
 obtain⟨e1,e2⟩:=vT enc k hk xs i hi;rw[e1,e2];unfold dH;rw[k_];rfl
theorem x_{w:Wv}{base g n c:Nat}{t:TypeId}{k:Nat}{L xs:Lv}(h:Box w g t L)(hb:base<=g)(hc:L.length=c*k)(hn:n<=c)(hm:c<=maxLen)(ht:L.take (n*k)=xs)(hx:xs.length=n*k):w.ownsRow base t k (H (Z ⟨g,0,N⟩) n c) n xs:=
 ⟨hx,.inr ⟨g,c,L.toArray,rfl,hb,h,hn,hm,by simp[hc],by simpa using ht⟩⟩
def pX(vs:List (Value×Value))(i:Nat)(x:Value×Value)(base:Nat)(A:Oa)(w:Wv)(e:Ending)(w':Wv):Prop:=∃B k,e=.returned (H B (vs.length+1) k)/\w'.ownsRow base 75 2 (H B (vs.length+1) k) (vs.length+1) (aE enC (dH vs i x))/\w.grownBy w' (blk A)/\(blk B=blk A\/blk B=Z w.heap.size)
theorem LZ(A:Oa)(n c base i:Nat)(ps:List (Value×Value))(x:Value×Value)(vb vc:Nat)(w:Wv)(h:w.ownsRow base 75 2 (H A n c) n (aE enC ps))(hbase:base<=w.heap.size)(hn:ps.length=n)(hi:i<=n)(hv:Box w vb 75 [x.1,x.2])(hvb:∀g,blk A=Z g->vb≠g)(hb:n<=1048576)(h1c:∀v∈aE enC ps,v.oneCell'=true)(h1v:x.1.oneCell'=true/\x.2.oneCell'=true):
  Calls prog 87 #[H A n c,I J i,H (Z ⟨vb,0,N⟩) 1 vc] w (pX ps i x base A w):=by
 subst hn;have hvs:∀j v,[x.1,x.2][j]?=Z v->w.cell? ⟨vb,j,N⟩=Z v:=fun j v hj=>hv.cell hj
 have h1v':∀v∈[x.1,x.2],v.oneCell'=true:=by intro v hv;simp at hv;rcases hv with rfl|rfl;exact h1v.1;exact h1v.2
 have hcl:(aE enC ps).length=ps.length*2:=gE enC 2 (fun _=>rfl) ps;have hil:(aE enC (dH ps i x)).length=(ps.length+1)*2:=by
  rw[gE enC 2 (fun _=>rfl)];unfold dH;simp;omega
 have hfl:=JK enC 2 (fun _=>rfl) ps i hi x;by_cases hin:i<ps.length
 ·rcases h.2 with⟨_,h0⟩|⟨g,cap,cur,hvv,h1,h2,h3,h4,h5,h6⟩
  ·omega
  injection hvv with hA _ hc;subst hA;subst hc;have hX:Box w g 75 cur.toList:=h2;have hcl2:cur.toList.length=c*2:=by simpa using h5
  have hne:vb≠g:=hvb g rfl
  have hcs:∀j v,(aE enC ps)[j]?=Z v->w.cell? ⟨g,j,N⟩=Z v:=fun j v hj=>by
   rw[<-h6]at hj;exact hX.cell (by rw[List.getElem?_take]at hj;split at hj;exact hj;cases hj)
  by_cases hroom:ps.length+1<=c
  ·have hsz:∀j,j<(ps.length+1)*2->(w.cell? ⟨g,j,N⟩).isSome=true:=fun j hj=>by rw[hX.cell (List.getElem?_eq_getElem (by omega))];rfl
   refine(MA g ps.length c i vb vc (aE enC ps) [x.1,x.2] w hin hroom (by unfold maxLen at h4;omega) (by omega) hne hcl rfl hcs hsz (fun j=>hX.free _) hvs h1c h1v' 75 75 2 (c*2) (by unfold Box at hv;simp[World.shape?,hv]) (by unfold Box at hX;simp[World.shape?,hX,h5]) (by omega) (hv.free _) (hv.free _)).mono ?_;rintro e w' ⟨rfl,rfl⟩;obtain⟨s1,s2⟩:=MB (vs:=[x.1,x.2]) (p:=i*2) (k:=2) hcl h6 (by omega) (by omega) rfl;have hX1:Box w.drew g 75 cur.toList:=hX;have hX2:=mT ((aE enC ps).drop (i*2)) ((i+1)*2) hX1 (by simp[hcl];omega);have hX3:=mT [x.1,x.2] (i*2) hX2 (by rw[length_splice _ _ _ (by simp[hcl];omega)];simp;omega);rw[show(i+1)*2=i*2+2 by omega]at hX3|-;refine⟨_,_,rfl,x_ hX3 h1 (by rw[s2,hcl2]) hroom h4 (by rw[show(ps.length+1)*2=ps.length*2+2 by omega,s1,hfl];rfl) hil,rN _ _ (rN _ _ (dO (aN w _))),.inl rfl⟩
  refine(L_ g ps.length c i vb vc (aE enC ps) [x.1,x.2] w hin h3 (by omega) hb hX.lt hv.lt hcl rfl hcs hvs h1c h1v').mono ?_;rintro e w' ⟨ROW,hG1,hG2,hR1,hR2,rfl,rfl⟩;generalize grownCap w (ps.length+1) c 75=G at *;have hX0:=Box.newA w 75 ROW;have hl0:ROW.toList.length=G*2:=by simpa using hR1
  have hX1:Box (w.alloc (.cells ROW 75)).drew w.heap.size 75 ROW.toList:=hX0;have hX2:=mT [x.1,x.2] (i*2) hX1 (by rw[hl0];simp;omega);have hX3:Box ((w.alloc (.cells ROW 75)).drew.setCells w.heap.size (i*2) [x.1,x.2]).drew w.heap.size 75 _:=hX2;have hX4:=mT ((aE enC ps).drop (i*2)) ((i+1)*2) hX3 (by rw[length_splice _ _ _ (by rw[hl0];simp;omega),hl0,List.length_drop,hcl];omega);obtain⟨s1,s2⟩:=JZ (vs:=[x.1,x.2]) (L:=ROW.toList) (p:=i*2) (k:=2) hcl hR2 (by rw[hl0];omega) (by omega) rfl;rw[show(i+1)*2=i*2+2 by omega]at hX4|-;refine⟨_,_,rfl,x_ hX4 hbase (by rw[s2,hl0]) hG1 hG2 (by rw[show(ps.length+1)*2=ps.length*2+2 by omega,s1,hfl];rfl) hil,?_,.inr rfl⟩;exact rI _ _ (dO (rI _ _ (dO (eH (aN w _) _)) (Nat.le_refl _))) (Nat.le_refl _)
 obtain rfl:i=ps.length:=by omega
 have hsl:Sl w (Z ⟨vb,0,N⟩) [x.1,x.2]:=fun _=>⟨vb,0,rfl,fun j v hj=>by rw[Nat.zero_add];exact hvs j v hj⟩
 have HFIN:=Lib.hid (fun B k w'(h2:w'.ownsRow base 75 2 (H B (ps.length+1) k) (ps.length+1) (aE enC ps++[x.1,x.2]))(h5:w.grownBy w' (Value.ownBlock (H A ps.length c)))(h6:B=A\/B=Z ⟨w.heap.size,0,N⟩)=>show pX ps ps.length x base A w (.returned (H B (ps.length+1) k)) w' from⟨B,k,rfl,by rw[hfl,List.take_of_length_le (by omega),List.drop_of_length_le (by omega),List.append_nil];exact h2,by rw[cH]at h5;exact h5,by rcases h6 with rfl|rfl;exact .inl rfl;exact .inr rfl⟩);clear hfl hil hvs hv;go_enter func87,ntmps87;go_wp2_with(at_builtin;refine cJ _ _ 29 75 (.agg #[H N 0 0,H N 0 0]) 2 48 rfl rfl underlying29 wF rfl (by decide) (by decide) rfl h rfl hsl (by simp) h1v' (by omega) hbase ?_;intro B1 c1 w1 hown1 hc1 hb1 hg1 ho1)
 all_goals(
  go_ret
  exact HFIN.out _ _ _ hown1 hg1 ho1)
end
section
open Go.RowKit Go.Maps Go.WideMaps
def dU{κ:Type}(P:Program)(k:TypeId)(kl:κ->Lit)(ok:κ->Prop)(w:Wv)(b n:Nat)(f:κ->Option Value)(sz:Nat):Prop:=
 ∃D:DataW Value,w.ownsMap P k lR b n D/\(∀x,ok x->Maps.has D (kl x)=(f x).isSome/\∀z,D.atKey (kl x) (.held z)=.held ((f x).getD z))/\Maps.size D=sz
section
variable {κ:Type}{P:Program}{k:TypeId}{kl:κ->Lit}{ok:κ->Prop}{w w':Wv}{b n sz:Nat}{f:κ->Option Value}
theorem dU.is(h:dU P k kl ok w b n f sz):aR P k kl ok w b n f:=by obtain⟨D,h1,h2,_⟩:=h;exact⟨D,h1,h2⟩
theorem dU.made(P:Program)(k:TypeId)(kl:κ->Lit)(ok:κ->Prop)(w:Wv):dU P k kl ok (w.alloc (.map #[] 0)) w.heap.size 0 (fun _=>N) 0:=
 ⟨.map [],World.ownsMap_made w P k lR,fun _ _=>⟨rfl,fun _=>rfl⟩,rfl⟩
theorem dU.lt(h:dU P k kl ok w b n f sz):b<w.heap.size:=h.is.lt
theorem dU.kept{row:Option Nat}(h:dU P k kl ok w b n f sz)(hg:w.grownBy w' row)(hne:Z b≠row):dU P k kl ok w' b n f sz:=by
 obtain⟨D,h1,h2⟩:=h;exact⟨D,h1.kept hg hne,h2⟩
theorem dU.below(h:dU P k kl ok w b n f sz)(hb:By w w'):dU P k kl ok w' b n f sz:=
 h.kept (row:=N) ⟨hb.os,hb.tape,hb.output,hb.size,fun k hk _=>hb.block k hk⟩ (by simp)
theorem dU.put[DecidableEq κ]{t e:TypeId}(h:dU P k kl ok w b n f sz)(K:Keyed P k)(ht:P.underlying t=Z (.map k e))(hn:n<maxLen){key v:Value}{x:κ}(hx:ok x)(hkey:keyOf P k key=Z (kl x))
  (hinj:∀y,ok y->kl y=kl x->y=x) :
  ∃w',(Instr.mapUpdate t (.map (Z b)) key v).run P w=.ok () w'/\dU P k kl ok w' b (n+1) (fun y=>if y=x then Z v else f y) (if(f x).isSome=true then sz else sz+1)/\w.grownBy w' (Z b):=by
 obtain⟨D,h1,h2,h3⟩:=h;obtain⟨w',hrun,r1,r2⟩:=h1.update K ht hn hkey (val:=v) (d:=.held v) (ps:=[]) rfl;refine⟨w',hrun,⟨_,r1,fun y hy=>?_,?_⟩,r2⟩
 ·dsimp only
  by_cases e:y=x
  ·subst e
   rw[if_pos rfl];exact⟨by rw[has_put_same h1.isMap (K.key hkey)];rfl,fun z=>atKey_put_same h1.isMap (K.key hkey) _ _⟩
  rw[if_neg e];have hne:kl y≠kl x:=fun e'=>e (hinj y hy e')
  rw[has_put_other hne];exact⟨(h2 y hy).1,fun z=>(atKey_put_other hne _ _).trans ((h2 y hy).2 z)⟩
 rw[size_put (h1.tidy K),(h2 x hx).1,h3]
theorem dU.drop[DecidableEq κ]{t e:TypeId}(h:dU P k kl ok w b n f sz)(K:Keyed P k)(ht:P.underlying t=Z (.map k e)){key:Value}{x:κ}(hx:ok x)(hkey:keyOf P k key=Z (kl x))(hinj:∀y,ok y->kl y=kl x->y=x)(ty:TypeId):
  ∃w',(Builtin.delete_ #[t,k] ty #[.map (Z b),key]).run P w=.ok (.tuple #[]) w'/\dU P k kl ok w' b n (fun y=>if y=x then N else f y) (sz-if(f x).isSome=true then 1 else 0)/\w.grownBy w' (Z b):=by
 obtain⟨D,h1,h2,h3⟩:=h;obtain⟨w',hrun,r1,r2⟩:=h1.drop K ht hkey ty;refine⟨w',hrun,⟨_,r1,fun y hy=>?_,?_⟩,r2.grown⟩
 ·dsimp only
  by_cases e:y=x
  ·subst e
   rw[if_pos rfl];exact⟨has_del_same,fun z=>atKey_del_same _⟩
  rw[if_neg e];have hne:kl y≠kl x:=fun e'=>e (hinj y hy e')
  rw[has_del_other hne];exact⟨(h2 y hy).1,fun z=>(atKey_del_other hne _).trans ((h2 y hy).2 z)⟩
 have h4:=size_del (k:=kl x) (h1.tidy K);rw[(h2 x hx).1,h3]at h4;omega
theorem dU.len{t e:TypeId}(h:dU P k kl ok w b n f sz)(ht:P.underlying t=Z (.map k e))(ty:TypeId):(Builtin.len_ #[t] ty #[.map (Z b)]).run P w=.ok (.int .i64 sz) w:=by
 obtain⟨D,h1,_,h3⟩:=h;rw[h1.len ht ty,h3]
end
section
variable {κ:Type}{P:Program}{w:Wv}{ops:Array Oper}{rest:List Oper}{o:Oper}{a:Act}{Q:Exit->Act->Wv->Prop}{md:Region.Mode}{S:Wv->Prop}
variable {k:TypeId}{kl:κ->Lit}{ok:κ->Prop}{b n sz:Nat}{f:κ->Option Value}
end
end
end Go.Proofs.YtkhmjidaeliccaaGreatDoor
