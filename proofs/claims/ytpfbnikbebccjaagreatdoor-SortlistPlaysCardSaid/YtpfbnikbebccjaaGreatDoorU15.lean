import Derived.Test.YtpfbnikbebccjaaGreatDoorU00
import Derived.Test.YtpfbnikbebccjaaGreatDoorU01
import Derived.Test.YtpfbnikbebccjaaGreatDoorU02
import Derived.Test.YtpfbnikbebccjaaGreatDoorU03
import Derived.Test.YtpfbnikbebccjaaGreatDoorU04
import Derived.Test.YtpfbnikbebccjaaGreatDoorU05
import Derived.Test.YtpfbnikbebccjaaGreatDoorU08
import Derived.Test.YtpfbnikbebccjaaGreatDoorU09
import Derived.Test.YtpfbnikbebccjaaGreatDoorU13
import Derived.Test.YtpfbnikbebccjaaGreatDoorU14
set_option maxRecDepth 100000
set_option maxHeartbeats 51200000
namespace Go.Proofs.YtpfbnikbebccjaaGreatDoor
open Option renaming none->N,some->Z
open Value renaming int->I,slice->H
open IntKind renaming i64->J
open Go.Proofs.Tryz
section
open Go.RowKit Go.Maps Go.WideMaps
def lB(t:TypeId)(k n:Nat)(cs:Lv)(w:Wv)(e:Ending)(w':Wv):Prop:=∃A c,e=.returned (H A n c)/\w'.ownsRow w.heap.size t k (H A n c) n cs/\By w w'
theorem OW:(prog.info? 123).map (fun i=>(i.zero,i.size,i.bytes))=Z (Z (.agg #[I J 0,I J 0,I J 0]),3,24):=by kernel_rfl
theorem JH(A:Oa)(n k:Nat)(cs:Lv)(w:Wv)(hA:Sl w A cs)(hl:cs.length=n*3)(h1:∀u∈cs,u.oneCell'=true)(hb:n<=1048576):
  Calls prog 67 #[H A n k] w (lB 123 3 n cs w):=by
 cases A with
 |none=>
  have hz:cs=[]:=by
   cases cs with
   |nil=>rfl
   |cons z r=>obtain⟨b,o,h,_⟩:=hA (by simp);cases h
  subst hz;have hn:n=0:=by simp at hl;omega
  subst hn;have hnil:=fun(W:Wv) n c=>Lib.run_eql_slice_nil (P:=prog) W 22 123 N n c 0 0 underlying22
  go_enter func67,ntmps67;go_wp2;go_ret;exact⟨N,0,rfl,World.ownsRow_nil _ _ _ _,Below.refl _ _⟩
 |some a=>
  have hnil:=fun(W:Wv) n c=>Lib.run_eql_slice_nil (P:=prog) W 22 123 (Z a) n c 0 0 underlying22
  go_enter func67,ntmps67;go_wp2_with(at_builtin;refine aJ _ _ 22 123 (.agg #[I J 0,I J 0,I J 0]) 3 24 rfl rfl underlying22 OW rfl (by decide) (by decide) rfl (iS [] 123 3 0 w.heap.size rfl rfl (Nat.le_refl _) (by omega)) rfl (Sl.alloc hA _) hl h1 (by omega) (by simp) ?_;intro A1 c1 w1 hown1 hc1 hb1 _ _;simp only[Nat.zero_add,List.nil_append]at hown1 hc1);go_ret;exact⟨A1,c1,rfl,hown1,(ba _ _).trans hb1⟩
theorem OV:(prog.info? 126).map (fun i=>(i.zero,i.size,i.bytes))=Z (Z (.agg #[I J 0,I J 0]),2,16):=by kernel_rfl
theorem JG(A:Oa)(n k:Nat)(cs:Lv)(w:Wv)(hA:Sl w A cs)(hl:cs.length=n*2)(h1:∀u∈cs,u.oneCell'=true)(hb:n<=1048576):
  Calls prog 68 #[H A n k] w (lB 126 2 n cs w):=by
 cases A with
 |none=>
  have hz:cs=[]:=by
   cases cs with
   |nil=>rfl
   |cons z r=>obtain⟨b,o,h,_⟩:=hA (by simp);cases h
  subst hz;have hn:n=0:=by simp at hl;omega
  subst hn;have hnil:=fun(W:Wv) n c=>Lib.run_eql_slice_nil (P:=prog) W 24 126 N n c 0 0 underlying24
  go_enter func68,ntmps68;go_wp2;go_ret;exact⟨N,0,rfl,World.ownsRow_nil _ _ _ _,Below.refl _ _⟩
 |some a=>
  have hnil:=fun(W:Wv) n c=>Lib.run_eql_slice_nil (P:=prog) W 24 126 (Z a) n c 0 0 underlying24
  go_enter func68,ntmps68;go_wp2_with(at_builtin;refine aJ _ _ 24 126 (.agg #[I J 0,I J 0]) 2 16 rfl rfl underlying24 OV rfl (by decide) (by decide) rfl (iS [] 126 2 0 w.heap.size rfl rfl (Nat.le_refl _) (by omega)) rfl (Sl.alloc hA _) hl h1 (by omega) (by simp) ?_;intro A1 c1 w1 hown1 hc1 hb1 _ _;simp only[Nat.zero_add,List.nil_append]at hown1 hc1);go_ret;exact⟨A1,c1,rfl,hown1,(ba _ _).trans hb1⟩
theorem OU:(prog.info? 116).map (fun i=>(i.zero,i.size,i.bytes))=Z (Z (.agg #[I J 0,H N 0 0,.string .empty]),3,48):=by kernel_rfl
theorem JF(A:Oa)(n k:Nat)(cs:Lv)(w:Wv)(hA:Sl w A cs)(hl:cs.length=n*3)(h1:∀u∈cs,u.oneCell'=true)(hb:n<=1048576):
  Calls prog 69 #[H A n k] w (lB 116 3 n cs w):=by
 cases A with
 |none=>
  have hz:cs=[]:=by
   cases cs with
   |nil=>rfl
   |cons z r=>obtain⟨b,o,h,_⟩:=hA (by simp);cases h
  subst hz;have hn:n=0:=by simp at hl;omega
  subst hn;have hnil:=fun(W:Wv) n c=>Lib.run_eql_slice_nil (P:=prog) W 23 116 N n c 0 0 underlying23
  go_enter func69,ntmps69;go_wp2;go_ret;exact⟨N,0,rfl,World.ownsRow_nil _ _ _ _,Below.refl _ _⟩
 |some a=>
  have hnil:=fun(W:Wv) n c=>Lib.run_eql_slice_nil (P:=prog) W 23 116 (Z a) n c 0 0 underlying23
  go_enter func69,ntmps69;go_wp2_with(at_builtin;refine aJ _ _ 23 116 (.agg #[I J 0,H N 0 0,.string .empty]) 3 48 rfl rfl underlying23 OU rfl (by decide) (by decide) rfl (iS [] 116 3 0 w.heap.size rfl rfl (Nat.le_refl _) (by omega)) rfl (Sl.alloc hA _) hl h1 (by omega) (by simp) ?_;intro A1 c1 w1 hown1 hc1 hb1 _ _;simp only[Nat.zero_add,List.nil_append]at hown1 hc1);go_ret;exact⟨A1,c1,rfl,hown1,(ba _ _).trans hb1⟩
theorem OT:(prog.info? 130).map (fun i=>(i.zero,i.size,i.bytes))=Z (Z (.agg #[.string .empty,I J 0,I J 0]),3,32):=by kernel_rfl
theorem JE(A:Oa)(n k:Nat)(cs:Lv)(w:Wv)(hA:Sl w A cs)(hl:cs.length=n*3)(h1:∀u∈cs,u.oneCell'=true)(hb:n<=1048576):
  Calls prog 70 #[H A n k] w (lB 130 3 n cs w):=by
 cases A with
 |none=>
  have hz:cs=[]:=by
   cases cs with
   |nil=>rfl
   |cons z r=>obtain⟨b,o,h,_⟩:=hA (by simp);cases h
  subst hz;have hn:n=0:=by simp at hl;omega
  subst hn;have hnil:=fun(W:Wv) n c=>Lib.run_eql_slice_nil (P:=prog) W 30 130 N n c 0 0 underlying30
  go_enter func70,ntmps70;go_wp2;go_ret;exact⟨N,0,rfl,World.ownsRow_nil _ _ _ _,Below.refl _ _⟩
 |some a=>
  have hnil:=fun(W:Wv) n c=>Lib.run_eql_slice_nil (P:=prog) W 30 130 (Z a) n c 0 0 underlying30
  go_enter func70,ntmps70;go_wp2_with(at_builtin;refine aJ _ _ 30 130 (.agg #[.string .empty,I J 0,I J 0]) 3 32 rfl rfl underlying30 OT rfl (by decide) (by decide) rfl (iS [] 130 3 0 w.heap.size rfl rfl (Nat.le_refl _) (by omega)) rfl (Sl.alloc hA _) hl h1 (by omega) (by simp) ?_;intro A1 c1 w1 hown1 hc1 hb1 _ _;simp only[Nat.zero_add,List.nil_append]at hown1 hc1);go_ret;exact⟨A1,c1,rfl,hown1,(ba _ _).trans hb1⟩
theorem OR:(prog.info? 109).map (fun i=>(i.zero,i.size,i.bytes))=Z (Z (.agg #[H N 0 0,H N 0 0]),2,48):=by kernel_rfl
theorem JD(A:Oa)(n k:Nat)(cs:Lv)(w:Wv)(hA:Sl w A cs)(hl:cs.length=n*2)(h1:∀u∈cs,u.oneCell'=true)(hb:n<=1048576):
  Calls prog 71 #[H A n k] w (lB 109 2 n cs w):=by
 cases A with
 |none=>
  have hz:cs=[]:=by
   cases cs with
   |nil=>rfl
   |cons z r=>obtain⟨b,o,h,_⟩:=hA (by simp);cases h
  subst hz;have hn:n=0:=by simp at hl;omega
  subst hn;have hnil:=fun(W:Wv) n c=>Lib.run_eql_slice_nil (P:=prog) W 29 109 N n c 0 0 underlying29
  go_enter func71,ntmps71;go_wp2;go_ret;exact⟨N,0,rfl,World.ownsRow_nil _ _ _ _,Below.refl _ _⟩
 |some a=>
  have hnil:=fun(W:Wv) n c=>Lib.run_eql_slice_nil (P:=prog) W 29 109 (Z a) n c 0 0 underlying29
  go_enter func71,ntmps71;go_wp2_with(at_builtin;refine aJ _ _ 29 109 (.agg #[H N 0 0,H N 0 0]) 2 48 rfl rfl underlying29 OR rfl (by decide) (by decide) rfl (iS [] 109 2 0 w.heap.size rfl rfl (Nat.le_refl _) (by omega)) rfl (Sl.alloc hA _) hl h1 (by omega) (by simp) ?_;intro A1 c1 w1 hown1 hc1 hb1 _ _;simp only[Nat.zero_add,List.nil_append]at hown1 hc1);go_ret;exact⟨A1,c1,rfl,hown1,(ba _ _).trans hb1⟩
end
section
open Go.RowKit
theorem oY{α:Type}(enc:α->Lv)(k:Nat)(hk:∀x,(enc x).length=k):∀(xs:List α)(i j:Nat)(v:Value)(y:α)(hi:i<xs.length),j<k->enc y=(enc xs[i]).set j v->(aF enc xs).set (i*k+j) v=aF enc (xs.set i y)
 | [],i,_,_,_,hi,_,_=>absurd hi (Nat.not_lt_zero _)
 |x::xs,0,j,v,y,_,hj,he=>by
  have e1:aF enc (x::xs)=enc x++aF enc xs:=by simp[aF]
  have e2:aF enc ((x::xs).set 0 y)=enc y++aF enc xs:=by simp[aF]
  rw[e1,e2,he,Nat.zero_mul,Nat.zero_add,List.set_append_left _ _ (by rw[hk];exact hj)];rfl
 |x::xs,i+1,j,v,y,hi,hj,he=>by
  have e1:aF enc (x::xs)=enc x++aF enc xs:=by simp[aF]
  have e2:aF enc ((x::xs).set (i+1) y)=enc x++aF enc (xs.set i y):=by simp[aF]
  have hi':i<xs.length:=by simpa using hi
  rw[e1,e2,List.set_append_right _ _ (by rw[hk,Nat.add_mul];omega),hk,show(i+1)*k+j-k=i*k+j by rw[Nat.add_mul,Nat.one_mul];omega];rw[oY enc k hk xs i j v y hi' hj (by simpa using he)]
theorem EM{α β:Type}:∀(ms:List α)(vs:List β)(i:Nat)(v:β)(hi:i<ms.length),(ms.zip vs).set i (ms[i],v)=ms.zip (vs.set i v)
 | [],_,i,_,hi=>absurd hi (Nat.not_lt_zero _)
 |_::_,[],_,_,_=>by simp
 |m::ms,u::vs,0,v,_=>by simp
 |m::ms,u::vs,i+1,v,hi=>by simp[EM ms vs i v (by simpa using hi)]
def iX(B:Oa)(z:Nat)(w:Wv)(C:Oa)(zs:Li):Prop:=aA w C zs/\(zs≠[]->∀q,blk C=Z q->blk B≠Z q/\q≠z)
theorem Sl.stored{w:Wv}{C:Oa}{cs:Lv}(h:Sl w C cs)(p:Addr)(hp:cs≠[]->∀q,blk C=Z q->p.block≠q)(v:Value):Sl (w.setCell p v) C cs:=fun hne=>by
 obtain⟨b,o,rfl,hc⟩:=h hne;refine⟨b,o,rfl,fun j u hu=>?_⟩;have hn:=hp hne b rfl;rw[World.cell?_of_block (Below.heap_setCell w p v b (fun e=>hn e.symm))];exact hc j u hu
theorem iX.below{w w':Wv}{z:Nat}{B C:Oa}{zs:Li}(h:iX B z w C zs)(hb:By w w'):iX B z w' C zs:=⟨h.1.below hb,h.2⟩
theorem iX.stored{w:Wv}{z:Nat}{B C:Oa}{zs:Li}(h:iX B z w C zs)(p:Addr)(hp:blk B=Z p.block\/p.block=z)(v:Value):iX B z (w.setCell p v) C zs:=
 ⟨Sl.stored h.1 p (fun hne q hq e=>by
  have h2:=h.2 (by rintro rfl;exact hne rfl) q hq
  rcases hp with g|g
  ·exact h2.1 (by rw[g,e])
  ·exact h2.2 (by rw[<-e,g])) v,h.2⟩
theorem j_{w:Wv}{C:Oa}{cs:Lv}(h:Sl w C cs)(hne:cs≠[]){q:Nat}(hq:blk C=Z q):q<w.heap.size:=by
 obtain⟨b,o,rfl,hc⟩:=h hne;have hl:0<cs.length:=List.length_pos_iff.2 hne;have h1:=hc 0 cs[0] (List.getElem?_eq_getElem hl);have:=World.block_lt_of_cell? w _ h1;have e:b=q:=by injection hq
 dsimp only at this;omega
theorem nB{zs:Li}(h:zs≠[]):zs.map (Value.int .i64)≠[]:=by simpa using h
theorem dD{w:Wv}{base:Nat}{e:TypeId}{size n c:Nat}{A:Oa}{xs:Lv}(h:w.ownsRow base e size (H A n c) n xs){q:Nat}(hq:blk A=Z q):base<=q/\q<w.heap.size:=h.lt q (by rw[dZ];exact hq)
theorem tR{w:Wv}{base:Nat}{e:TypeId}{size n c:Nat}{A:Oa}{xs:Lv}(h:w.ownsRow base e size (H A n c) n xs)(hn:0<n):∃g,A=Z ⟨g,0,N⟩/\base<=g/\g<w.heap.size:=by
 rcases h.2 with⟨_,h0⟩|⟨g,cap,cur,hv,h1,h2,_⟩
 ·omega
 injection hv with hA _ _;exact⟨g,hA,h1,(dD h (by rw[hA];rfl)).2⟩
theorem zX{w:Wv}{base z size n c:Nat}{e:TypeId}{B:Oa}{cs:Lv}(h:w.ownsRow base e size (H B n c) n cs)(hz:z<base)(p:Addr)(hp:p.block=z)(v:Value):(w.setCell p v).ownsRow base e size (H B n c) n cs:=
 ownsRow_setCell_below h (by omega) v
structure fB(w:Wv)(base z:Nat)(B:Oa)(cap:Nat)(ms:List Mp):Prop where
 ex:∃vs:Lv,vs.length=ms.length/\w.ownsRow base 116 3 (H B ms.length cap) ms.length (aF mpC (ms.zip vs))/\∀i,(hi:i<ms.length)->(hv:i<vs.length)->∃C c,vs[i]=H C ms[i].to.length c/\ms[i].to.length<=c/\iX B z w C ms[i].to
theorem SU{w:Wv}{A:Oa}{ms:List Mp}(h:Mps w A ms):∃cs,Sl w A cs/\cs.length=ms.length*3/\(∀u∈cs,u.oneCell'=true)/\
  ∀base z B cap w',By w w'->w.heap.size<=base->w.heap.size<=z->w'.ownsRow base 116 3 (H B ms.length cap) ms.length cs->fB w' base z B cap ms:=by
 obtain⟨vs,h1,h2,h3⟩:=h;have hzl:(ms.zip vs).length=ms.length:=by rw[List.length_zip];omega
 refine⟨aF mpC (ms.zip vs),h2,by rw[gJ mpC 3 (fun _=>rfl),hzl],?_,fun base z B cap w' hb hbs hzs ho=>⟨vs,h1,ho,fun i hi hv=>?_⟩⟩
 ·intro u hu
  obtain⟨p,hp,hg⟩:=List.mem_flatMap.1 hu;obtain⟨j,hj,rfl⟩:=List.getElem_of_mem hp;simp only[mpC,List.mem_cons,List.not_mem_nil,or_false]at hg;have hj':j<ms.length:=by omega
  rcases hg with rfl|rfl|rfl
  ·rfl
  ·obtain⟨C,c,e,_⟩:=h3 j hj' (by omega)
   rw[show(ms.zip vs)[j].2=vs[j]'(by omega)from by rw[List.getElem_zip],e];rfl
  rfl
 obtain⟨C,c,e1,e2,e3⟩:=h3 i hi hv;refine⟨C,c,e1,e2,e3.below hb,fun hne q hq=>?_⟩;have h1:=j_ e3 (nB hne) hq;refine⟨fun e=>?_,by omega⟩;have:=(dD ho e).1;omega
section
variable {w w':Wv}{base z:Nat}{B:Oa}{cap:Nat}{ms:List Mp}
theorem fB.below(h:fB w base z B cap ms)(hb:By w w'):fB w' base z B cap ms:=by
 obtain⟨vs,h1,h2,h3⟩:=h.ex;refine⟨vs,h1,aK h2 hb,fun i hi hv=>?_⟩;obtain⟨C,c,e1,e2,e3⟩:=h3 i hi hv;exact⟨C,c,e1,e2,e3.below hb⟩
theorem fB.is(h:fB w base z B cap ms):Mps w B ms:=by
 obtain⟨vs,h1,h2,h3⟩:=h.ex;refine⟨vs,h1,Sl.of_own h2,fun i hi hv=>?_⟩;obtain⟨C,c,e1,e2,e3⟩:=h3 i hi hv;exact⟨C,c,e1,e2,e3.1⟩
theorem fB.at(h:fB w base z B cap ms){i:Nat}(hi:i<ms.length):∃g C c,B=Z ⟨g,0,N⟩/\base<=g/\g<w.heap.size/\w.cell? ⟨g,i*3,N⟩=Z (I J ms[i].frm)/\w.cell? ⟨g,i*3+1,N⟩=Z (H C ms[i].to.length c)/\w.cell? ⟨g,i*3+2,N⟩=Z (.string ms[i].tag)/\w.frozen? ⟨g,i*3+1,N⟩=false/\aA w C ms[i].to:=by
 obtain⟨vs,h1,h2,h3⟩:=h.ex;obtain⟨g,rfl,hg1,hg2⟩:=tR h2 (by omega);obtain⟨C,c,e1,e2,e3⟩:=h3 i hi (by omega);have hzl:(ms.zip vs).length=ms.length:=by rw[List.length_zip];omega
 have hzi:i<(ms.zip vs).length:=by omega
 have ezi:(ms.zip vs)[i]=(ms[i],vs[i]'(by omega)):=List.getElem_zip;have gt:=fun j(hj:j<3)=>(h2.cellAt (i*3+j) (by omega)).trans (kK mpC 3 (fun _=>rfl) (ms.zip vs) i j hzi hj)
 refine⟨g,C,c,rfl,hg1,hg2,(gt 0 (by omega)).trans (by rw[ezi];rfl),(gt 1 (by omega)).trans (by rw[ezi,e1];rfl),(gt 2 (by omega)).trans (by rw[ezi];rfl),h2.frozenAt _,e3.1⟩
theorem fB.put{g:Nat}(h:fB w base z (Z ⟨g,0,N⟩) cap ms){i:Nat}(hi:i<ms.length){C:Oa}{c:Nat}(hc:ms[i].to.length<=c)(hC:aA w C ms[i].to)(hap:ms[i].to≠[]->∀q,blk C=Z q->g≠q/\q≠z):
  fB (w.setCell ⟨g,i*3+1,N⟩ (H C ms[i].to.length c)) base z (Z ⟨g,0,N⟩) cap ms:=by
 obtain⟨vs,h1,h2,h3⟩:=h.ex;have hzi:i<(ms.zip vs).length:=by rw[List.length_zip];omega
 have ezi:(ms.zip vs)[i]=(ms[i],vs[i]'(by omega)):=List.getElem_zip;refine⟨vs.set i (H C ms[i].to.length c),by simpa using h1,?_,fun j hj hv=>?_⟩
 ·have:=(h2.stored (i*3+1) (H C ms[i].to.length c)).1
  rw[oY mpC 3 (fun _=>rfl) (ms.zip vs) i 1 _ (ms[i],H C ms[i].to.length c) hzi (by omega) (by rw[ezi];rfl),EM ms vs i _ hi]at this;exact this
 have hIC:iX (Z ⟨g,0,N⟩) z w C ms[i].to:=⟨hC,fun hne q hq=>⟨fun e=>(hap hne q hq).1 (Option.some.inj (show Z g=Z q from e)),(hap hne q hq).2⟩⟩;by_cases e:i=j
 ·subst e
  exact⟨C,c,by rw[List.getElem_set_self],hc,hIC.stored ⟨g,i*3+1,N⟩ (.inl rfl) _⟩
 obtain⟨C',c',e1,e2,e3⟩:=h3 j hj (by omega);exact⟨C',c',by rw[List.getElem_set_ne e,e1],e2,e3.stored ⟨g,i*3+1,N⟩ (.inl rfl) _⟩
theorem fB.off(h:fB w base z B cap ms)(hz:z<base)(p:Addr)(hp:p.block=z)(v:Value):fB (w.setCell p v) base z B cap ms:=by
 obtain⟨vs,h1,h2,h3⟩:=h.ex;refine⟨vs,h1,zX h2 hz p hp v,fun i hi hv=>?_⟩;obtain⟨C,c,e1,e2,e3⟩:=h3 i hi hv;exact⟨C,c,e1,e2,e3.stored p (.inr hp) v⟩
end
def kB(B:Oa)(z:Nat)(w:Wv)(C:Oa)(es:List Elt):Prop:=cJ w C es/\(es≠[]->∀q,blk C=Z q->blk B≠Z q/\q≠z)
theorem wW{es:List Elt}(h:es≠[]):aF Elt.cells es≠[]:=by
 intro e;have:=congrArg List.length e;rw[gJ Elt.cells 4 (fun _=>rfl)]at this;have:=List.length_pos_iff.2 h;simp at *;omega
theorem kB.below{w w':Wv}{z:Nat}{B C:Oa}{es:List Elt}(h:kB B z w C es)(hb:By w w'):kB B z w' C es:=⟨h.1.below hb,h.2⟩
theorem kB.stored{w:Wv}{z:Nat}{B C:Oa}{es:List Elt}(h:kB B z w C es)(p:Addr)(hp:blk B=Z p.block\/p.block=z)(v:Value):kB B z (w.setCell p v) C es:=
 ⟨Sl.stored h.1 p (fun hne q hq e=>by
  have h2:=h.2 (by rintro rfl;exact hne rfl) q hq
  rcases hp with g|g
  ·exact h2.1 (by rw[g,e])
  ·exact h2.2 (by rw[<-e,g])) v,h.2⟩
def enC(v:Value×Value):Lv:=[v.1,v.2]
structure fA(w:Wv)(base z:Nat)(B:Oa)(cap:Nat)(xs:List Ent):Prop where
 ex:∃vs:List (Value×Value),vs.length=xs.length/\w.ownsRow base 109 2 (H B xs.length cap) xs.length (aF enC vs)/\∀i,(hi:i<xs.length)->(hv:i<vs.length)->∃C c E d,vs[i]=(H C xs[i].codes.length c,H E xs[i].elems.length d)/\iX B z w C xs[i].codes/\kB B z w E xs[i].elems
theorem LY{w:Wv}{A:Oa}{xs:List Ent}(h:g_ w A xs):∃cs,Sl w A cs/\cs.length=xs.length*2/\(∀u∈cs,u.oneCell'=true)/\
  ∀base z B cap w',By w w'->w.heap.size<=base->w.heap.size<=z->w'.ownsRow base 109 2 (H B xs.length cap) xs.length cs->fA w' base z B cap xs:=by
 obtain⟨vs,h1,h2,h3⟩:=h;refine⟨aF enC vs,h2,by rw[gJ enC 2 (fun _=>rfl),h1],?_,fun base z B cap w' hb hbs hzs ho=>⟨vs,h1,ho,fun i hi hv=>?_⟩⟩
 ·intro u hu
  obtain⟨p,hp,hg⟩:=List.mem_flatMap.1 hu;obtain⟨j,hj,rfl⟩:=List.getElem_of_mem hp;obtain⟨C,c,E,d,e,_⟩:=(h3 j (by omega) hj).ex;simp only[enC,List.mem_cons,List.not_mem_nil,or_false]at hg;rcases hg with rfl|rfl
  ·rw[e];rfl
  rw[e];rfl
 obtain⟨C,c,E,d,e1,e2,e3⟩:=(h3 i hi hv).ex;refine⟨C,c,E,d,e1,⟨e2.below hb,fun hne q hq=>⟨fun e=>?_,?_⟩⟩,⟨e3.below hb,fun hne q hq=>⟨fun e=>?_,?_⟩⟩⟩
 ·have:=j_ e2 (nB hne) hq
  have:=(dD ho e).1;omega
 ·have:=j_ e2 (nB hne) hq
  omega
 ·have:=j_ e3 (wW hne) hq
  have:=(dD ho e).1;omega
 have:=j_ e3 (wW hne) hq;omega
section
variable {w w':Wv}{base z:Nat}{B:Oa}{cap:Nat}{xs:List Ent}
theorem fA.below(h:fA w base z B cap xs)(hb:By w w'):fA w' base z B cap xs:=by
 obtain⟨vs,h1,h2,h3⟩:=h.ex;refine⟨vs,h1,aK h2 hb,fun i hi hv=>?_⟩;obtain⟨C,c,E,d,e1,e2,e3⟩:=h3 i hi hv;exact⟨C,c,E,d,e1,e2.below hb,e3.below hb⟩
theorem fA.is(h:fA w base z B cap xs):g_ w B xs:=by
 obtain⟨vs,h1,h2,h3⟩:=h.ex;refine⟨vs,h1,Sl.of_own h2,fun i hi hv=>?_⟩;obtain⟨C,c,E,d,e1,e2,e3⟩:=h3 i hi hv;exact⟨C,c,E,d,e1,e2.1,e3.1⟩
theorem fA.at(h:fA w base z B cap xs){i:Nat}(hi:i<xs.length):∃g C c E d,B=Z ⟨g,0,N⟩/\base<=g/\g<w.heap.size/\w.cell? ⟨g,i*2,N⟩=Z (H C xs[i].codes.length c)/\w.cell? ⟨g,i*2+1,N⟩=Z (H E xs[i].elems.length d)/\w.frozen? ⟨g,i*2,N⟩=false/\w.frozen? ⟨g,i*2+1,N⟩=false/\aA w C xs[i].codes/\cJ w E xs[i].elems:=by
 obtain⟨vs,h1,h2,h3⟩:=h.ex;obtain⟨g,rfl,hg1,hg2⟩:=tR h2 (by omega);obtain⟨C,c,E,d,e1,e2,e3⟩:=h3 i hi (by omega);have hzi:i<vs.length:=by omega
 have gt:=fun j(hj:j<2)=>(h2.cellAt (i*2+j) (by omega)).trans (kK enC 2 (fun _=>rfl) vs i j hzi hj)
 exact⟨g,C,c,E,d,rfl,hg1,hg2,(gt 0 (by omega)).trans (by rw[e1];rfl),(gt 1 (by omega)).trans (by rw[e1];rfl),h2.frozenAt _,h2.frozenAt _,e2.1,e3.1⟩
theorem fA.put{g:Nat}(h:fA w base z (Z ⟨g,0,N⟩) cap xs){i:Nat}(hi:i<xs.length){C:Oa}{c:Nat}{E:Oa}{d:Nat}(hC:aA w C xs[i].codes)(hap:xs[i].codes≠[]->∀q,blk C=Z q->g≠q/\q≠z)(hE:cJ w E xs[i].elems)(hape:xs[i].elems≠[]->∀q,blk E=Z q->g≠q/\q≠z):
  fA ((w.setCell ⟨g,i*2,N⟩ (H C xs[i].codes.length c)).setCell ⟨g,i*2+1,N⟩ (H E xs[i].elems.length d)) base z (Z ⟨g,0,N⟩) cap xs:=by
 obtain⟨vs,h1,h2,h3⟩:=h.ex;have hzi:i<vs.length:=by omega
 refine⟨(vs.set i (H C xs[i].codes.length c,vs[i].2)).set i (H C xs[i].codes.length c,H E xs[i].elems.length d),by simpa using h1,?_,fun j hj hv=>?_⟩
 ·have t1:=(h2.stored (i*2+0) (H C xs[i].codes.length c)).1
  rw[oY enC 2 (fun _=>rfl) vs i 0 _ (H C xs[i].codes.length c,vs[i].2) hzi (by omega) rfl]at t1;have t2:=(t1.stored (i*2+1) (H E xs[i].elems.length d)).1;rw[oY enC 2 (fun _=>rfl) (vs.set i (H C xs[i].codes.length c,vs[i].2)) i 1 _ (H C xs[i].codes.length c,H E xs[i].elems.length d) (by simpa using hzi) (by omega) (by rw[List.getElem_set_self];rfl)]at t2;exact t2
 have hIC:iX (Z ⟨g,0,N⟩) z w C xs[i].codes:=⟨hC,fun hne q hq=>⟨fun e=>(hap hne q hq).1 (Option.some.inj (show Z g=Z q from e)),(hap hne q hq).2⟩⟩;have hIE:kB (Z ⟨g,0,N⟩) z w E xs[i].elems:=⟨hE,fun hne q hq=>⟨fun e=>(hape hne q hq).1 (Option.some.inj (show Z g=Z q from e)),(hape hne q hq).2⟩⟩;by_cases e:i=j
 ·subst e
  exact⟨C,c,E,d,by rw[List.getElem_set_self],(hIC.stored ⟨g,i*2,N⟩ (.inl rfl) _).stored ⟨g,i*2+1,N⟩ (.inl rfl) _,(hIE.stored ⟨g,i*2,N⟩ (.inl rfl) _).stored ⟨g,i*2+1,N⟩ (.inl rfl) _⟩
 obtain⟨C',c',E',d',e1,e2,e3⟩:=h3 j hj (by omega);exact⟨C',c',E',d',by rw[List.getElem_set_ne e,List.getElem_set_ne e,e1],(e2.stored ⟨g,i*2,N⟩ (.inl rfl) _).stored ⟨g,i*2+1,N⟩ (.inl rfl) _,(e3.stored ⟨g,i*2,N⟩ (.inl rfl) _).stored ⟨g,i*2+1,N⟩ (.inl rfl) _⟩
theorem fA.off(h:fA w base z B cap xs)(hz:z<base)(p:Addr)(hp:p.block=z)(v:Value):fA (w.setCell p v) base z B cap xs:=by
 obtain⟨vs,h1,h2,h3⟩:=h.ex;refine⟨vs,h1,zX h2 hz p hp v,fun i hi hv=>?_⟩;obtain⟨C,c,E,d,e1,e2,e3⟩:=h3 i hi hv;exact⟨C,c,E,d,e1,e2.stored p (.inr hp) v,e3.stored p (.inr hp) v⟩
end
end
section
open Go.RowKit Go.Maps Go.WideMaps
def b_{κ:Type}(P:Program)(k:TypeId)(kl:κ->Lit)(ok:κ->Prop)(w:Wv)(b n:Nat)(f:κ->Option Value)(sz:Nat):Prop:=
 ∃D:DataW Value,w.ownsMap P k l_ b n D/\(∀x,ok x->Maps.has D (kl x)=(f x).isSome/\∀z,D.atKey (kl x) (.held z)=.held ((f x).getD z))/\Maps.size D=sz
section
variable {κ:Type}{P:Program}{k:TypeId}{kl:κ->Lit}{ok:κ->Prop}{w w':Wv}{b n sz:Nat}{f:κ->Option Value}
theorem b_.is(h:b_ P k kl ok w b n f sz):aT P k kl ok w b n f:=by obtain⟨D,h1,h2,_⟩:=h;exact⟨D,h1,h2⟩
theorem b_.made(P:Program)(k:TypeId)(kl:κ->Lit)(ok:κ->Prop)(w:Wv):b_ P k kl ok (w.alloc (.map #[] 0)) w.heap.size 0 (fun _=>N) 0:=
 ⟨.map [],World.ownsMap_made w P k l_,fun _ _=>⟨rfl,fun _=>rfl⟩,rfl⟩
theorem b_.lt(h:b_ P k kl ok w b n f sz):b<w.heap.size:=h.is.lt
theorem b_.kept{row:Option Nat}(h:b_ P k kl ok w b n f sz)(hg:w.grownBy w' row)(hne:Z b≠row):b_ P k kl ok w' b n f sz:=by
 obtain⟨D,h1,h2⟩:=h;exact⟨D,h1.kept hg hne,h2⟩
theorem b_.below(h:b_ P k kl ok w b n f sz)(hb:By w w'):b_ P k kl ok w' b n f sz:=
 h.kept (row:=N) ⟨hb.os,hb.tape,hb.output,hb.size,fun k hk _=>hb.block k hk⟩ (by simp)
theorem b_.put[DecidableEq κ]{t e:TypeId}(h:b_ P k kl ok w b n f sz)(K:Keyed P k)(ht:P.underlying t=Z (.map k e))(hn:n<maxLen){key v:Value}{x:κ}(hx:ok x)(hkey:keyOf P k key=Z (kl x))
  (hinj:∀y,ok y->kl y=kl x->y=x) :
  ∃w',(Instr.mapUpdate t (.map (Z b)) key v).run P w=.ok () w'/\b_ P k kl ok w' b (n+1) (fun y=>if y=x then Z v else f y) (if(f x).isSome=true then sz else sz+1)/\w.grownBy w' (Z b):=by
 obtain⟨D,h1,h2,h3⟩:=h;obtain⟨w',hrun,r1,r2⟩:=h1.update K ht hn hkey (val:=v) (d:=.held v) (ps:=[]) rfl;refine⟨w',hrun,⟨_,r1,fun y hy=>?_,?_⟩,r2⟩
 ·dsimp only
  by_cases e:y=x
  ·subst e
   rw[if_pos rfl];exact⟨by rw[has_put_same h1.isMap (K.key hkey)];rfl,fun z=>atKey_put_same h1.isMap (K.key hkey) _ _⟩
  rw[if_neg e];have hne:kl y≠kl x:=fun e'=>e (hinj y hy e')
  rw[has_put_other hne];exact⟨(h2 y hy).1,fun z=>(atKey_put_other hne _ _).trans ((h2 y hy).2 z)⟩
 rw[size_put (h1.tidy K),(h2 x hx).1,h3]
theorem b_.drop[DecidableEq κ]{t e:TypeId}(h:b_ P k kl ok w b n f sz)(K:Keyed P k)(ht:P.underlying t=Z (.map k e)){key:Value}{x:κ}(hx:ok x)(hkey:keyOf P k key=Z (kl x))(hinj:∀y,ok y->kl y=kl x->y=x)(ty:TypeId):
  ∃w',(Builtin.delete_ #[t,k] ty #[.map (Z b),key]).run P w=.ok (.tuple #[]) w'/\b_ P k kl ok w' b n (fun y=>if y=x then N else f y) (sz-if(f x).isSome=true then 1 else 0)/\w.grownBy w' (Z b):=by
 obtain⟨D,h1,h2,h3⟩:=h;obtain⟨w',hrun,r1,r2⟩:=h1.drop K ht hkey ty;refine⟨w',hrun,⟨_,r1,fun y hy=>?_,?_⟩,r2.grown⟩
 ·dsimp only
  by_cases e:y=x
  ·subst e
   rw[if_pos rfl];exact⟨has_del_same,fun z=>atKey_del_same _⟩
  rw[if_neg e];have hne:kl y≠kl x:=fun e'=>e (hinj y hy e')
  rw[has_del_other hne];exact⟨(h2 y hy).1,fun z=>(atKey_del_other hne _).trans ((h2 y hy).2 z)⟩
 have h4:=size_del (k:=kl x) (h1.tidy K);rw[(h2 x hx).1,h3]at h4;omega
theorem b_.len{t e:TypeId}(h:b_ P k kl ok w b n f sz)(ht:P.underlying t=Z (.map k e))(ty:TypeId):(Builtin.len_ #[t] ty #[.map (Z b)]).run P w=.ok (.int .i64 sz) w:=by
 obtain⟨D,h1,_,h3⟩:=h;rw[h1.len ht ty,h3]
end
section
variable {κ:Type}{P:Program}{w:Wv}{ops:Array Oper}{rest:List Oper}{o:Oper}{a:Act}{Q:Exit->Act->Wv->Prop}{md:Region.Mode}{S:Wv->Prop}
variable {k:TypeId}{kl:κ->Lit}{ok:κ->Prop}{b n sz:Nat}{f:κ->Option Value}
theorem zAY[DecidableEq κ](hg:o.guard=N)(m x:Operand)(t:TypeId)(hop:o.op=Op.call { callee:=Callee.builtin Builtin.delete,args:=#[m,x],argTypes:=#[t,k] }){e:TypeId}(h:b_ P k kl ok w b n f sz)(K:Keyed P k)(ht:P.underlying t=Z (.map k e))
  (hm:a.eval m=.map (Z b)) {key:Value} {y:κ} (hy:a.eval x=key) (hx:ok y) (hkey:keyOf P k key=Z (kl y)) (hinj:∀z,ok z->kl z=kl y->z=y)
  (hK:∀w',b_ P k kl ok w' b n (fun z=>if z=y then N else f z) (sz-if(f y).isSome=true then 1 else 0)->w.grownBy w' (Z b)->wpList P ops Q rest (a.put o.dst (.tuple #[])) w'):wpList P ops Q (o::rest) a w:=by
 refine wpList_plain hg fun K' hK'=>?_
 obtain⟨w',hrun,r1,r2⟩:=h.drop K ht hx hkey hinj o.type;unfold Oper.wp;simp[execOp,hop,resolve,invoke,builtin,hm,hy,hrun,Result.andThen];exact hK' _ _ (hK w' r1 r2)
theorem vK[DecidableEq κ]{i:Nat}{oi:Oper}{fuel:Nat}{listed:Array Bool}(d:Option Tmp)(hi:ops[i]?=Z oi)(hd:oi.dst=d)
  (hr:Region.ready md ops listed=[i]) (hw:Region.wanted oi (yielded ops a.tmps)=true) (m y v:Operand) (t:TypeId) (hop:oi.op=Op.mapUpdate t m y v) {e:TypeId} (h:b_ P k kl ok w b n f sz) (K:Keyed P k) (ht:P.underlying t=Z (.map k e)) (hn:n<maxLen)
  (hm:a.eval m=.map (Z b)) {key val:Value} {x:κ} (hy:a.eval y=key) (hv:a.eval v=val) (hx:ok x) (hkey:keyOf P k key=Z (kl x)) (hinj:∀y,ok y->kl y=kl x->y=x)
  (hS:∀w',w.grownBy w' (Z b)->S w')
  (hK:∀w',b_ P k kl ok w' b (n+1) (fun y=>if y=x then Z val else f y) (if(f x).isSome=true then sz else sz+1)->w.grownBy w' (Z b)->wpAnyH P md ops Q S fuel (listed.setIfInBounds i true) (a.put d undef) w'):wpAnyH P md ops Q S (fuel+1) listed a w:=by
 subst hd;refine mT hi hr hw (fun K' hK'=>?_);obtain⟨w',hrun,r1,r2⟩:=h.put K ht hn (v:=val) hx hkey hinj;unfold Oper.wp;simp[execOp,hop,hm,hy,hv,hrun,Result.andThen];exact hK'.out _ _ (hS w' r2) (fun _=>hK w' r1 r2)
end
end
section
open Go.RowKit
section
variable {P:Program}{ops:Array Oper}{Q:Exit->Act->Wv->Prop}{md:Region.Mode}{S:Wv->Prop}
theorem mU{i:Nat}{oi:Oper}{fuel:Nat}{listed:Array Bool}{a:Act}{w w':Wv}(d:Option Tmp)(hi:ops[i]?=Z oi)(hd:oi.dst=d)
  (hr:Region.ready md ops listed=[i]) (hw:Region.wanted oi (yielded ops a.tmps)=true) (he:(execOp a.eval oi).run P w=.ok .skip w') (hS:S w')
  (h:wpAnyH P md ops Q S fuel (listed.setIfInBounds i true) (a.put d undef) w'):wpAnyH P md ops Q S (fuel+1) listed a w:=by
 subst hd;refine mT hi hr hw (fun K hK=>?_);unfold Oper.wp;rw[he];simp only[Oper.upon];exact hK.out _ _ hS (fun _=>h)
end
section
variable {P:Program}{w:Wv}
theorem kY{ops:Array Oper}{rest:List Oper}{o:Oper}{a:Act}{Q:Exit->Act->Wv->Prop}(s x:Operand)(t e:TypeId)(z:Value)(size bytes:Nat)
  (hgd:o.guard=N) (ho:o.op=.call { callee:=.builtin .append,args:=#[s,x],argTypes:=#[t,t] }) (ht:P.underlying t=Z (.slice e))
  (hinfo:(P.info? e).map (fun i=>(i.zero,i.size,i.bytes))=Z (Z z,size,bytes)) (hzs:z.cells.size=size) (hsz:0<size) (hby:0<bytes)
  (hs:a.eval s=H N 0 0)
  {A':Oa} {m c':Nat} {news:Lv} (hx:a.eval x=H A' m c') (hr:Sl w A' news) (hl:news.length=m*size) (h1:∀u∈news,u.oneCell'=true)
  (hlim:m*bytes<=140737488355328)
  (h:∀B k w',w'.ownsRow w.heap.size e size (H B m k) m news->m<=k->By w w'->wpList P ops Q rest (a.put o.dst (H B m k)) w'):wpList P ops Q (o::rest) a w:=by
 refine aJ s x t e z size bytes hgd ho ht hinfo hzs hsz hby hs (World.ownsRow_nil w w.heap.size _ _) hx hr hl h1 (by rw[Nat.zero_add];exact hlim) (Nat.le_refl _) ?_;intro B k w' h2 h3 h4 _ _;rw[Nat.zero_add]at *;exact h B k w' h2 h3 h4
end
end
section
open Go.RowKit Go.Maps Go.WideMaps
theorem xQ{ms:List Mp}{c:Int}{j:Nat}(hj:j<ms.length)(h:ms[j].frm=c):0<=fC ms true c/\fC ms true c<=j:=by
 unfold fC;cases hf:aB ms true c with
 | none=>exact absurd hf (by
   unfold aB
   rw[List.findIdx?_eq_none_iff]
   intro g
   have:=g _ (List.getElem_mem hj)
   simp[h]at this)
 |some i=>
  refine⟨by dsimp only;omega,?_⟩;unfold aB at hf;rw[List.findIdx?_eq_some_iff_getElem]at hf;obtain⟨hi,_,h3⟩:=hf;dsimp only;rcases Nat.lt_or_ge j i with g|g
  ·have:=h3 j g;simp[h]at this
  omega
theorem zAa{ms:List Mp}{i:Nat}(hi:i<ms.length)(h:fC ms true ms[i].frm<i):stB ms=false:=by
 rcases pB ms true ms[i].frm with⟨h1,h2⟩|⟨m,hm,h1,h2⟩
 ·have:=(xQ hi rfl).1;omega
 obtain⟨_,g,_⟩:=gR h1;exact CQ hm hi (by omega) g.symm
theorem zAb{ms:List Mp}(h:cH ms=0)(hno:∀t,(ht:t<ms.length)->¬fC ms true ms[t].frm<t):stB ms=true:=
 CU h (fun k hk g=>by
  have h1:=hno (k+1) hk
  have h2:=(xQ (j:=k) (c:=ms[k+1].frm) (by omega) g.symm).2
  omega)
theorem AJ(A0:Oa)(n0 k0:Nat)(A1:Oa)(n1 k1:Nat)(A2:Oa)(n2 k2:Nat)(x:Nrm)(w:Wv)(hN:bA w A0 n0 A1 n1 A2 n2 x)(hz:cK x):
  Calls prog 40 #[.agg #[H A0 n0 k0,H A1 n1 k1,H A2 n2 k2]] w (cA (bK x) w):=by
 obtain⟨ss,ms,rs⟩:=x;obtain⟨hS,hM,hR,rfl,rfl,rfl⟩:=hN;dsimp only at *;have z0:ss.length<=1048576:=hz.z0;have z1:ms.length<=1048576:=hz.z1.n;have ze:=G hz.z1.e;have z2:rs.length<=12:=hz.z2;have CC:=G (fun W(hb:By w W)=>AK A0 ss.length k0 ss W (hS.below hb) rfl (by omega));have MC:=G (fun W(hb:By w W)=>WG A1 ms.length k1 ms W (hM.below hb) rfl hz.z1);have VC:=G (fun W(hb:By w W)=>WM A2 rs.length k2 rs W (hR.below hb) rfl (by omega));have KC:=G (fun c W=>pX c W);have CLC:=G (fun c W(hb:By w W)=>pW A0 ss.length k0 ss c W (hS.below hb) rfl (by omega));have FC:=G (fun c W(hb:By w W)=>oW A1 ms.length k1 ms c true W (hM.below hb) rfl z1);have EC:=G (fun W(hb:By w W)=>LW A1 ms.length k1 ms W (hM.below hb) rfl z1 (fun i hi=>(ze.out i hi).1));have LC:=G (fun b W(hb:By w W)=>QU A1 ms.length k1 ms b W (hM.below hb) rfl z1 (fun i hi=>(ze.out i hi).1));have N0:=G (fun h=>tH (x:=⟨ss,ms,rs⟩) h);have N1:=G (fun h1 h2=>tJ (x:=⟨ss,ms,rs⟩) h1 h2);have N2:=G (fun h1 h2 h3=>tL (x:=⟨ss,ms,rs⟩) h1 h2 h3);have N3:=G (fun(c:Ck3 ⟨ss,ms,rs⟩) h=>c.twice h);have N4:=G (fun(c:Ck4 ⟨ss,ms,rs⟩) h=>c.kind h);have N5:=G (fun(c:Ck5 ⟨ss,ms,rs⟩) h=>c.data h);have N6:=G (fun(c:Ck6 ⟨ss,ms,rs⟩)=>c.rest);dsimp only at N0 N1 N2 N3 N4 N5 N6;generalize bK ⟨ss,ms,rs⟩=r at *;have HM:=G hM;clear hM hS hR hz ze;have B0:By w (w.alloc (.cells #[H A0 ss.length k0,H A1 ms.length k1,H A2 rs.length k2] 28)):=ba _ _;have X0:Box (w.alloc (.cells #[H A0 ss.length k0,H A1 ms.length k1,H A2 rs.length k2] 28)) w.heap.size 28 [H A0 ss.length k0,H A1 ms.length k1,H A2 rs.length k2]:=Box.new _ _ _ rfl;have W0E:∃W0,(w.alloc (.cells #[H A0 ss.length k0,H A1 ms.length k1,H A2 rs.length k2] 28))=W0:=⟨_,rfl⟩;go_enter func40,ntmps40;go_wp2_with fail;obtain⟨W0,hW0⟩:=W0E;rw[hW0]at B0 X0|-;clear hW0;have s0:w.heap.size<W0.heap.size:=X0.lt
 have Q:=G (fun W(hb:By W0 W)=>show W.cell? ⟨w.heap.size,0,N⟩=Z (H A0 ss.length k0)/\W.cell? ⟨w.heap.size,1,N⟩=Z (H A1 ms.length k1)/\W.cell? ⟨w.heap.size,2,N⟩=Z (H A2 rs.length k2)from
  have X:=X0.below hb s0
  ⟨X.cell rfl,X.cell rfl,X.cell rfl⟩)
 have BB:=G (fun W(hb:By W0 W)=>B0.trans (hb.mono B0.size));clear X0;with_reducible refine(CC.out _ B0).mono ?_
 rintro e W1 ⟨rfl,hb1⟩;obtain⟨q0,q1,q2⟩:=Q.out W1 hb1;generalize hc:chk ss=c at *;have HC:=G hc;clear hc CC;by_cases h0:¬c=0
 ·go_wp2_with fail
  go_ret;exact⟨aE (N0.out h0).symm,BB.out _ hb1⟩
 replace h0:=Decidable.not_not.1 h0;subst h0;clear N0;go_wp2_with fail;with_reducible refine(MC.out _ (BB.out _ hb1)).mono ?_
 rintro e W2 ⟨rfl,hb2⟩;replace hb2:=hb1.trans (hb2.mono hb1.size);clear q0 q1 q2 hb1 MC;obtain⟨q0,q1,q2⟩:=Q.out W2 hb2;generalize hc:cH ms=c at *;have HMC:=G hc;clear hc;by_cases h0:¬c=0
 ·go_wp2_with fail
  go_ret;exact⟨aE (N1.out (by trivial) h0).symm,BB.out _ hb2⟩
 replace h0:=Decidable.not_not.1 h0;subst h0;clear N1;go_wp2_with fail;with_reducible refine(VC.out _ (BB.out _ hb2)).mono ?_
 rintro e W3 ⟨rfl,hb3⟩;replace hb3:=hb2.trans (hb3.mono hb2.size);clear q0 q1 q2 hb2 VC;obtain⟨q0,q1,q2⟩:=Q.out W3 hb3;generalize hc:gU rs=c at *;have HSC:=G hc;clear hc;cases c with
 |false=>
  go_wp2_with fail;go_ret;exact⟨aE (N2.out (by trivial) (by trivial) (by trivial)).symm,BB.out _ hb3⟩
 |true=>
 have C3:=U (Ck3 ⟨ss,ms,rs⟩) (⟨HC.out,HMC.out,HSC.out⟩);clear N2 HC HSC;go_wp2_with fail;clear q0 q1 q2;go_loopw [6] (fun u wr=>∃i:Nat,i<=ms.length/\u=I J i/\(∀t,(ht:t<ms.length)->t<i->¬fC ms true ms[t].frm<t)/\By W0 wr) (fun u _=>ms.length-(intOf u).toNat)
 case atStart=>exact⟨0,Nat.zero_le _,rfl,fun t _ h=>absurd h (Nat.not_lt_zero _),hb3⟩
 obtain⟨i,hi,rfl,h1,hb⟩:=hrel;have H1:=G h1;clear h1;by_cases hlt:i<ms.length
 ·obtain⟨b,o,rfl,_,hcell⟩:=(HM.out.below (BB.out _ hb)).at hlt
  obtain⟨E,d,c1,c2,c3,_,_⟩:=hcell i hlt;clear hcell;have HS:=G (fun h=>zAa hlt h)
  have HN:=G (fun(h:¬fC ms true ms[i].frm<i)=>show ∀t,(ht:t<ms.length)->t<i+1->¬fC ms true ms[t].frm<t from fun t ht g=>by
   by_cases e:t=i
   ·subst e;exact h
   ·exact H1.out t ht (by omega))
  have FZ:=G (FC.out ms[i].frm wr (BB.out _ hb));generalize fC ms true ms[i].frm=fv at *;generalize ms[i].frm=f at *;generalize ms[i].to.length=tl at *;generalize ms[i].tag=tg at *;clear HM;by_cases heq:fv<i
  ·have HR:=G (N3.out C3.out (HS.out heq))
   go_wp2_with fail;with_reducible refine FZ.out.mono ?_
   rintro e W4 ⟨rfl,rfl⟩;go_wp2_with fail;go_ret;exact⟨aE HR.out.symm,BB.out _ hb⟩
  have HR:=G (HN.out heq);go_wp2_with fail;with_reducible refine FZ.out.mono ?_
  rintro e W4 ⟨rfl,rfl⟩;go_wp2_with fail;go_roundw
  case rel=>exact⟨i+1,by omega,by go_num,fun t ht h=>by have:=HR.out t ht h;omega,hb⟩
  simp[intOf];omega
 have hst:=U (stB ms=true) (zAb HMC.out (fun t ht=>H1.out t ht (by omega)));have C4:=U (Ck4 ⟨ss,ms,rs⟩) (⟨C3.out,hst.out⟩);clear N3 C3 H1 hst FC;go_wp2_with fail;go_loopw [7] (fun u wr=>∃i:Nat,i<=ms.length/\u=I J i/\(∀t,(ht:t<ms.length)->t<i->cQ ms[t]=false)/\By W0 wr) (fun u _=>ms.length-(intOf u).toNat)
 case atStart=>exact⟨0,Nat.zero_le _,rfl,fun t _ h=>absurd h (Nat.not_lt_zero _),hb⟩
 clear hb;obtain⟨i,hi,rfl,hno,hb⟩:=hrel;have HNO:=G hno;clear hno;by_cases hlt:i<ms.length
 ·obtain⟨b1,o1,rfl,hbl,hcell⟩:=(HM.out.below (BB.out _ hb)).at hlt
  obtain⟨C,cc,c0,c1,c2,hcc,hC⟩:=hcell i hlt;have HB:=G (fun h=>N4.out C4.out (iA hlt h));have HN:=G (fun h=>cW (P:=fun m=>cQ m=false) hlt HNO.out h);clear hcell hC;generalize ms[i]=mi at *;have K1:=G (fun(h:¬mi.tag.size=0)=>show cQ mi=false from by simp[cQ,h]);have K2:=G (fun(h:mi.to.length=1)=>show cQ mi=false from by simp[cQ,h]);have K3:=G (fun(h:mi.to.length=2)=>show cQ mi=false from by simp[cQ,h]);have K4:=G (fun(h:mi.tag.size=0) (h1:¬mi.to.length=1) (h2:¬mi.to.length=2)=>show cQ mi=true from by simp[cQ,h,h1,h2]);generalize cQ mi=kb at *;obtain⟨mf,mt,mg⟩:=mi;dsimp only at *;clear HM;by_cases hg:mg.size=0
  ·have g0:mg.toList=[]:=gX hg
   by_cases h1:mt.length=1
   ·have HQ:=G (HN.out (K2.out h1))
    have d1:((mt.length:Int)!=1)=false:=by simp;omega
    clear h1;go_wp2_with fail;go_roundw
    case rel=>exact⟨i+1,by omega,by go_num,HQ.out,hb⟩
    simp[intOf];omega
   have d1:((mt.length:Int)!=1)=true:=by simp;omega
   by_cases h2:mt.length=2
   ·have HQ:=G (HN.out (K3.out h2))
    have d2:((mt.length:Int)!=2)=false:=by simp;omega
    clear h1 h2;go_wp2_with fail;go_roundw
    case rel=>exact⟨i+1,by omega,by go_num,HQ.out,hb⟩
    simp[intOf];omega
   have HR:=G (HB.out (K4.out hg h1 h2));have d2:((mt.length:Int)!=2)=true:=by simp;omega
   go_wp2_with fail;go_ret;exact⟨aE HR.out.symm,BB.out _ hb⟩
  have g0:¬mg.toList=[]:=gW hg;have g1:mg.toList.isEmpty=false:=by simpa using g0
  have HQ:=G (HN.out (K1.out hg));go_wp2_with fail;go_roundw
  case rel=>exact⟨i+1,by omega,by go_num,HQ.out,hb⟩
  simp[intOf];omega
 have C5:=U (Ck5 ⟨ss,ms,rs⟩) (⟨C4.out,show ms.any cQ=false from fO (fun t ht=>HNO.out t ht (by omega))⟩);clear C4 N4 HNO;go_wp2_with fail;go_loopw [8] (fun u wr=>∃i:Nat,i<=ms.length/\u=I J i/\(∀t,(ht:t<ms.length)->t<i->cZ ss ms[t]=false)/\By W0 wr) (fun u _=>ms.length-(intOf u).toNat)
 case atStart=>exact⟨0,Nat.zero_le _,rfl,fun t _ h=>absurd h (Nat.not_lt_zero _),hb⟩
 clear hb;obtain⟨i,hi,rfl,hno,hb⟩:=hrel;have HNO:=G hno;clear hno;by_cases hlt:i<ms.length
 ·obtain⟨b1,o1,rfl,hbl,hcell⟩:=(HM.out.below (BB.out _ hb)).at hlt
  obtain⟨C,cc,c0,c1,c2,hcc,hC⟩:=hcell i hlt;have HB:=G (fun h=>N5.out C5.out (iA hlt h));have HN:=G (fun h=>cW (P:=fun m=>cZ ss m=false) hlt HNO.out h);clear hcell hC;generalize ms[i]=mi at *;have K1:=G (fun(h:¬Hg.kind mi.frm=0)=>show cZ ss mi=true from by simp[cZ,h]);have K2:=G (fun(h:Hg.kind mi.frm=0) (h2:mi.tag.size=0)=>show cZ ss mi=false from by simp[cZ,h,h2]);have K3:=G (fun(h:Hg.kind mi.frm=0) (h3:clz ss mi.frm=0)=>show cZ ss mi=false from by simp[cZ,h,h3]);have K4:=G (fun(h2:¬mi.tag.size=0) (h3:¬clz ss mi.frm=0)=>show cZ ss mi=true from by unfold cZ;simp only[h2,h3,not_false_eq_true,decide_true,Bool.and_self,Bool.or_true]);generalize cZ ss mi=kb at *;obtain⟨mf,mt,mg⟩:=mi;dsimp only at *;clear HM;have hlt':wr.heap.size=wr.heap.size:=rfl;obtain⟨q0,_,_⟩:=Q.out wr hb;have SH:=G (fun W'(hb':By wr W')=>show W'.cell? ⟨w.heap.size,0,N⟩=Z (H A0 ss.length k0)/\W'.cell? ⟨b1,o1+i*3,N⟩=Z (I J mf)/\W'.cell? ⟨b1,o1+i*3+2,N⟩=Z (.string mg)/\By wr W' from⟨(hb'.cell (World.block_lt_of_cell? _ _ q0)).trans q0,(hb'.cell (World.block_lt_of_cell? _ _ c0)).trans c0,(hb'.cell (World.block_lt_of_cell? _ _ c2)).trans c2,hb'⟩);have KF:=G (fun W'(hb':By wr W')=>(KC.out mf W').mono (R':=fun e W'=>e=.returned (I J (Hg.kind mf))/\(W'.cell? ⟨w.heap.size,0,N⟩=Z (H A0 ss.length k0)/\W'.cell? ⟨b1,o1+i*3,N⟩=Z (I J mf)/\W'.cell? ⟨b1,o1+i*3+2,N⟩=Z (.string mg)/\By wr W')) (fun e W'' hh=>⟨hh.1,hh.2 ▸ SH.out W' hb'⟩));have CF:=G (fun W'(hb':By wr W')=>(CLC.out mf W' (BB.out _ (hb.trans (hb'.mono hb.size)))).mono (R':=fun e W'=>e=.returned (I J (clz ss mf))/\(W'.cell? ⟨w.heap.size,0,N⟩=Z (H A0 ss.length k0)/\W'.cell? ⟨b1,o1+i*3,N⟩=Z (I J mf)/\W'.cell? ⟨b1,o1+i*3+2,N⟩=Z (.string mg)/\By wr W')) (fun e W'' hh=>⟨hh.1,SH.out W'' (hb'.trans (hh.2.mono hb'.size))⟩));clear q0 c1;generalize hka:Hg.kind mf=ka at *;generalize hcl:clz ss mf=cl at *;clear hka hcl;by_cases hk0:ka=0
  ·subst hk0
   by_cases hg:mg.size=0
   ·have g0:mg.toList=[]:=gX hg
    have HQ:=G (HN.out (K2.out rfl hg));go_wp2_with fail;refine wp_region_held_drew (S:=fun W'=>W'.cell? ⟨w.heap.size,0,N⟩=Z (H A0 ss.length k0)/\W'.cell? ⟨b1,o1+i*3,N⟩=Z (I J mf)/\W'.cell? ⟨b1,o1+i*3+2,N⟩=Z (.string mg)/\By wr W') (by kernel_rfl) (SH.out _ ((Below.refl _ _).drew)) (fun hHeld=>?_);refine tK 0 83 ?_;refine tK 1 84 ?_;refine tK 2 85 ?_;refine tK 3 86 ?_;refine tK 4 87 ?_;refine qK 5 88 (KF.out _ hHeld.2.2.2) ?_;clear hHeld;intro W5 hHeld;refine tK 6 89 ?_;refine tK 7 90 ?_;refine tK 8 91 ?_;refine tK 9 92 ?_;refine tK 10 93 ?_;refine tK 11 94 ?_;refine tK 12 95 ?_;refine tK 13 96 ?_;refine tK 14 97 ?_;refine sK 15 98 ?_;refine sK 16 99 ?_;refine sK 17 100 ?_;refine sK 18 101 ?_;refine sK 19 102 ?_;refine sK 20 103 ?_;refine sK 21 104 ?_;refine sK 22 105 ?_;refine sK 23 106 ?_;refine tK 24 107 ?_;refine tK 25 108 ?_;refine wpAnyH_done (by kernel_rfl) ?_ _;have hb9:=hb.trans (hHeld.2.2.2.mono hb.size);clear hHeld SH KF CF;go_wp2_with fail;go_roundw
    case rel=>exact⟨i+1,by omega,by go_num,HQ.out,hb9⟩
    simp[intOf];omega
   have g0:¬mg.toList=[]:=gW hg;have g1:mg.toList.isEmpty=false:=by simpa using g0
   by_cases hc0:cl=0
   ·have HQ:=G (HN.out (K3.out rfl hc0))
    subst hc0;go_wp2_with fail;refine wp_region_held_drew (S:=fun W'=>W'.cell? ⟨w.heap.size,0,N⟩=Z (H A0 ss.length k0)/\W'.cell? ⟨b1,o1+i*3,N⟩=Z (I J mf)/\W'.cell? ⟨b1,o1+i*3+2,N⟩=Z (.string mg)/\By wr W') (by kernel_rfl) (SH.out _ ((Below.refl _ _).drew)) (fun hHeld=>?_);refine tK 0 83 ?_;refine tK 1 84 ?_;refine tK 2 85 ?_;refine tK 3 86 ?_;refine tK 4 87 ?_;refine qK 5 88 (KF.out _ hHeld.2.2.2) ?_;clear hHeld;intro W5 hHeld;refine tK 6 89 ?_;refine tK 7 90 ?_;refine tK 8 91 ?_;refine tK 9 92 ?_;refine tK 10 93 ?_;refine tK 11 94 ?_;refine tK 12 95 ?_;refine tK 13 96 ?_;refine tK 14 97 ?_;refine tK 15 98 ?_;refine tK 16 99 ?_;refine tK 17 100 ?_;refine tK 18 101 ?_;refine tK 19 102 ?_;refine tK 20 103 ?_;refine tK 21 104 ?_;refine qK 22 105 (CF.out _ hHeld.2.2.2) ?_;clear hHeld;intro W6 hHeld;refine tK 23 106 ?_;refine tK 24 107 ?_;refine tK 25 108 ?_;refine wpAnyH_done (by kernel_rfl) ?_ _;have hb9:=hb.trans (hHeld.2.2.2.mono hb.size);clear hHeld SH KF CF;go_wp2_with fail;go_roundw
    case rel=>exact⟨i+1,by omega,by go_num,HQ.out,hb9⟩
    simp[intOf];omega
   have HR:=G (HB.out (K4.out hg hc0));have hc1:(cl !=0)=true:=by simpa using hc0
   go_wp2_with fail;refine wp_region_held_drew (S:=fun W'=>W'.cell? ⟨w.heap.size,0,N⟩=Z (H A0 ss.length k0)/\W'.cell? ⟨b1,o1+i*3,N⟩=Z (I J mf)/\W'.cell? ⟨b1,o1+i*3+2,N⟩=Z (.string mg)/\By wr W') (by kernel_rfl) (SH.out _ ((Below.refl _ _).drew)) (fun hHeld=>?_);refine tK 0 83 ?_;refine tK 1 84 ?_;refine tK 2 85 ?_;refine tK 3 86 ?_;refine tK 4 87 ?_;refine qK 5 88 (KF.out _ hHeld.2.2.2) ?_;clear hHeld;intro W5 hHeld;refine tK 6 89 ?_;refine tK 7 90 ?_;refine tK 8 91 ?_;refine tK 9 92 ?_;refine tK 10 93 ?_;refine tK 11 94 ?_;refine tK 12 95 ?_;refine tK 13 96 ?_;refine tK 14 97 ?_;refine tK 15 98 ?_;refine tK 16 99 ?_;refine tK 17 100 ?_;refine tK 18 101 ?_;refine tK 19 102 ?_;refine tK 20 103 ?_;refine tK 21 104 ?_;refine qK 22 105 (CF.out _ hHeld.2.2.2) ?_;clear hHeld;intro W6 hHeld;refine tK 23 106 ?_;refine tK 24 107 ?_;refine tK 25 108 ?_;refine wpAnyH_done (by kernel_rfl) ?_ _;have hb9:=hb.trans (hHeld.2.2.2.mono hb.size);clear hHeld SH KF CF;go_wp2_with fail;go_ret;exact⟨aE HR.out.symm,BB.out _ hb9⟩
  have HR:=G (HB.out (K1.out hk0));have hk1:(ka !=0)=true:=by simpa using hk0
  go_wp2_with fail;refine wp_region_held_drew (S:=fun W'=>W'.cell? ⟨w.heap.size,0,N⟩=Z (H A0 ss.length k0)/\W'.cell? ⟨b1,o1+i*3,N⟩=Z (I J mf)/\W'.cell? ⟨b1,o1+i*3+2,N⟩=Z (.string mg)/\By wr W') (by kernel_rfl) (SH.out _ ((Below.refl _ _).drew)) (fun hHeld=>?_);refine tK 0 83 ?_;refine tK 1 84 ?_;refine tK 2 85 ?_;refine tK 3 86 ?_;refine tK 4 87 ?_;refine qK 5 88 (KF.out _ hHeld.2.2.2) ?_;clear hHeld;intro W5 hHeld;refine tK 6 89 ?_;refine tK 7 90 ?_;refine sK 8 91 ?_;refine sK 9 92 ?_;refine sK 10 93 ?_;refine sK 11 94 ?_;refine sK 12 95 ?_;refine sK 13 96 ?_;refine sK 14 97 ?_;refine sK 15 98 ?_;refine sK 16 99 ?_;refine sK 17 100 ?_;refine sK 18 101 ?_;refine sK 19 102 ?_;refine sK 20 103 ?_;refine sK 21 104 ?_;refine sK 22 105 ?_;refine sK 23 106 ?_;refine sK 24 107 ?_;refine tK 25 108 ?_;refine wpAnyH_done (by kernel_rfl) ?_ _;have hb9:=hb.trans (hHeld.2.2.2.mono hb.size);clear hHeld SH KF CF;go_wp2_with fail;go_ret;exact⟨aE HR.out.symm,BB.out _ hb9⟩
 have C6:=U (Ck6 ⟨ss,ms,rs⟩) (⟨C5.out,show ms.any (cZ ss)=false from fO (fun t ht=>HNO.out t ht (by omega))⟩);have HFI:=G (N6.out C6.out);clear C5 N5 HNO C6 N6;have E9:=G (fun W(hb:By W0 W)=>EC.out W (BB.out _ hb));have L9:=G (fun b W(hb:By W0 W)=>LC.out b W (BB.out _ hb));clear EC LC KC CLC HM;have HTL:=G (kT ms.length (toM ms) (aB ms true) ms.length).1;have HEB:=U (dH ms=(bR ms.length (toM ms) (aB ms true) ms.length).all id) rfl;have HLL:=G (fun b=>(yX ms b ms.length).1);have HLB:=U (fF ms=(List.range ms.length).any (fun i=>decide (64<(gL ms false).getD i 0)||decide (64<(gL ms true).getD i 0))) rfl;generalize bR ms.length (toM ms) (aB ms true) ms.length=T at *;have hl0:(gL ms false).length=ms.length:=HLL.out false;have hl1:(gL ms true).length=ms.length:=HLL.out true;generalize hln0:gL ms false=l0 at *;generalize hln1:gL ms true=l1 at *;have HL0:=G hl0;have HL1:=G hl1;have HN0:=G hln0;have HN1:=G hln1;clear hl0 hl1 hln0 hln1 HLL;go_wp2_with fail;with_reducible refine(E9.out _ hb).mono ?_
 rintro e W4 ⟨A4,c4,rfl,hc4,hA4,hb4⟩;replace hb4:=hb.trans (hb4.mono hb.size);have htl:=HTL.out;have HA4:=G hA4;clear hA4 E9;go_wp2_with fail;go_loop [10] (fun u=>∃i:Nat,i<=ms.length/\u=I J i/\(∀t,(ht:t<T.length)->t<i->T[t]=true)) (fun u=>ms.length-(intOf u).toNat)
 case atStart=>exact⟨0,Nat.zero_le _,rfl,fun t _ h=>absurd h (Nat.not_lt_zero _)⟩
 obtain⟨i,hi,rfl,hno⟩:=hrel;have HNO:=G hno;clear hno;by_cases hlt:i<ms.length
 ·obtain⟨b4,o4,rfl,hcell⟩:=HA4.out.at (k:=i) (by simp[htl,hlt])
  have c0:=hcell i (.bool (T[i]'(by omega))) (by simp[htl,hlt])
  have HB:=G (fun(h:T[i]'(by omega)=false)=>show r=12 from by
   rw[HFI.out,if_pos]
   rw[HEB.out]
   rw[<-Bool.not_eq_true,List.all_eq_true]
   intro g
   have:=g _ (List.getElem_mem (show i<T.length by omega))
   rw[id,h]at this
   cases this)
  have hiT:i<T.length:=by omega
  have HN:=G (fun(h:T[i]'(by omega)=true)=>cW (P:=fun b=>b=true) hiT HNO.out h);clear hcell;generalize T[i]'(by omega)=tb at *;cases tb with
  |true=>
   have HQ:=G (HN.out rfl);go_wp2_with fail;go_round
   case rel=>exact⟨i+1,by omega,by go_num,HQ.out⟩
   simp[intOf];omega
  |false=>
   have HR:=G (HB.out rfl);go_wp2_with fail;go_ret;exact⟨aE HR.out.symm,BB.out _ hb4⟩
 ·have HEN:=U (dH ms=true) (by
   rw[HEB.out,List.all_eq_true]
   intro b hb
   obtain⟨t,ht,rfl⟩:=List.getElem_of_mem hb
   exact HNO.out t ht (by omega))
  have HFJ:=U (r=if fF ms=true then 13 else 0) (by rw[HFI.out,if_neg (by rw[HEN.out];simp)]);clear HFI HEN HEB HNO;go_wp2_with fail;with_reducible refine(L9.out false _ hb4).mono ?_
  rintro e W5 ⟨A5,c5,rfl,hc5,hA5,hb5⟩;rw[HN0.out]at hA5 hc5|-;have h5:=hb4.trans (hb5.mono hb4.size);have HA5:=G hA5;clear hA5 hb5;go_wp2_with fail;with_reducible refine(L9.out true _ h5).mono ?_
  rintro e W6 ⟨A6,c6,rfl,hc6,hA6,hb6⟩;rw[HN1.out]at hA6 hc6|-;have h6:=h5.trans (hb6.mono h5.size);have HA5':=G (HA5.out.below hb6);have HA6:=G hA6;have e5:=HL0.out;have e6:=HL1.out;clear hA6 hb6 HA5 L9;go_wp2_with fail;go_loop [13] (fun u=>∃i:Nat,i<=ms.length/\u=I J i/\(∀t,t<ms.length->t<i->¬64<l0.getD t 0/\¬64<l1.getD t 0)) (fun u=>ms.length-(intOf u).toNat)
  case atStart=>exact⟨0,Nat.zero_le _,rfl,fun t _ h=>absurd h (Nat.not_lt_zero _)⟩
  obtain⟨i,hi,rfl,hno⟩:=hrel;have HNO:=G hno;clear hno;by_cases hlt:i<ms.length
  ·obtain⟨b5,o5,rfl,hcell5⟩:=HA5'.out.at (k:=i) (by omega)
   obtain⟨b6,o6,rfl,hcell6⟩:=HA6.out.at (k:=i) (by omega);have c0:=hcell5 i (by omega);have c1:=hcell6 i (by omega);have g0:l0.getD i 0=l0[i]'(by omega):=by simp[List.getD,e5,hlt]
   have g1:l1.getD i 0=l1[i]'(by omega):=by simp[List.getD,e6,hlt]
   have HB:=G (fun(h:64<l0.getD i 0\/64<l1.getD i 0)=>show r=13 from by
    rw[HFJ.out,if_pos]
    rw[HLB.out,List.any_eq_true]
    exact⟨i,List.mem_range.2 hlt,by rw[Bool.or_eq_true,decide_eq_true_eq,decide_eq_true_eq];exact h⟩)
   have HN:=G (fun(h:¬64<l0.getD i 0/\¬64<l1.getD i 0)=>show ∀t,t<ms.length->t<i+1->¬64<l0.getD t 0/\¬64<l1.getD t 0 from fun t ht g=>by
    by_cases e:t=i
    ·subst e;exact h
    ·exact HNO.out t ht (by omega))
   rw[g0,g1]at HB HN;clear hcell5 hcell6 g0 g1;generalize l0[i]'(by omega)=x0 at *;generalize l1[i]'(by omega)=x1 at *;by_cases h0:64<x0
   ·have HR:=G (HB.out (.inl h0))
    go_wp2_with fail;go_ret;exact⟨aE HR.out.symm,BB.out _ h6⟩
   by_cases h1:64<x1
   ·have HR:=G (HB.out (.inr h1))
    go_wp2_with fail;go_ret;exact⟨aE HR.out.symm,BB.out _ h6⟩
   have HQ:=G (HN.out ⟨h0,h1⟩);go_wp2_with fail;go_round
   case rel=>exact⟨i+1,by omega,by go_num,HQ.out⟩
   simp[intOf];omega
  ·have HR:=U (r=0) (by
    rw[HFJ.out,if_neg]
    rw[HLB.out,Bool.not_eq_true,List.any_eq_false]
    intro t ht
    have h1:=List.mem_range.1 ht
    obtain⟨g1,g2⟩:=HNO.out t h1 (by omega)
    rw[Bool.or_eq_true,decide_eq_true_eq,decide_eq_true_eq]
    omega)
   go_wp2_with fail;go_ret;exact⟨aE HR.out.symm,BB.out _ h6⟩
end
namespace Can
section
variable {cl:Int->Int}
theorem inv_back(c:Int)(q:Li)(hc:0<cl c)(h:∀y∈q,cl c<cl y):Inv cl (q++[c]) (c::q):=by
 induction q with
 |nil=>exact Inv.refl _
 |cons y r ih=>
  have hy:=h y (List.mem_cons_self ..);exact((ih fun z hz=>h z (List.mem_cons_of_mem _ hz)).cons y).trans (Inv.swap r (by omega) (by omega) (by omega))
theorem ok_ins(c:Int)(p q:Li)(h:Ok cl (p++q))(hq:∀y∈q,cl c<cl y)(hp:cl c=0\/∀x,p.getLast?=some x->cl x<=cl c):Ok cl (p++c::q):=by
 have base:∀q:Li,Ok cl q->(∀y∈q,cl c<cl y)->Ok cl (c::q):=by
  intro q hq1 hq2;cases q with
  |nil=>trivial
  |cons y r=>exact⟨fun _=>by have:=hq2 y (List.mem_cons_self ..);omega,hq1⟩
 induction p with
 |nil=>exact base q h hq
 |cons x p ih=>
  cases p with
  |nil=>
   refine⟨fun hne=>?_,base q h.tail hq⟩;rcases hp with hp|hp
   ·exact absurd hp hne
   exact hp x rfl
  |cons x' p'=>exact⟨h.1,ih h.2 (by rcases hp with hp|hp;exact .inl hp;exact .inr fun z hz=>hp z (by simpa[List.getLast?_cons_cons]using hz))⟩
theorem srt_snoc(hcl:∀x,0<=cl x){l p q:Li}{c:Int}(h:srt cl l=p++q)(hq:q=[]\/0<cl c)(hq2:∀y∈q,cl c<cl y)(hp:cl c=0\/∀x,p.getLast?=some x->cl x<=cl c):p++c::q=srt cl (l++[c]):=by
 refine srt_eq hcl ?_ (ok_ins c p q (by rw[<-h];exact srt_ok l) hq2 hp);have h1:Inv cl (l++[c]) ((p++q)++[c]):=(show Inv cl l (p++q) by rw[<-h];exact srt_inv hcl l).append (Inv.refl [c]);refine h1.trans ?_;rw[List.append_assoc];refine(Inv.refl p).append ?_;rcases hq with rfl|hq
 ·exact Inv.refl _
 exact inv_back c q hq hq2
end
end Can
section
end
namespace Cps
open Go.Proofs.YtpfbnikbebccjaaGreatDoor
structure CSt where
 pre:Li
 st:Option Int
 bt:Li
def CSt.out(s:CSt):Li:=s.pre++(s.st.toList++s.bt)
def s0:CSt:=⟨[],N,[]⟩
section
variable (cl:Int->Int)(pr:Int->Int->Option Int)
def free(s:CSt)(c:Int):Bool:=match s.bt.getLast? with|none=>true|some b=>decide (cl b<cl c)
def put(s:CSt)(c:Int):CSt:=if cl c=0 then⟨s.out,Z c,[]⟩else⟨s.pre,s.st,s.bt++[c]⟩
def join(s:CSt)(c:Int):Option Int:=match s.st with|some L=>if free cl s c=true then pr L c else N|none=>N
def step(s:CSt)(c:Int):CSt:=match join cl pr s c with|some p=>⟨s.pre,Z p,s.bt⟩|none=>put cl s c
def run(s:CSt)(t:Li):CSt:=t.foldl (step cl pr) s
def text(t:Li):Li:=(run cl pr s0 t).out
end
section
variable {cl:Int->Int}{pr:Int->Int->Option Int}
theorem put_out(s:CSt)(c:Int):(put cl s c).out=s.out++[c]:=by
 unfold put;split<;>simp[CSt.out]
theorem join_some{s:CSt}{c p:Int}(h:join cl pr s c=Z p):∃L,s.st=Z L/\free cl s c=true/\pr L c=Z p:=by
 unfold join at h;split at h
 ·next L hL=>
  split at h
  ·next hf=>exact⟨L,hL,hf,h⟩
  cases h
 cases h
theorem step_some{s:CSt}{c p:Int}(h:join cl pr s c=Z p):step cl pr s c=⟨s.pre,Z p,s.bt⟩:=by unfold step;rw[h]
theorem step_none{s:CSt}{c:Int}(h:join cl pr s c=N):step cl pr s c=put cl s c:=by unfold step;rw[h]
end
section
variable {cl:Int->Int}{pr:Int->Int->Option Int}{D:Int->Li}
theorem inv_move(c:Int)(q:Li)(hc:cl c≠0)(h:∀y∈q,cl y≠0/\cl y≠cl c):Can.Inv cl (c::q) (q++[c]):=by
 induction q with
 |nil=>exact Can.Inv.refl _
 |cons y r ih=>
  have hy:=h y (by simp);exact(Can.Inv.swap r hc hy.1 (fun e=>hy.2 e.symm)).trans ((ih (fun z hz=>h z (by simp[hz]))).cons y)
structure Und(cl:Int->Int)(D:Int->Li)(u:Li)(s:CSt):Prop where
 inv:Can.Inv cl (s.out.flatMap D) u
 bts:∀b∈s.bt,D b=[b]/\cl b≠0
 pw:s.bt.Pairwise (fun x y=>cl x<=cl y)
 top:∀b∈s.bt,∃x,u.getLast?=Z x/\cl b<=cl x
theorem flat_self{l:Li}(h:∀b∈l,D b=[b]):l.flatMap D=l:=by
 induction l with
 |nil=>rfl
 |cons b l ih=>rw[List.flatMap_cons,h b (by simp),ih (fun x hx=>h x (by simp[hx]))];rfl
theorem last_le{l:Li}(hp:l.Pairwise (fun x y=>cl x<=cl y)){b:Int}(hb:l.getLast?=Z b):∀x∈l,cl x<=cl b:=by
 obtain⟨r,rfl⟩:∃r,l=r++[b]:=by
  cases hl:l with
  |nil=>rw[hl]at hb;cases hb
  |cons x y=>
   rw[hl]at hb;refine⟨(x::y).dropLast,?_⟩;have h1:(x::y).getLast (by simp)=b:=by rw[List.getLast?_eq_some_getLast (by simp)]at hb;injection hb
   rw[<-h1,List.dropLast_concat_getLast]
 intro x hx;rcases List.mem_append.1 hx with hx|hx
 ·exact(List.pairwise_append.1 hp).2.2 x hx b (by simp)
 simp at hx;subst hx;omega
theorem Und.step(hcl:∀x,0<=cl x)(hD:∀L c p,pr L c=Z p->D p=D L++D c){u:Li}{s:CSt}{c:Int}(h:Und cl D u s)(hc:D c=[c])(hok:cl c≠0->∀x,u.getLast?=Z x->cl x<=cl c):Und cl D (u++[c]) (step cl pr s c):=by
 have hlast:(u++[c]).getLast?=Z c:=by simp
 have hlt:cl c≠0->∀b∈s.bt,cl b<=cl c:=fun h0 b hb=>by
  obtain⟨x,h1,h2⟩:=h.top b hb;have:=hok h0 x h1;omega
 cases hj:join cl pr s c with
 |none=>
  rw[step_none hj];have hi:Can.Inv cl ((put cl s c).out.flatMap D) (u++[c]):=by
   rw[put_out,List.flatMap_append];have:[c].flatMap D=[c]:=by simp[hc]
   rw[this];exact h.inv.append (Can.Inv.refl _)
  by_cases h0:cl c=0
  ·have e:(put cl s c).bt=[]:=by unfold put;rw[if_pos h0]
   exact⟨hi,by rw[e];simp,by rw[e];simp,by rw[e];simp⟩
  have e:(put cl s c).bt=s.bt++[c]:=by unfold put;rw[if_neg h0]
  refine⟨hi,?_,?_,?_⟩<;>rw[e]
  ·intro b hb
   rcases List.mem_append.1 hb with hb|hb
   ·exact h.bts b hb
   simp at hb;subst hb;exact⟨hc,h0⟩
  ·rw[List.pairwise_append]
   exact⟨h.pw,by simp,fun a ha b hb=>by simp at hb;subst hb;exact hlt h0 a ha⟩
  intro b hb;refine⟨c,hlast,?_⟩;rcases List.mem_append.1 hb with hb|hb
  ·exact hlt h0 b hb
  simp at hb;subst hb;omega
 |some p=>
  obtain⟨L,h1,h2,h3⟩:=join_some hj;rw[step_some hj];have hDp:=hD L c p h3;rw[hc]at hDp;have hall:∀b∈s.bt,cl b<cl c:=by
   intro b hb;unfold free at h2;cases hl:s.bt.getLast? with
   |none=>rw[List.getLast?_eq_none_iff]at hl;rw[hl]at hb;cases hb
   |some y=>
    rw[hl]at h2;have h4:cl y<cl c:=by simpa using h2
    have:=last_le h.pw hl b hb;omega
  refine⟨?_,h.bts,h.pw,fun b hb=>⟨c,hlast,by have:=hall b hb;omega⟩⟩;have e1:(CSt.out ⟨s.pre,Z p,s.bt⟩).flatMap D=s.pre.flatMap D++(D L++(c::s.bt)):=by
   simp[CSt.out,hDp,flat_self (fun b hb=>(h.bts b hb).1)]
  have e2:s.out.flatMap D++[c]=s.pre.flatMap D++(D L++(s.bt++[c])):=by
   simp[CSt.out,h1,flat_self (fun b hb=>(h.bts b hb).1)]
  rw[e1];have hmv:Can.Inv cl (c::s.bt) (s.bt++[c]):=by
   by_cases hb:s.bt=[]
   ·rw[hb];exact Can.Inv.refl _
   obtain⟨y,hy⟩:=List.exists_mem_of_ne_nil _ hb;have h5:=hall y hy;have h6:=hcl y;exact inv_move c _ (by omega) (fun z hz=>⟨(h.bts z hz).2,by have:=hall z hz;omega⟩)
  refine((Can.Inv.refl (cl:=cl) (s.pre.flatMap D)).append ((Can.Inv.refl (cl:=cl) (D L)).append hmv)).trans ?_;rw[<-e2];exact h.inv.append (Can.Inv.refl _)
end
end Cps
section
open Go.RowKit
def usN(x:Nrm):Nrm:=if bK x=0 then x else⟨[],[],[]⟩
structure NOk(x:Nrm):Prop where
 st:StF x.dec
 hg:dE x.dec
 co:gQ x.dec
 en:dH x.dec=true
 lo:fF x.dec=false
 kd:∀m∈x.dec,m.tag.size=0->m.to.length=1\/m.to.length=2
theorem qG(x:Nrm):NOk (usN x):=by
 unfold usN;split
 ·next h=>
  obtain⟨c,h1,h2⟩:=tI h;refine⟨mP c.t,nW c.d,yZ c.m,h1,h2,fun m hm ht=>?_⟩;have:=List.any_eq_false.1 c.k m hm;unfold cQ at this;simp[ht]at this;omega
 exact⟨fun i j hi=>by simp at hi,fun i hi=>by simp at hi,fun i hi=>by simp at hi,rfl,rfl,fun m hm=>by simp at hm⟩
section
variable {x:Nrm}
end
def lF(x y:Int×Int×Int):Prop:=x.1<y.1\/(x.1=y.1/\x.2.1<y.2.1)
theorem rL(x:Int×Int×Int):¬lF x x:=by rintro(h|⟨_,h⟩)<;>omega
theorem H_{x y z:Int×Int×Int}(h:lF x y)(g:lF y z):lF x z:=by
 unfold lF at *;omega
theorem asc_unique:∀{L M:List (Int×Int×Int)},L.Pairwise lF->M.Pairwise lF->(∀t,t∈L ↔ t∈M)->L=M
 | [],[],_,_,_=>rfl
 | [],y::M,_,_,h=>by have:=(h y).2 (by simp);cases this
 |x::L,[],_,_,h=>by have:=(h x).1 (by simp);cases this
 |x::L,y::M,hL,hM,h=>by
  rw[List.pairwise_cons]at hL hM;have hxy:x=y:=by
   rcases List.mem_cons.1 ((h x).1 (by simp))with e|e
   ·exact e
   rcases List.mem_cons.1 ((h y).2 (by simp))with e'|e'
   ·exact e'.symm
   exact absurd (H_ (hM.1 x e) (hL.1 y e')) (rL _)
  subst hxy;rw[asc_unique hL.2 hM.2 (fun t=>?_)];have:=h t;simp only[List.mem_cons]at this;constructor
  ·intro ht
   rcases this.1 (.inr ht)with e|e
   ·subst e;exact absurd (hL.1 t ht) (rL _)
   exact e
  intro ht;rcases this.2 (.inr ht)with e|e
  ·subst e;exact absurd (hM.1 t ht) (rL _)
  exact e
end
end Go.Proofs.YtpfbnikbebccjaaGreatDoor
