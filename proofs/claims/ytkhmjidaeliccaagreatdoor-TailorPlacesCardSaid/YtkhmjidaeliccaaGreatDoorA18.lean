/- Texts that are merged into one file: TlMem, TlPut, TlPlace, TlOps. -/
import Derived.Test.YtkhmjidaeliccaaGreatDoorA08
import Derived.Test.YtkhmjidaeliccaaGreatDoorA15
import Derived.Test.YtkhmjidaeliccaaGreatDoorA16
import Derived.Test.YtkhmjidaeliccaaGreatDoorA17
import Derived.Deep.Cut
import Derived.Laws.Cover1
set_option maxRecDepth 100000
set_option maxHeartbeats 51200000
namespace Go.Proofs.YtkhmjidaeliccaaGreatDoor
open Go.RowKit Go.Maps Go.WideMaps Tl
def upto {α:Type} (f:α→α) (xs:List α) (i:Nat):List α:=(xs.take i).map f++xs.drop i
section
variable {α:Type} (f:α→α) (xs:List α)
theorem upto_0:upto f xs 0=xs:=by unfold upto;simp
theorem upto_len (i:Nat):(upto f xs i).length=xs.length:=by unfold upto;simp;omega
theorem upto_all {i:Nat} (h:xs.length≤i):upto f xs i=xs.map f:=by unfold upto;rw [List.take_of_length_le h,List.drop_of_length_le h,List.append_nil]
theorem upto_at {i:Nat} (h:i < xs.length) (h':i < (upto f xs i).length):(upto f xs i)[i]=xs[i]:=by
 have e:(upto f xs i)[i]?=xs[i]?:=by
  unfold upto
  rw [List.getElem?_append_right (by simp;omega)]
  simp [Nat.min_eq_left (Nat.le_of_lt h)]
 rw [List.getElem?_eq_getElem h,List.getElem?_eq_getElem h'] at e
 exact Option.some.inj e
theorem upto_set {i:Nat} (h:i < xs.length):(upto f xs i).set i (f xs[i])=upto f xs (i+1):=by
 unfold upto
 rw [List.set_append,if_neg (by simp;omega),List.take_add_one,List.map_append,List.append_assoc,List.getElem?_eq_getElem h]
 have:i - (List.map f (List.take i xs)).length=0:=by simp;omega
 rw [this,List.drop_eq_getElem_cons h]
 rfl
end
theorem upto_last {α:Type} (f:α→α) (xs:List α) (n:Nat) (h:xs.length=n+1) (x:α):(upto f xs n).set n x=(xs.take n).map f++[x]:=by
 unfold upto
 rw [List.set_append,if_neg (by simp;omega)]
 have e1:n - (List.map f (List.take n xs)).length=0:=by simp;omega
 have e2:(xs.drop n).length=1:=by rw [List.length_drop];omega
 rw [e1]
 match hd:xs.drop n with
 | []=>rw [hd] at e2;simp at e2
 | [y]=>rfl
 | _::_::_=>rw [hd] at e2;simp at e2
theorem own_cap {w:World} {base:Nat} {e:TypeId} {size n c:Nat} {A:Option Addr} {xs:List Value} (h:w.ownsRow base e size (.slice A n c) n xs):n≤c:=by
 rcases h.2 with ⟨h1,h2⟩ | ⟨g,cap,cur,h1,_,_,h3,_⟩
 ·omega
 ·injection h1 with _ _ h4;omega
theorem RowE.kept {w w':World} {lo hi q:Nat} {v:Value × Value} {x:Ent} (h:RowE w lo hi v x) (hg:w.grownBy w' (some q)) (hq:q < lo∨hi≤q):RowE w' lo hi v x:=by
 obtain ⟨C,c,E,d,e1,e2,e3,e4,e5,e6⟩:=h
 refine ⟨C,c,E,d,e1,e2.kept hg ?_,e3.kept hg ?_,e4,e5,e6⟩
 ·rw [ownBlock_blk]
  cases hc:blk C with
  | none=>exact .inl rfl
  | some p=>exact .inr (fun e=>by have:=(own_blk e2 hc).1;have:=e4 p hc;injection e with e;omega)
 ·rw [ownBlock_blk]
  cases hc:blk E with
  | none=>exact .inl rfl
  | some p=>exact .inr (fun e=>by have:=(own_blk e3 hc).1;have:=e5 p hc;injection e with e;omega)
structure OpV (w:World) (base z:Nat) (B:Option Addr) (cap:Nat) (vs:List (Value × Value)) (m:Nat→Nat) (top:Nat) (xs:List Ent):Prop where
 len:vs.length=xs.length
 row:w.ownsRow base 75 2 (.slice B xs.length cap) xs.length (flatK enC vs)
 mono:∀i,i < xs.length→m i≤m (i+1)
 mt:m xs.length≤top
 tw:top≤w.heap.size
 bm:∀q,blk B=some q→q < m 0
 zm:z < m 0
 rows:∀i,(hi:i < xs.length)→(hv:i < vs.length)→RowE w (m i) (m (i+1)) vs[i] xs[i]
section
variable {w w':World} {base z:Nat} {B:Option Addr} {cap:Nat} {vs:List (Value × Value)} {m:Nat→Nat} {top:Nat} {xs:List Ent}
theorem CpE.open (h:CpE w base z B cap xs xs.length top):∃vs m,OpV w base z B cap vs m top xs:=by
 obtain ⟨vs,m,h1,h2,h3,h4,h5,h5b,h6,h7,h8⟩:=h.ex
 exact ⟨vs,m,h1,h2,h4,h5,h5b,h6,h7,fun i hi hv=>h8 i hi hi hv⟩
theorem OpV.close (h:OpV w base z B cap vs m top xs):CpE w base z B cap xs xs.length top:=by
 refine ⟨vs,m,h.len,h.row,fun i hi hv=>?_,h.mono,h.mt,h.tw,h.bm,h.zm,fun i _ hi hv=>h.rows i hi hv⟩
 obtain ⟨C,c,E,d,e1,e2,e3,e4,e5,e6⟩:=h.rows i hi hv
 have hm:=mono_up h.mono i (by omega)
 have hz:=h.zm
 refine ⟨C,c,E,d,e1,⟨Sl.of_own e2,fun _ q hq=>⟨fun e=>?_,?_⟩⟩,⟨Sl.of_own e3,fun _ q hq=>⟨fun e=>?_,?_⟩⟩⟩
 ·have:=h.bm q e;have:=(own_blk e2 hq).1;omega
 ·have:=(own_blk e2 hq).1;omega
 ·have:=h.bm q e;have:=(own_blk e3 hq).1;omega
 ·have:=(own_blk e3 hq).1;omega
theorem OpV.below (h:OpV w base z B cap vs m top xs) (hb:Below w.heap.size w w'):OpV w' base z B cap vs m top xs:=
 ⟨h.len,own_keep h.row hb,h.mono,h.mt,Nat.le_trans h.tw hb.size,h.bm,h.zm,fun i hi hv=>(h.rows i hi hv).below hb⟩
theorem OpV.low (h:OpV w base z B cap vs m top xs) {p:Addr} (hp:p.block < base) (v:Value):OpV (w.setCell p v) base z B cap vs m top xs:=by
 refine ⟨h.len,ownsRow_setCell_below h.row hp v,h.mono,h.mt,by simpa using h.tw,h.bm,h.zm,fun i hi hv=>(h.rows i hi hv).set ?_ v⟩
 obtain ⟨g,rfl,hg,_⟩:=own_at h.row (by omega)
 have:=h.bm g rfl
 have:=mono_up h.mono i (by omega)
 omega
theorem OpV.at (h:OpV w base z B cap vs m top xs) {i:Nat} (hi:i < xs.length) (hv:i < vs.length):∃g C c E d,B=some ⟨g,0,none⟩∧base≤g∧g < m 0∧vs[i]=(.slice C xs[i].codes.length c,.slice E xs[i].elems.length d)∧w.cell? ⟨g,i*2,none⟩=some (.slice C xs[i].codes.length c)∧w.cell? ⟨g,i*2+1,none⟩=some (.slice E xs[i].elems.length d):=by
 obtain ⟨g,rfl,hg1,hg2⟩:=own_at h.row (by omega)
 obtain ⟨C,c,E,d,e1,_⟩:=h.rows i hi hv
 have gt:=fun j (hj:j < 2)=>(h.row.cellAt (i*2+j) (by omega)).trans (flatK_get enC 2 (fun _=>rfl) vs i j hv hj)
 exact ⟨g,C,c,E,d,rfl,hg1,h.bm g rfl,e1,(gt 0 (by omega)).trans (by rw [e1];rfl),(gt 1 (by omega)).trans (by rw [e1];rfl)⟩
theorem OpV.elt (h:OpV w base z B cap vs m top xs) {i:Nat} (hi:i < xs.length) (hv:i < vs.length) {C:Option Addr} {n c:Nat} {E:Option Addr} {l d:Nat} (hvi:vs[i]=(.slice C n c,.slice E l d)) {j:Nat} (hj:j < xs[i].elems.length) :
  ∃q,E=some ⟨q,0,none⟩∧base≤q∧m 0≤q∧q < top∧(∀f,f < 4→w.cell? ⟨q,j*4+f,none⟩=xs[i].elems[j].cells[f]?)∧(∀o,w.frozen? ⟨q,o,none⟩=false)∧
   ∀f v e',f < 4→Elt.cells e'=(Elt.cells xs[i].elems[j]).set f v→OpV (w.setCell ⟨q,j*4+f,none⟩ v) base z B cap vs m top (xs.set i ⟨xs[i].codes,xs[i].elems.set j e'⟩):=by
 obtain ⟨C',c',E',d',e1,e2,e3,e4,e5,e6⟩:=h.rows i hi hv
 rw [hvi] at e1
 obtain ⟨e1a,e1b⟩:=Prod.mk.inj e1
 injection e1b with e1b1 e1b2 e1b3
 subst e1b1
 obtain ⟨q,rfl,hq1,hq2⟩:=own_at e3 (by omega)
 have hq3:=e5 q rfl
 have hm0:=mono_up h.mono i (by omega)
 have hup:∀k,i+k≤xs.length→m i≤m (i+k):=fun k=>by
  induction k with
  | zero=>intro _;exact Nat.le_refl _
  | succ k ih=>intro hk;exact Nat.le_trans (ih (by omega)) (h.mono (i+k) (by omega))
 have hup1:∀k,i+1+k≤xs.length→m (i+1)≤m (i+1+k):=fun k=>by
  induction k with
  | zero=>intro _;exact Nat.le_refl _
  | succ k ih=>intro hk;exact Nat.le_trans (ih (by omega)) (h.mono (i+1+k) (by omega))
 have hlast:m (i+1)≤top:=by
  have:=hup1 (xs.length - (i+1)) (by omega)
  rw [show i+1+(xs.length - (i+1))=xs.length by omega] at this
  exact Nat.le_trans this h.mt
 obtain ⟨g,rfl,hg1,hg2⟩:=own_at h.row (by omega)
 have hgm:=h.bm g rfl
 refine ⟨q,rfl,by omega,by omega,by omega,fun f hf=>(e3.cellAt (j*4+f) (by omega)).trans (flatK_get Elt.cells 4 (fun _=>rfl) xs[i].elems j f hj hf),fun o=>e3.frozenAt _,fun f v e' hf he'=>?_⟩
 have hgr:w.grownBy (w.setCell ⟨q,j*4+f,none⟩ v) (some q):=grown_set w ⟨q,j*4+f,none⟩ v
 refine ⟨by simpa using h.len,?_,by simpa using h.mono,by simpa using h.mt,by simpa using h.tw,h.bm,h.zm,fun i' hi' hv'=>?_⟩
 ·have:=h.row.kept hgr (.inr (fun e=>by have e:g=q:=Option.some.inj e;omega))
  simpa using this
 ·by_cases e:i=i'
  ·subst e
   rw [List.getElem_set_self]
   refine ⟨C',c',some ⟨q,0,none⟩,d',by rw [hvi,e1a];simp [e1b2,e1b3],?_,?_,e4,e5,e6⟩
   ·refine e2.kept hgr ?_
    rw [ownBlock_blk]
    cases hc:blk C' with
    | none=>exact .inl rfl
    | some p=>exact .inr (fun e=>by injection e with e;exact e6 p hc (by rw [e];rfl))
   ·have t1:=(e3.stored (j*4+f) v).1
    rw [flatK_set Elt.cells 4 (fun _=>rfl) xs[i].elems j f v e' hj hf he'] at t1
    simpa using t1
  ·rw [List.getElem_set_ne e]
   refine (h.rows i' (by simpa using hi') hv').kept hgr ?_
   by_cases hlt:i' < i
   ·right
    have:=mono_up (m:=fun k=>m (i'+1+k)) (k:=i - (i'+1)) (fun k hk=>h.mono (i'+1+k) (by omega)) (i - (i'+1)) (Nat.le_refl _)
    simp only [Nat.add_zero] at this
    rw [show i'+1+(i - (i'+1))=i by omega] at this
    omega
   ·left
    have hi'':i' < xs.length:=by simpa using hi'
    have:=hup1 (i' - (i+1)) (by omega)
    rw [show i+1+(i' - (i+1))=i' by omega] at this
    omega
end
end Go.Proofs.YtkhmjidaeliccaaGreatDoor
namespace Go.Proofs.YtkhmjidaeliccaaGreatDoor
open Go.RowKit Go.Maps Go.WideMaps Tl
section
variable {es:List Ent} {x:Ent} {i:Nat} {f:Bool}
theorem take_lt (h:SrchE es x.codes i f):(es.take i).filter (fun y=>decide (cmpL y.codes x.codes < 0))=es.take i∧(es.take i).filter (fun y=>decide (0 < cmpL y.codes x.codes))=[]:=by
 have hall:∀y ∈ es.take i,cmpL y.codes x.codes < 0:=fun y hy=>by
  obtain ⟨t,ht,rfl⟩:=List.getElem_of_mem hy
  rw [List.getElem_take]
  have:=h.le
  rw [List.length_take] at ht
  exact h.lo t (by omega) (by omega)
 exact ⟨List.filter_eq_self.2 fun y hy=>by simpa using hall y hy,List.filter_eq_nil_iff.2 fun y hy=>by have:=hall y hy;simp;omega⟩
theorem drop_ge (h:SrchE es x.codes i f):(es.drop i).filter (fun y=>decide (cmpL y.codes x.codes < 0))=[]:=by
 refine List.filter_eq_nil_iff.2 fun y hy=>?_
 obtain ⟨t,ht,rfl⟩:=List.getElem_of_mem hy
 rw [List.getElem_drop]
 have ht2:i+t < es.length:=by rw [List.length_drop] at ht;omega
 have:=h.hi (i+t) ht2 (by omega)
 simp
 omega
theorem put_new (hs:es.Pairwise (fun x y=>cmpL x.codes y.codes < 0)) (h:SrchE es x.codes i false):insE es i x=putE es x:=by
 obtain ⟨e1,e2⟩:=take_lt h
 have e3:=drop_ge h
 have hnf:¬∃g:i < es.length,cmpL es[i].codes x.codes=0:=by simpa using h.fd.symm
 unfold putE insE
 conv=>rhs;rw [←List.take_append_drop i es]
 rw [List.filter_append,List.filter_append,e1,e2,e3,List.append_nil,List.nil_append]
 congr 2
 refine (List.filter_eq_self.2 fun y hy=>?_).symm
 obtain ⟨t,ht,rfl⟩:=List.getElem_of_mem hy
 have ht2:i+t < es.length:=by rw [List.length_drop] at ht;omega
 rw [List.getElem_drop]
 have h1:=h.hi (i+t) ht2 (by omega)
 simp only [decide_eq_true_eq]
 refine Int.lt_iff_le_and_ne.2 ⟨h1,fun e=>?_⟩
 have hc:=(cmpL_eq_zero _ _).1 e.symm
 by_cases ht0:t=0
 ·subst ht0
  exact hnf ⟨by omega,e.symm⟩
 ·have h2:=List.pairwise_iff_getElem.1 hs i (i+t) (by omega) ht2 (by omega)
  rw [hc] at h2
  have h3:=h.hi i (by omega) (Nat.le_refl _)
  omega
theorem put_old (hs:es.Pairwise (fun x y=>cmpL x.codes y.codes < 0)) (h:SrchE es x.codes i true):∃hi:i < es.length,es[i].codes=x.codes∧es.set i x=putE es x:=by
 obtain ⟨e1,e2⟩:=take_lt h
 have e3:=drop_ge h
 obtain ⟨hi,h0⟩:∃g:i < es.length,cmpL es[i].codes x.codes=0:=by simpa using h.fd.symm
 have hc:=(cmpL_eq_zero _ _).1 h0
 refine ⟨hi,hc,?_⟩
 unfold putE
 conv=>rhs;rw [←List.take_append_drop i es]
 rw [List.filter_append,List.filter_append,e1,e2,e3,List.append_nil,List.nil_append]
 rw [List.set_eq_take_append_cons_drop,if_pos hi]
 congr 2
 rw [List.drop_eq_getElem_cons hi,List.filter_cons,if_neg (by simp [h0])]
 refine (List.filter_eq_self.2 fun y hy=>?_).symm
 obtain ⟨t,ht,rfl⟩:=List.getElem_of_mem hy
 have ht2:i+1+t < es.length:=by rw [List.length_drop] at ht;omega
 rw [List.getElem_drop]
 have h1:=List.pairwise_iff_getElem.1 hs i (i+1+t) hi ht2 (by omega)
 rw [hc] at h1
 simp only [decide_eq_true_eq]
 rw [Pk.cmp_neg]
 omega
end
theorem insE_len {α:Type} {xs:List α} {i:Nat} (hi:i≤xs.length) (x:α):(insE xs i x).length=xs.length+1:=by unfold insE;simp;omega
theorem insE_lo {α:Type} {xs:List α} {i j:Nat} (x:α) (hj:j < i) (hi:j < xs.length) (h:j < (insE xs i x).length):(insE xs i x)[j]=xs[j]:=by
 have e:(insE xs i x)[j]?=xs[j]?:=by unfold insE;rw [List.getElem?_append_left (by simp;omega),List.getElem?_take,if_pos hj]
 rw [List.getElem?_eq_getElem h,List.getElem?_eq_getElem hi] at e
 exact Option.some.inj e
theorem insE_eq {α:Type} {xs:List α} {i:Nat} (x:α) (hi:i≤xs.length) (h:i < (insE xs i x).length):(insE xs i x)[i]=x:=by
 have e:(insE xs i x)[i]?=some x:=by
  unfold insE
  rw [List.getElem?_append_right (by simp;omega)]
  simp [Nat.min_eq_left hi]
 rw [List.getElem?_eq_getElem h] at e
 exact Option.some.inj e
theorem insE_hi {α:Type} {xs:List α} {i j:Nat} (x:α) (hj:i < j) (hi:j - 1 < xs.length) (h:j < (insE xs i x).length):(insE xs i x)[j]=xs[j - 1]:=by
 have e:(insE xs i x)[j]?=xs[j - 1]?:=by
  unfold insE
  rw [List.getElem?_append_right (by simp;omega)]
  have hm:(xs.take i).length=i:=by simp;omega
  rw [hm,show j - i=(j - i - 1)+1 by omega,List.getElem?_cons_succ,List.getElem?_drop,show i+(j - i - 1)=j - 1 by omega]
 rw [List.getElem?_eq_getElem h,List.getElem?_eq_getElem hi] at e
 exact Option.some.inj e
section
variable {w w':World} {base z:Nat} {A:Option Addr} {cap:Nat} {vs:List (Value × Value)} {m:Nat→Nat} {top:Nat} {xs:List Ent}
theorem OpV.hdr (h:OpV w base z A cap vs m top xs) (hg:w.grownBy w' (blk A)):∀i,(hi:i < xs.length)→(hv:i < vs.length)→EntV w' vs[i] xs[i]:=fun i hi hv=>by
 obtain ⟨C,c,E,d,e1,e2,e3,e4,e5,e6⟩:=h.rows i hi hv
 have hm:=mono_up h.mono i (by omega)
 refine ⟨C,c,E,d,e1,Sl.of_own (e2.kept hg ?_),Sl.of_own (e3.kept hg ?_)⟩
 ·rw [ownBlock_blk]
  cases hc:blk C with
  | none=>exact .inl rfl
  | some q=>exact .inr (fun e=>by have:=h.bm q e.symm;have:=(own_blk e2 hc).1;omega)
 ·rw [ownBlock_blk]
  cases hc:blk E with
  | none=>exact .inl rfl
  | some q=>exact .inr (fun e=>by have:=h.bm q e.symm;have:=(own_blk e3 hc).1;omega)
theorem own_chg {Z:Nat→Prop} {base:Nat} {e:TypeId} {size n c:Nat} {A:Option Addr} {cs:List Value} {w w':World} (h:w.ownsRow base e size (.slice A n c) n cs) (hc:Chg Z w w') (hn:∀q,blk A=some q→¬Z q):w'.ownsRow base e size (.slice A n c) n cs:=by
 refine ⟨h.1,?_⟩
 rcases h.2 with h2 | ⟨g,cap,cur,h1,h2,h3,h4⟩
 ·exact .inl h2
 ·refine .inr ⟨g,cap,cur,h1,h2,?_,h4⟩
  injection h1 with h1
  exact (hc.block g (Box.lt (w:=w) (t:=e) (cs:=cur.toList) (by simpa [Box] using h3)) (hn g (by rw [h1];rfl))).trans h3
theorem OpV.hdr2 {w2:World} {Z:Nat→Prop} (h:OpV w base z A cap vs m top xs) (hg:w.grownBy w' (blk A)) (hg2:Chg Z w' w2) (hzb:∀q,Z q→q < base):∀i,(hi:i < xs.length)→(hv:i < vs.length)→EntV w2 vs[i] xs[i]:=fun i hi hv=>by
 obtain ⟨C,c,E,d,e1,e2,e3,e4,e5,e6⟩:=h.rows i hi hv
 have hm:=mono_up h.mono i (by omega)
 obtain ⟨g,hA,hg1,_⟩:=own_at h.row (by omega)
 have hgm:=h.bm g (by rw [hA];rfl)
 have kp:∀(K:Option Addr) (q:Nat),blk K=some q→m i≤q→some q≠blk A:=fun K q hq hle e=>by have:=h.bm q e.symm;omega
 have kz:∀q,m i≤q→¬Z q:=fun q hle e=>by have:=hzb q e;omega
 refine ⟨C,c,E,d,e1,Sl.of_own (own_chg (e2.kept hg ?_) hg2 (fun q hq=>kz q (own_blk e2 hq).1)),Sl.of_own (own_chg (e3.kept hg ?_) hg2 (fun q hq=>kz q (own_blk e3 hq).1))⟩
 ·rw [ownBlock_blk]
  cases hc:blk C with
  | none=>exact .inl rfl
  | some q=>exact .inr (kp C q hc (own_blk e2 hc).1)
 ·rw [ownBlock_blk]
  cases hc:blk E with
  | none=>exact .inl rfl
  | some q=>exact .inr (kp E q hc (own_blk e3 hc).1)
theorem sl_keep2 {C:Option Addr} {cs:List Value} {w2:World} {Z:Nat→Prop} (h:Sl w C cs) (hg:w.grownBy w' (blk A)) (hg2:Chg Z w' w2) (hne:cs≠[]→∀q,blk C=some q→blk A≠some q∧¬Z q):Sl w2 C cs:=
 ((Chg.of_grown (S:=fun q=>blk A=some q∨Z q) hg (fun _ e=>.inl e)).trans (hg2.mono (fun _ _ e=>.inr e))).sl h (fun hn q hq hS=>by
  rcases hS with g | g
  ·exact (hne hn q hq).1 g
  ·exact (hne hn q hq).2 g)
theorem sl_keep {C:Option Addr} {cs:List Value} (h:Sl w C cs) (hg:w.grownBy w' (blk A)) (hne:cs≠[]→∀q,blk C=some q→blk A≠some q):Sl w' C cs:=
 (Chg.of_grown (S:=fun q=>blk A=some q) hg (fun _ e=>e)).sl h hne
theorem ents_ins {base' k i:Nat} {A':Option Addr} {y:Value × Value} {x:Ent} (hl:vs.length=xs.length) (hh:∀j,(hj:j < xs.length)→(hv:j < vs.length)→EntV w' vs[j] xs[j]) (hx:EntV w' y x) (hi:i≤xs.length) (ho:w'.ownsRow base' 75 2 (.slice A' (xs.length+1) k) (xs.length+1) (flatK enC (insE vs i y))):Ents w' A' (insE xs i x):=by
 refine ⟨insE vs i y,by rw [insE_len (by omega),insE_len hi,hl],Sl.of_own ho,fun j hj hv=>?_⟩
 rw [insE_len hi] at hj
 rcases Nat.lt_trichotomy j i with h1 | h1 | h1
 ·rw [insE_lo y h1 (by omega),insE_lo x h1 (by omega)];exact hh j (by omega) (by omega)
 ·subst h1;rw [insE_eq y (by omega),insE_eq x hi];exact hx
 ·rw [insE_hi y h1 (by omega),insE_hi x h1 (by omega)];exact hh (j - 1) (by omega) (by omega)
theorem ents_set {base' k i:Nat} {A':Option Addr} {y:Value × Value} {x:Ent} (hl:vs.length=xs.length) (hh:∀j,(hj:j < xs.length)→(hv:j < vs.length)→EntV w' vs[j] xs[j]) (hx:EntV w' y x) (ho:w'.ownsRow base' 75 2 (.slice A' xs.length k) xs.length (flatK enC (vs.set i y))):Ents w' A' (xs.set i x):=by
 refine ⟨vs.set i y,by simp [hl],Sl.of_own ho,fun j hj hv=>?_⟩
 by_cases e:i=j
 ·subst e;rw [List.getElem_set_self,List.getElem_set_self];exact hx
 ·rw [List.getElem_set_ne e,List.getElem_set_ne e];exact hh j (by simpa using hj) (by simpa using hv)
end
end Go.Proofs.YtkhmjidaeliccaaGreatDoor
namespace Go.Proofs.YtkhmjidaeliccaaGreatDoor
open Go.RowKit Go.Maps Go.WideMaps Tl
theorem results_colk {k:Nat} {fn:Func} (hr:fn.results=#[.cell k 32]) (tmps:Array Value) (w:World) {b:Nat} {v0 v1 v2 v3 v4:Value} (ha:tmps.getD k undef=.pointer (some ⟨b,0,none⟩))
  (c0:w.cell? ⟨b,0,none⟩=some v0) (c1:w.cell? ⟨b,1,none⟩=some v1) (c2:w.cell? ⟨b,2,none⟩=some v2) (c3:w.cell? ⟨b,3,none⟩=some v3) (c4:w.cell? ⟨b,4,none⟩=some v4) :
  (results fn tmps).run Tryz.prog w=.ok (.agg #[v0,v1,v2,v3,v4]) w:=by
 unfold results
 rw [hr]
 simp only [ha,List.mapM_toArray,List.mapM_cons,List.mapM_nil,asAddr]
 go_simp
theorem one_hdr {w:World} {base z:Nat} {A:Option Addr} {cap:Nat} {vs:List (Value × Value)} {m:Nat→Nat} {top:Nat} {xs:List Ent} (h:OpV w base z A cap vs m top xs):∀v ∈ flatK enC vs,v.oneCell'=true:=by
 intro u hu
 obtain ⟨p,hp,hg⟩:=List.mem_flatMap.1 hu
 obtain ⟨j,hj,rfl⟩:=List.getElem_of_mem hp
 obtain ⟨C,c,E,d,e,_⟩:=h.rows j (by have:=h.len;omega) hj
 simp only [enC,List.mem_cons,List.not_mem_nil,or_false] at hg
 rcases hg with rfl | rfl
 ·rw [e];rfl
 ·rw [e];rfl
def RetPl (base:Nat) (D E:Option Addr) (A:Option Addr) (B:Option Addr) (b:Nat) (c:Col) (x:Ent) (w:World) (e:Ending) (w':World):Prop:=∃A' a',e=.returned (colV A' (putE c.ents x).length a' B c.grps.length b { c with ents:=putE c.ents x })∧ColAt w' A' (putE c.ents x).length B c.grps.length { c with ents:=putE c.ents x }∧w.grownBy w' (blk A)∧∀Z W',Chg Z w' W'→(∀q,Z q→q < base∧q < w.heap.size∧blk B≠some q∧blk D≠some q∧blk E≠some q)→ColAt W' A' (putE c.ents x).length B c.grps.length { c with ents:=putE c.ents x }
theorem placed_any (base zz:Nat) (A:Option Addr) (a:Nat) (vs:List (Value × Value)) (m:Nat→Nat) (top:Nat) (c:Col) (B:Option Addr) (b:Nat) (D:Option Addr) (dk:Nat) (d:List Int) (E:Option Addr) (ek:Nat) (el:List Elt) (w:World)
  (hO:OpV w base zz A a vs m top c.ents) (hG:Grps w B c.grps) (hGB:c.grps≠[]→∀q,blk B=some q→blk A≠some q) (hD:Ints w D d) (hDA:d≠[]→∀q,blk D=some q→blk A≠some q) (hE:Elts w E el) (hEA:el≠[]→∀q,blk E=some q→blk A≠some q)
  (hs:c.ents.Pairwise (fun x y=>cmpL x.codes y.codes < 0)) (hcz:ColSz c) (hdl:d.length≤1048576) (hnm:∀g ∈ c.grps,g.name.size≤9223372036854775807) (hbw:base≤w.heap.size) :
  Calls Tryz.prog 37 #[colV A c.ents.length a B c.grps.length b c,.slice D d.length dk,.slice E el.length ek] w (RetPl base D E A B b c ⟨d,el⟩ w):=by
 have B0:Below w.heap.size w (((w.alloc (.cells #[.slice A c.ents.length a,.slice B c.grps.length b,.int .i64 c.base,.int .i64 c.second,.int .i64 c.third] 32)).alloc (.cells #[.slice none 0 0,.slice none 0 0,.int .i64 0,.int .i64 0,.int .i64 0] 32)).alloc (.cells #[.slice D d.length dk,.slice E el.length ek] 75)):=(((Below.refl _ _).alloc (Nat.le_refl _) _).alloc (by simp) _).alloc (by simp;omega) _
 have X0:Box (((w.alloc (.cells #[.slice A c.ents.length a,.slice B c.grps.length b,.int .i64 c.base,.int .i64 c.second,.int .i64 c.third] 32)).alloc (.cells #[.slice none 0 0,.slice none 0 0,.int .i64 0,.int .i64 0,.int .i64 0] 32)).alloc (.cells #[.slice D d.length dk,.slice E el.length ek] 75)) w.heap.size 32 [.slice A c.ents.length a,.slice B c.grps.length b,.int .i64 c.base,.int .i64 c.second,.int .i64 c.third]:=((Box.new w 32 [.slice A c.ents.length a,.slice B c.grps.length b,.int .i64 c.base,.int .i64 c.second,.int .i64 c.third] rfl).below ((Below.refl _ _).alloc (Nat.le_refl _) _) (by simp)).below ((Below.refl _ _).alloc (Nat.le_refl _) _) (by simp;omega)
 have X1:Box (((w.alloc (.cells #[.slice A c.ents.length a,.slice B c.grps.length b,.int .i64 c.base,.int .i64 c.second,.int .i64 c.third] 32)).alloc (.cells #[.slice none 0 0,.slice none 0 0,.int .i64 0,.int .i64 0,.int .i64 0] 32)).alloc (.cells #[.slice D d.length dk,.slice E el.length ek] 75)) (w.heap.size+1) 32 [.slice none 0 0,.slice none 0 0,.int .i64 0,.int .i64 0,.int .i64 0]:=(Box.new (w.alloc (.cells #[.slice A c.ents.length a,.slice B c.grps.length b,.int .i64 c.base,.int .i64 c.second,.int .i64 c.third] 32)) 32 [.slice none 0 0,.slice none 0 0,.int .i64 0,.int .i64 0,.int .i64 0] (by simp)).below ((Below.refl _ _).alloc (Nat.le_refl _) _) (by simp)
 have X2:Box (((w.alloc (.cells #[.slice A c.ents.length a,.slice B c.grps.length b,.int .i64 c.base,.int .i64 c.second,.int .i64 c.third] 32)).alloc (.cells #[.slice none 0 0,.slice none 0 0,.int .i64 0,.int .i64 0,.int .i64 0] 32)).alloc (.cells #[.slice D d.length dk,.slice E el.length ek] 75)) (w.heap.size+2) 75 [.slice D d.length dk,.slice E el.length ek]:=Box.new ((w.alloc (.cells #[.slice A c.ents.length a,.slice B c.grps.length b,.int .i64 c.base,.int .i64 c.second,.int .i64 c.third] 32)).alloc (.cells #[.slice none 0 0,.slice none 0 0,.int .i64 0,.int .i64 0,.int .i64 0] 32)) 75 [.slice D d.length dk,.slice E el.length ek] (by simp)
 have W0E:∃W0,(((w.alloc (.cells #[.slice A c.ents.length a,.slice B c.grps.length b,.int .i64 c.base,.int .i64 c.second,.int .i64 c.third] 32)).alloc (.cells #[.slice none 0 0,.slice none 0 0,.int .i64 0,.int .i64 0,.int .i64 0] 32)).alloc (.cells #[.slice D d.length dk,.slice E el.length ek] 75))=W0:=⟨_,rfl⟩
 have KS:=Lib.hid (fun W (hb:Below w.heap.size w W)=>bsearchE_any A c.ents.length a D d.length dk c.ents d W ((hO.below hb).close.into.is) (hD.below hb) rfl rfl hcz.n hdl (fun i hi=>(hcz.e i hi).1) hs)
 unfold RetSrchE at KS
 have HO:=Lib.hid hO
 have HG:=Lib.hid hG
 have HGB:=Lib.hid hGB
 have HD:=Lib.hid hD
 have HDA:=Lib.hid hDA
 have HE:=Lib.hid hE
 have HEA:=Lib.hid hEA
 have HPN:=Lib.hid (fun i h=>put_new (es:=c.ents) (x:=⟨d,el⟩) (i:=i) hs h)
 have HPO:=Lib.hid (fun i h=>put_old (es:=c.ents) (x:=⟨d,el⟩) (i:=i) hs h)
 have HNM:=Lib.hid hnm
 have hcn:=hcz.n
 clear hO hG hGB hD hDA hE hEA hs hnm hcz
 unfold colV
 go_enter Tryz.func37,Tryz.ntmps37
 go_upto_region 2 with (fail)
 obtain ⟨W0,hW0⟩:=W0E
 try rw [hW0] at B0 X0 X1 X2 ⊢
 clear hW0
 have k0:=X0.cell (i:=0) rfl
 have l0:=X0.lt
 have l1:=X1.lt
 have l2:=X2.lt
 have hw0:=B0.size
 have HB0:=Lib.hid B0
 have HX0:=Lib.hid X0
 have HX1:=Lib.hid X1
 have HX2:=Lib.hid X2
 have KS2:=Lib.hid (KS.out W0 B0)
 clear X0 X1 X2 B0 KS
 go_wp2_with fail
 with_reducible refine KS2.out.mono ?_
 rintro e W1 ⟨i,f,rfl,hsr,hb1⟩
 have HSR:=Lib.hid hsr
 have hile:=hsr.le
 have hs1:=hb1.size
 have hB1:=HB0.out.trans (hb1.mono hw0)
 have HO1:=Lib.hid (HO.out.below hB1)
 have X0w:=Lib.hid (HX0.out.below hb1 l0)
 have X1w:=Lib.hid (HX1.out.below hb1 l1)
 have X2w:=Lib.hid (HX2.out.below hb1 l2)
 have HB1:=Lib.hid hB1
 clear hsr hb1 hB1 KS2 k0
 cases f with
 | true=>
  obtain ⟨hi,hcd,hset⟩:=HPO.out i HSR.out
  have hvl:=HO.out.len
  obtain ⟨gA,C,cc,E0,ec,rfl,hg1,hg2,hve,ca,cb⟩:=HO1.out.at hi (by omega)
  have hgw:gA < w.heap.size:=(own_blk HO.out.row rfl).2
  have fa:W1.frozen? ⟨gA,i*2,none⟩=false:=HO1.out.row.frozenAt _
  have fb:W1.frozen? ⟨gA,i*2+1,none⟩=false:=HO1.out.row.frozenAt _
  have x0:=X0w.out.cell (i:=0) rfl
  have y0:=X2w.out.cell (i:=0) rfl
  have y1:=X2w.out.cell (i:=1) rfl
  have hne0:¬gA=w.heap.size:=by omega
  have hne1:¬gA=w.heap.size+1:=by omega
  have hne2:¬gA=w.heap.size+2:=by omega
  have hii:(i:Int) < (c.ents.length:Int):=by omega
  have R1:=(HO1.out.row.stored (i*2+0) (.slice D d.length dk)).1
  rw [flatK_set enC 2 (fun _=>rfl) vs i 0 _ (.slice D d.length dk,vs[i].2) (by omega) (by omega) rfl] at R1
  have R2:=(R1.stored (i*2+1) (.slice E el.length ek)).1
  rw [flatK_set enC 2 (fun _=>rfl) (vs.set i (.slice D d.length dk,vs[i].2)) i 1 _ (.slice D d.length dk,.slice E el.length ek) (by simp;omega) (by omega) (by rw [List.getElem_set_self];rfl),List.set_set] at R2
  simp only [Nat.add_zero] at R2
  have G2:w.grownBy ((W1.setCell ⟨gA,i*2,none⟩ (.slice D d.length dk)).setCell ⟨gA,i*2+1,none⟩ (.slice E el.length ek)) (some gA):=gr_set (p:=⟨gA,i*2+1,none⟩) (gr_set (p:=⟨gA,i*2,none⟩) (grownR_below (grownR_refl w _) HB1.out) _) _
  have X0y:=bx_ne (bx_ne X0w.out ⟨gA,i*2,none⟩ (fun e=>hne0 e.symm) (.slice D d.length dk)) ⟨gA,i*2+1,none⟩ (fun e=>hne0 e.symm) (.slice E el.length ek)
  have X1y:=bx_ne (bx_ne X1w.out ⟨gA,i*2,none⟩ (fun e=>hne1 e.symm) (.slice D d.length dk)) ⟨gA,i*2+1,none⟩ (fun e=>hne1 e.symm) (.slice E el.length ek)
  have WE:∃W2,((W1.setCell ⟨gA,i*2,none⟩ (.slice D d.length dk)).setCell ⟨gA,i*2+1,none⟩ (.slice E el.length ek))=W2:=⟨_,rfl⟩
  have hpl:(putE c.ents ⟨d,el⟩).length=c.ents.length:=by rw [←hset,List.length_set]
  have HSET:=Lib.hid hset
  have HPL:=Lib.hid hpl
  clear hset hpl hcd hve R1
  go_upto_region 6 with (fail)
  obtain ⟨W2,hW2⟩:=WE
  try rw [hW2] at R2 G2 X0y X1y ⊢
  clear hW2 ca cb fa fb x0 y0 y1
  have X1w:=Lib.hid X1y
  have HR:=Lib.hid R2
  have HG2:=Lib.hid G2
  have HNE:=Lib.hid (show some gA≠some (w.heap.size+1) from fun e=>hne1 (Option.some.inj e))
  have c0:=X0y.cell (i:=0) rfl
  have c1:=X0y.cell (i:=1) rfl
  have c2:=X0y.cell (i:=2) rfl
  have c3:=X0y.cell (i:=3) rfl
  have c4:=X0y.cell (i:=4) rfl
  have f0:=X1y.free 0
  have g0:=X1y.cell (i:=0) rfl
  have f1:=X1y.free 1
  have g1:=X1y.cell (i:=1) rfl
  have f2:=X1y.free 2
  have g2:=X1y.cell (i:=2) rfl
  have f3:=X1y.free 3
  have g3:=X1y.cell (i:=3) rfl
  have f4:=X1y.free 4
  have g4:=X1y.cell (i:=4) rfl
  have ZF:Box (((((W2.setCell ⟨w.heap.size+1,0,none⟩ (.slice (some ⟨gA,0,none⟩) c.ents.length a)).setCell ⟨w.heap.size+1,1,none⟩ (.slice B c.grps.length b)).setCell ⟨w.heap.size+1,2,none⟩ (.int .i64 c.base)).setCell ⟨w.heap.size+1,3,none⟩ (.int .i64 c.second)).setCell ⟨w.heap.size+1,4,none⟩ (.int .i64 c.third)) (w.heap.size+1) 32 [.slice (some ⟨gA,0,none⟩) c.ents.length a,.slice B c.grps.length b,.int .i64 c.base,.int .i64 c.second,.int .i64 c.third]:=(((((X1w.out.set 0 (.slice (some ⟨gA,0,none⟩) c.ents.length a)).set 1 (.slice B c.grps.length b)).set 2 (.int .i64 c.base)).set 3 (.int .i64 c.second)).set 4 (.int .i64 c.third))
  have GF:W2.grownBy (((((W2.setCell ⟨w.heap.size+1,0,none⟩ (.slice (some ⟨gA,0,none⟩) c.ents.length a)).setCell ⟨w.heap.size+1,1,none⟩ (.slice B c.grps.length b)).setCell ⟨w.heap.size+1,2,none⟩ (.int .i64 c.base)).setCell ⟨w.heap.size+1,3,none⟩ (.int .i64 c.second)).setCell ⟨w.heap.size+1,4,none⟩ (.int .i64 c.third)) (some (w.heap.size+1)):=gr_set (p:=⟨w.heap.size+1,4,none⟩) (gr_set (p:=⟨w.heap.size+1,3,none⟩) (gr_set (p:=⟨w.heap.size+1,2,none⟩) (gr_set (p:=⟨w.heap.size+1,1,none⟩) (gr_set (p:=⟨w.heap.size+1,0,none⟩) (grownR_refl W2 _) _) _) _) _) _
  have GW:w.grownBy (((((W2.setCell ⟨w.heap.size+1,0,none⟩ (.slice (some ⟨gA,0,none⟩) c.ents.length a)).setCell ⟨w.heap.size+1,1,none⟩ (.slice B c.grps.length b)).setCell ⟨w.heap.size+1,2,none⟩ (.int .i64 c.base)).setCell ⟨w.heap.size+1,3,none⟩ (.int .i64 c.second)).setCell ⟨w.heap.size+1,4,none⟩ (.int .i64 c.third)) _:=(gr_new (gr_new (gr_new (gr_new (gr_new HG2.out ⟨w.heap.size+1,0,none⟩ (by dsimp only;omega) (.slice (some ⟨gA,0,none⟩) c.ents.length a)) ⟨w.heap.size+1,1,none⟩ (by dsimp only;omega) (.slice B c.grps.length b)) ⟨w.heap.size+1,2,none⟩ (by dsimp only;omega) (.int .i64 c.base)) ⟨w.heap.size+1,3,none⟩ (by dsimp only;omega) (.int .i64 c.second)) ⟨w.heap.size+1,4,none⟩ (by dsimp only;omega) (.int .i64 c.third))
  have WFE:∃Wf,(((((W2.setCell ⟨w.heap.size+1,0,none⟩ (.slice (some ⟨gA,0,none⟩) c.ents.length a)).setCell ⟨w.heap.size+1,1,none⟩ (.slice B c.grps.length b)).setCell ⟨w.heap.size+1,2,none⟩ (.int .i64 c.base)).setCell ⟨w.heap.size+1,3,none⟩ (.int .i64 c.second)).setCell ⟨w.heap.size+1,4,none⟩ (.int .i64 c.third))=Wf:=⟨_,rfl⟩
  clear X0y X1y R2 G2
  go_wp2_with fail
  obtain ⟨Wf,hWf⟩:=WFE
  try rw [hWf] at ZF GF GW ⊢
  clear hWf
  have z0:=ZF.cell (i:=0) rfl
  have z1:=ZF.cell (i:=1) rfl
  have z2:=ZF.cell (i:=2) rfl
  have z3:=ZF.cell (i:=3) rfl
  have z4:=ZF.cell (i:=4) rfl
  (try simp only [Exit.inBlock,Exit.then])
  refine bodyPost_ret (results_colk rfl _ _ (b:=w.heap.size+1) rfl z0 z1 z2 z3 z4) rfl ?_
  have hR:=HR.out.kept GF (.inr HNE.out)
  have hx:EntV Wf (.slice D d.length dk,.slice E el.length ek) ⟨d,el⟩:=⟨D,dk,E,ek,rfl,sl_keep (A:=some ⟨gA,0,none⟩) HD.out GW (fun h=>HDA.out (by rintro rfl;exact h rfl)),sl_keep (A:=some ⟨gA,0,none⟩) HE.out GW (fun h=>HEA.out (by rintro rfl;exact h rfl))⟩
  have hents:=ents_set (i:=i) HO.out.len (HO.out.hdr GW) hx hR
  rw [HSET.out] at hents
  refine ⟨some ⟨gA,0,none⟩,a,by rw [HPL.out];rfl,⟨hents,sl_keep (A:=some ⟨gA,0,none⟩) HG.out GW (fun h=>HGB.out (by rintro e;rw [e] at h;exact h rfl)),rfl,rfl,HNM.out⟩,GW,fun Z W' g2 hZ=>?_⟩
  have hR2:=own_chg hR g2 (fun q e z=>by have e:gA=q:=Option.some.inj e;have:=(hZ q z).1;have:=(own_blk HO.out.row (A:=some ⟨gA,0,none⟩) rfl).1;omega)
  have hx2:EntV W' (.slice D d.length dk,.slice E el.length ek) ⟨d,el⟩:=⟨D,dk,E,ek,rfl,sl_keep2 (A:=some ⟨gA,0,none⟩) HD.out GW g2 (fun h q hq=>⟨HDA.out (by rintro rfl;exact h rfl) q hq,fun z=>(hZ q z).2.2.2.1 hq⟩),sl_keep2 (A:=some ⟨gA,0,none⟩) HE.out GW g2 (fun h q hq=>⟨HEA.out (by rintro rfl;exact h rfl) q hq,fun z=>(hZ q z).2.2.2.2 hq⟩)⟩
  have hents2:=ents_set (i:=i) HO.out.len (HO.out.hdr2 GW g2 (fun q z=>(hZ q z).1)) hx2 hR2
  rw [HSET.out] at hents2
  exact ⟨hents2,sl_keep2 (A:=some ⟨gA,0,none⟩) HG.out GW g2 (fun h q hq=>⟨HGB.out (by rintro e;rw [e] at h;exact h rfl) q hq,fun z=>(hZ q z).2.2.1 hq⟩),rfl,rfl,HNM.out⟩
 | false=>
  have hput:=HPN.out i HSR.out
  have hvl:=HO.out.len
  have hAlt:∀q,blk A=some q→q < w.heap.size:=fun q hq=>(own_blk HO.out.row hq).2
  have hA0:some w.heap.size≠blk A:=fun e=>by have:=hAlt _ e.symm;omega
  have hA1:some (w.heap.size+1)≠blk A:=fun e=>by have:=hAlt _ e.symm;omega
  have x0:=X0w.out.cell (i:=0) rfl
  have y0:=X2w.out.cell (i:=0) rfl
  have y1:=X2w.out.cell (i:=1) rfl
  have BV:Below W1.heap.size W1 (W1.alloc (.cells #[.slice D d.length dk,.slice E el.length ek] 75)):=(Below.refl _ _).alloc (Nat.le_refl _) _
  have XV:Box (W1.alloc (.cells #[.slice D d.length dk,.slice E el.length ek] 75)) W1.heap.size 75 [(Value.slice D d.length dk,Value.slice E el.length ek).1,(Value.slice D d.length dk,Value.slice E el.length ek).2]:=Box.new W1 75 [.slice D d.length dk,.slice E el.length ek] rfl
  have HBV:=Lib.hid BV
  have KI:=Lib.hid (insE_any A c.ents.length a base i vs (.slice D d.length dk,.slice E el.length ek) W1.heap.size 1 (W1.alloc (.cells #[.slice D d.length dk,.slice E el.length ek] 75)) (own_keep HO1.out.row BV) (by have:=BV.size;omega) hvl hile XV (fun g hg=>by have:=hAlt g hg;omega) hcn (one_hdr HO.out) ⟨rfl,rfl⟩)
  unfold RetInsE at KI
  have HPUT:=Lib.hid hput
  have HPL:=Lib.hid (show (putE c.ents ⟨d,el⟩).length=c.ents.length+1 from by rw [←hput,insE_len hile])
  have HVL:=Lib.hid hvl
  have HA0:=Lib.hid hA0
  have HA1:=Lib.hid hA1
  have HAL:=Lib.hid hAlt
  have hm1:=BV.size
  clear hput hvl hAlt hA0 hA1 BV XV
  go_wp2_with fail
  with_reducible refine KI.out.mono ?_
  rintro e W3 ⟨A',a',rfl,hrow,hgr,hBl⟩
  have HG1:=grownR_trans (grownR_below (grownR_below (grownR_refl w _) HB1.out) HBV.out) hgr
  have X0z:=(X0w.out.below HBV.out X0w.out.lt).grown hgr HA0.out
  have X1z:=(X1w.out.below HBV.out X1w.out.lt).grown hgr HA1.out
  rw [HVL.out] at hrow ⊢
  have hBl0:Value.ownBlock (.slice A' (c.ents.length+1) a')≠some w.heap.size∧Value.ownBlock (.slice A' (c.ents.length+1) a')≠some (w.heap.size+1):=by
   rw [ownBlock_blk]
   rcases hBl with h | h
   ·rw [h];exact ⟨fun e=>by have:=HAL.out _ e;omega,fun e=>by have:=HAL.out _ e;omega⟩
   ·rw [h];exact ⟨fun e=>by injection e with e;have h1:=HBV.out.size;have h2:(W1.alloc (.cells #[.slice D d.length dk,.slice E el.length ek] 75)).heap.size=W1.heap.size+1:=(by simp);omega,fun e=>by injection e with e;have h2:(W1.alloc (.cells #[.slice D d.length dk,.slice E el.length ek] 75)).heap.size=W1.heap.size+1:=(by simp);omega⟩
  have HBL:=Lib.hid hBl
  have HW1:=Lib.hid (show w.heap.size≤(W1.alloc (.cells #[.slice D d.length dk,.slice E el.length ek] 75)).heap.size from by have:=HBV.out.size;omega)
  have x9:=X0z.cell (i:=0) rfl
  have f9:=X0z.free 0
  have X0y:=X0z.set 0 (.slice A' (c.ents.length+1) a')
  have X1y:=bx_ne X1z ⟨w.heap.size,0,none⟩ (by dsimp only;omega) (.slice A' (c.ents.length+1) a')
  have R2:=hrow.kept (grown_set W3 ⟨w.heap.size,0,none⟩ (.slice A' (c.ents.length+1) a')) (.inr hBl0.1)
  have G2:=gr_new HG1 ⟨w.heap.size,0,none⟩ (Nat.le_refl _) (.slice A' (c.ents.length+1) a')
  have HNE:=Lib.hid hBl0.2
  have WE:∃W2,(W3.setCell ⟨w.heap.size,0,none⟩ (.slice A' (c.ents.length+1) a'))=W2:=⟨_,rfl⟩
  clear hrow hgr hBl hBl0 HG1 X0z X1z KI x0 y0 y1
  go_upto_region 6 with (fail)
  obtain ⟨W2,hW2⟩:=WE
  try rw [hW2] at R2 G2 X0y X1y ⊢
  clear hW2 x9 f9
  have X1w:=Lib.hid X1y
  have HR:=Lib.hid R2
  have HG2:=Lib.hid G2
  have c0:=X0y.cell (i:=0) rfl
  have c1:=X0y.cell (i:=1) rfl
  have c2:=X0y.cell (i:=2) rfl
  have c3:=X0y.cell (i:=3) rfl
  have c4:=X0y.cell (i:=4) rfl
  have f0:=X1y.free 0
  have g0:=X1y.cell (i:=0) rfl
  have f1:=X1y.free 1
  have g1:=X1y.cell (i:=1) rfl
  have f2:=X1y.free 2
  have g2:=X1y.cell (i:=2) rfl
  have f3:=X1y.free 3
  have g3:=X1y.cell (i:=3) rfl
  have f4:=X1y.free 4
  have g4:=X1y.cell (i:=4) rfl
  have ZF:Box (((((W2.setCell ⟨w.heap.size+1,0,none⟩ (.slice A' (c.ents.length+1) a')).setCell ⟨w.heap.size+1,1,none⟩ (.slice B c.grps.length b)).setCell ⟨w.heap.size+1,2,none⟩ (.int .i64 c.base)).setCell ⟨w.heap.size+1,3,none⟩ (.int .i64 c.second)).setCell ⟨w.heap.size+1,4,none⟩ (.int .i64 c.third)) (w.heap.size+1) 32 [.slice A' (c.ents.length+1) a',.slice B c.grps.length b,.int .i64 c.base,.int .i64 c.second,.int .i64 c.third]:=(((((X1w.out.set 0 (.slice A' (c.ents.length+1) a')).set 1 (.slice B c.grps.length b)).set 2 (.int .i64 c.base)).set 3 (.int .i64 c.second)).set 4 (.int .i64 c.third))
  have GF:W2.grownBy (((((W2.setCell ⟨w.heap.size+1,0,none⟩ (.slice A' (c.ents.length+1) a')).setCell ⟨w.heap.size+1,1,none⟩ (.slice B c.grps.length b)).setCell ⟨w.heap.size+1,2,none⟩ (.int .i64 c.base)).setCell ⟨w.heap.size+1,3,none⟩ (.int .i64 c.second)).setCell ⟨w.heap.size+1,4,none⟩ (.int .i64 c.third)) (some (w.heap.size+1)):=gr_set (p:=⟨w.heap.size+1,4,none⟩) (gr_set (p:=⟨w.heap.size+1,3,none⟩) (gr_set (p:=⟨w.heap.size+1,2,none⟩) (gr_set (p:=⟨w.heap.size+1,1,none⟩) (gr_set (p:=⟨w.heap.size+1,0,none⟩) (grownR_refl W2 _) _) _) _) _) _
  have GW:w.grownBy (((((W2.setCell ⟨w.heap.size+1,0,none⟩ (.slice A' (c.ents.length+1) a')).setCell ⟨w.heap.size+1,1,none⟩ (.slice B c.grps.length b)).setCell ⟨w.heap.size+1,2,none⟩ (.int .i64 c.base)).setCell ⟨w.heap.size+1,3,none⟩ (.int .i64 c.second)).setCell ⟨w.heap.size+1,4,none⟩ (.int .i64 c.third)) _:=(gr_new (gr_new (gr_new (gr_new (gr_new HG2.out ⟨w.heap.size+1,0,none⟩ (by dsimp only;omega) (.slice A' (c.ents.length+1) a')) ⟨w.heap.size+1,1,none⟩ (by dsimp only;omega) (.slice B c.grps.length b)) ⟨w.heap.size+1,2,none⟩ (by dsimp only;omega) (.int .i64 c.base)) ⟨w.heap.size+1,3,none⟩ (by dsimp only;omega) (.int .i64 c.second)) ⟨w.heap.size+1,4,none⟩ (by dsimp only;omega) (.int .i64 c.third))
  have WFE:∃Wf,(((((W2.setCell ⟨w.heap.size+1,0,none⟩ (.slice A' (c.ents.length+1) a')).setCell ⟨w.heap.size+1,1,none⟩ (.slice B c.grps.length b)).setCell ⟨w.heap.size+1,2,none⟩ (.int .i64 c.base)).setCell ⟨w.heap.size+1,3,none⟩ (.int .i64 c.second)).setCell ⟨w.heap.size+1,4,none⟩ (.int .i64 c.third))=Wf:=⟨_,rfl⟩
  clear X0y X1y R2 G2
  go_wp2_with fail
  obtain ⟨Wf,hWf⟩:=WFE
  try rw [hWf] at ZF GF GW ⊢
  clear hWf
  have z0:=ZF.cell (i:=0) rfl
  have z1:=ZF.cell (i:=1) rfl
  have z2:=ZF.cell (i:=2) rfl
  have z3:=ZF.cell (i:=3) rfl
  have z4:=ZF.cell (i:=4) rfl
  (try simp only [Exit.inBlock,Exit.then])
  refine bodyPost_ret (results_colk rfl _ _ (b:=w.heap.size+1) rfl z0 z1 z2 z3 z4) rfl ?_
  have hR:=HR.out.kept GF (.inr HNE.out)
  have hx:EntV Wf (.slice D d.length dk,.slice E el.length ek) ⟨d,el⟩:=⟨D,dk,E,ek,rfl,sl_keep (A:=A) HD.out GW (fun h=>HDA.out (by rintro rfl;exact h rfl)),sl_keep (A:=A) HE.out GW (fun h=>HEA.out (by rintro rfl;exact h rfl))⟩
  have hents:=ents_ins (i:=i) HO.out.len (HO.out.hdr GW) hx hile hR
  rw [HPUT.out] at hents
  refine ⟨A',a',by rw [HPL.out];rfl,⟨hents,sl_keep (A:=A) HG.out GW (fun h=>HGB.out (by rintro e;rw [e] at h;exact h rfl)),rfl,rfl,HNM.out⟩,GW,fun Z W' g2 hZ=>?_⟩
  have hR2:=own_chg hR g2 (fun q hq z=>by
   obtain ⟨z1,z2,-⟩:=hZ q z
   rcases HBL.out with h | h
   ·have:=(own_blk HO.out.row (h.symm.trans hq)).1;omega
   ·rw [h] at hq;have hq:=Option.some.inj hq;have:=HW1.out;(try dsimp only at hq);omega)
  have hx2:EntV W' (.slice D d.length dk,.slice E el.length ek) ⟨d,el⟩:=⟨D,dk,E,ek,rfl,sl_keep2 (A:=A) HD.out GW g2 (fun h q hq=>⟨HDA.out (by rintro rfl;exact h rfl) q hq,fun z=>(hZ q z).2.2.2.1 hq⟩),sl_keep2 (A:=A) HE.out GW g2 (fun h q hq=>⟨HEA.out (by rintro rfl;exact h rfl) q hq,fun z=>(hZ q z).2.2.2.2 hq⟩)⟩
  have hents2:=ents_ins (i:=i) HO.out.len (HO.out.hdr2 GW g2 (fun q z=>(hZ q z).1)) hx2 hile hR2
  rw [HPUT.out] at hents2
  exact ⟨hents2,sl_keep2 (A:=A) HG.out GW g2 (fun h q hq=>⟨HGB.out (by rintro e;rw [e] at h;exact h rfl) q hq,fun z=>(hZ q z).2.2.1 hq⟩),rfl,rfl,HNM.out⟩
end Go.Proofs.YtkhmjidaeliccaaGreatDoor
namespace Go.Proofs.YtkhmjidaeliccaaGreatDoor
open Go.RowKit Go.Maps Go.WideMaps Tl
theorem max3_run (W:World) (ts:Array TypeId) (ty:TypeId) (x y z m:Int) (hm:max (max x y) z=m):(Builtin.max_ ts ty #[.int .i64 x,.int .i64 y,.int .i64 z]).run Tryz.prog W=.ok (.int .i64 m) W:=by
 rw [run_max_int3,←hm]
 have e:(if z > (if y > x then y else x) then z else (if y > x then y else x))=max (max x y) z:=by
  split <;> split <;> omega
 rw [e]
theorem cell_ne {W:World} {p q:Addr} {u:Value} (h:W.cell? p=some u) (hne:p.block≠q.block) (v:Value):(W.setCell q v).cell? p=some u:=(World.cell?_of_block (Below.heap_setCell W q v p.block hne)).trans h
theorem frz_set {W:World} {p q:Addr} (h:W.frozen? p=false) (v:Value):(W.setCell q v).frozen? p=false:=by simpa using h
structure Opd where
 N:Nat
 rb:Nat
 g:Nat
 lg:Nat
 le:Nat
 base:Nat
 zz:Nat
 top:Nat
 A:Option Addr
 a:Nat
 B:Option Addr
 bb:Nat
 E:Option Addr
 ec:Nat
 vs:List (Value × Value)
 m:Nat→Nat
 z:Int
 b:Bool
structure OpO (K:Opd):Prop where
 ng:K.N≤K.g
 nl:K.N≤K.lg
 ne:K.N≤K.le
 nb:K.N≤K.base
 gb:K.g < K.base
 bB:∀q,blk K.B=some q→q < K.base∧q≠K.g
 bE:∀q,blk K.E=some q→q < K.base∧q≠K.g∧blk K.B≠some q
 rg:K.base≤K.rb
 rt:K.top≤K.rb
def OpCh (K:Opd) (q:Nat):Prop:=q=K.g∨blk K.B=some q∨blk K.E=some q∨(K.base≤q∧q < K.top)
structure OpS (K:Opd) (w0 w:World) (xs:List Ent) (gs:List Grp) (es:List Elt) (p s t:Int):Prop where
 room:Box w K.rb 85 [.int .i64 K.z,.bool K.b]
 col:Box w K.g 32 [.slice K.A xs.length K.a,.slice K.B gs.length K.bb,.int .i64 p,.int .i64 s,.int .i64 t]
 ents:OpV w K.base K.zz K.A K.a K.vs K.m K.top xs
 grps:w.ownsRow K.lg 98 3 (.slice K.B gs.length K.bb) gs.length (flatK Grp.cells gs)
 els:w.ownsRow K.le 77 4 (.slice K.E es.length K.ec) es.length (flatK Elt.cells es)
 bel:Below K.N w0 w
 chg:Chg (OpCh K) w0 w
section
variable {K:Opd} {w0 w w':World} {xs:List Ent} {gs:List Grp} {es:List Elt} {p s t:Int}
theorem OpS.below (h:OpS K w0 w xs gs es p s t) (hN:K.N≤w.heap.size) (hb:Below w.heap.size w w'):OpS K w0 w' xs gs es p s t:=
 ⟨h.room.below hb h.room.lt,h.col.below hb h.col.lt,h.ents.below hb,own_keep h.grps hb,own_keep h.els hb,h.bel.trans (hb.mono hN),h.chg.trans (Chg.of_below hb)⟩
theorem OpS.n (h:OpS K w0 w xs gs es p s t) (o:OpO K):K.N≤w.heap.size:=Nat.le_trans o.ng (Nat.le_of_lt h.col.lt)
theorem OpS.col_set (h:OpS K w0 w xs gs es p s t) (o:OpO K) (i:Nat) (v:Value) (p' s' t':Int) (hv:[Value.slice K.A xs.length K.a,.slice K.B gs.length K.bb,.int .i64 p,.int .i64 s,.int .i64 t].set i v=[.slice K.A xs.length K.a,.slice K.B gs.length K.bb,.int .i64 p',.int .i64 s',.int .i64 t']):OpS K w0 (w.setCell ⟨K.g,i,none⟩ v) xs gs es p' s' t':=by
 have hg:w.grownBy (w.setCell ⟨K.g,i,none⟩ v) (some K.g):=grown_set w ⟨K.g,i,none⟩ v
 refine ⟨bx_ne h.room ⟨K.g,i,none⟩ (by have:=o.gb;have:=o.rg;dsimp only;omega) v,hv ▸ h.col.set i v,h.ents.low o.gb v,h.grps.kept hg ?_,h.els.kept hg ?_,h.bel.setCell o.ng v,h.chg.trans (Chg.of_grown hg (fun q e=>.inl (Option.some.inj e).symm))⟩
 ·rw [ownBlock_blk]
  cases hq:blk K.B with
  | none=>exact .inl rfl
  | some q=>exact .inr (fun e=>by injection e with e;exact (o.bB q hq).2 e)
 ·rw [ownBlock_blk]
  cases hq:blk K.E with
  | none=>exact .inl rfl
  | some q=>exact .inr (fun e=>by injection e with e;exact (o.bE q hq).2.1 e)
theorem OpS.grp (h:OpS K w0 w xs gs es p s t) (o:OpO K) {i:Nat} (hi:i < gs.length):∃q,K.B=some ⟨q,0,none⟩∧(∀f,f < 3→w.cell? ⟨q,i*3+f,none⟩=(Grp.cells gs[i])[f]?)∧(∀f,w.frozen? ⟨q,f,none⟩=false)∧q < K.rb∧
  ∀f v g',f < 3→Grp.cells g'=(Grp.cells gs[i]).set f v→OpS K w0 (w.setCell ⟨q,i*3+f,none⟩ v) xs (gs.set i g') es p s t:=by
 have hr:=h.grps
 obtain ⟨q,hB,hq1,hq2⟩:=own_at hr (by omega)
 have hb:=o.bB q (by rw [hB];rfl)
 rw [hB] at hr
 refine ⟨q,hB,fun f hf=>(hr.cellAt (i*3+f) (by omega)).trans (flatK_get Grp.cells 3 (fun _=>rfl) gs i f hi hf),fun f=>hr.frozenAt _,by have:=o.rg;omega,fun f v g' hf hg'=>?_⟩
 have hg:w.grownBy (w.setCell ⟨q,i*3+f,none⟩ v) (some q):=grown_set w ⟨q,i*3+f,none⟩ v
 have t1:=(hr.stored (i*3+f) v).1
 rw [flatK_set Grp.cells 3 (fun _=>rfl) gs i f v g' hi hf hg'] at t1
 refine ⟨bx_ne h.room ⟨q,i*3+f,none⟩ (by have:=o.rg;dsimp only;omega) v,?_,h.ents.low hb.1 v,by rw [hB];simpa using t1,h.els.kept hg ?_,h.bel.setCell (Nat.le_trans o.nl hq1) v,h.chg.trans (Chg.of_grown hg (fun q' e=>.inr (.inl (by rw [hB];exact congrArg some (Option.some.inj e)))))⟩
 ·rw [List.length_set];exact bx_ne h.col ⟨q,i*3+f,none⟩ (fun e=>hb.2 e.symm) v
 ·rw [ownBlock_blk]
  cases hE:blk K.E with
  | none=>exact .inl rfl
  | some q'=>exact .inr (fun e=>by injection e with e;exact (o.bE q' hE).2.2 (by rw [hB,e];rfl))
theorem OpS.el (h:OpS K w0 w xs gs es p s t) (o:OpO K) {i:Nat} (hi:i < es.length):∃q,K.E=some ⟨q,0,none⟩∧(∀f,f < 4→w.cell? ⟨q,i*4+f,none⟩=(Elt.cells es[i])[f]?)∧(∀f,w.frozen? ⟨q,f,none⟩=false)∧q < K.rb∧q≠K.g∧
  ∀f v e',f < 4→Elt.cells e'=(Elt.cells es[i]).set f v→OpS K w0 (w.setCell ⟨q,i*4+f,none⟩ v) xs gs (es.set i e') p s t:=by
 have hr:=h.els
 obtain ⟨q,hE,hq1,hq2⟩:=own_at hr (by omega)
 have hb:=o.bE q (by rw [hE];rfl)
 rw [hE] at hr
 refine ⟨q,hE,fun f hf=>(hr.cellAt (i*4+f) (by omega)).trans (flatK_get Elt.cells 4 (fun _=>rfl) es i f hi hf),fun f=>hr.frozenAt _,by have:=o.rg;omega,hb.2.1,fun f v e' hf he'=>?_⟩
 have hg:w.grownBy (w.setCell ⟨q,i*4+f,none⟩ v) (some q):=grown_set w ⟨q,i*4+f,none⟩ v
 have t1:=(hr.stored (i*4+f) v).1
 rw [flatK_set Elt.cells 4 (fun _=>rfl) es i f v e' hi hf he'] at t1
 refine ⟨bx_ne h.room ⟨q,i*4+f,none⟩ (by have:=o.rg;dsimp only;omega) v,bx_ne h.col ⟨q,i*4+f,none⟩ (fun e=>hb.2.1 e.symm) v,h.ents.low hb.1 v,h.grps.kept hg ?_,by rw [hE];simpa using t1,h.bel.setCell (Nat.le_trans o.ne hq1) v,h.chg.trans (Chg.of_grown hg (fun q' e=>.inr (.inr (.inl (by rw [hE];exact congrArg some (Option.some.inj e))))))⟩
 rw [ownBlock_blk]
 cases hB:blk K.B with
 | none=>exact .inl rfl
 | some q'=>exact .inr (fun e=>by injection e with e;exact hb.2.2 (by rw [hB,e]))
theorem OpS.ent (h:OpS K w0 w xs gs es p s t) (o:OpO K) {i:Nat} (hi:i < xs.length) (hv:i < K.vs.length) {C:Option Addr} {n c:Nat} {E:Option Addr} {l d:Nat} (hvi:K.vs[i]=(.slice C n c,.slice E l d)) {j:Nat} (hj:j < xs[i].elems.length) :
  ∃q,E=some ⟨q,0,none⟩∧K.base≤q∧q < K.top∧(∀f,f < 4→w.cell? ⟨q,j*4+f,none⟩=xs[i].elems[j].cells[f]?)∧(∀o,w.frozen? ⟨q,o,none⟩=false)∧
   ∀f v e',f < 4→Elt.cells e'=(Elt.cells xs[i].elems[j]).set f v→OpS K w0 (w.setCell ⟨q,j*4+f,none⟩ v) (xs.set i ⟨xs[i].codes,xs[i].elems.set j e'⟩) gs es p s t:=by
 obtain ⟨q,hE,h1,h2,h3,h4,h5,h6⟩:=h.ents.elt hi hv hvi hj
 refine ⟨q,hE,h1,h3,h4,h5,fun f v e' hf he'=>?_⟩
 have hg:w.grownBy (w.setCell ⟨q,j*4+f,none⟩ v) (some q):=grown_set w ⟨q,j*4+f,none⟩ v
 refine ⟨bx_ne h.room ⟨q,j*4+f,none⟩ (by have:=o.rt;dsimp only;omega) v,?_,h6 f v e' hf he',h.grps.kept hg ?_,h.els.kept hg ?_,h.bel.setCell (Nat.le_trans o.nb h1) v,h.chg.trans (Chg.of_grown hg (fun q' e=>.inr (.inr (.inr (by have:=Option.some.inj e;omega)))))⟩
 ·rw [List.length_set];exact bx_ne h.col ⟨q,j*4+f,none⟩ (by have:=o.gb;dsimp only;omega) v
 ·rw [ownBlock_blk]
  cases hB:blk K.B with
  | none=>exact .inl rfl
  | some q'=>exact .inr (fun e=>by injection e with e;have:=(o.bB q' hB).1;omega)
 ·rw [ownBlock_blk]
  cases hB:blk K.E with
  | none=>exact .inl rfl
  | some q'=>exact .inr (fun e=>by injection e with e;have:=(o.bE q' hB).1;omega)
end
end Go.Proofs.YtkhmjidaeliccaaGreatDoor
