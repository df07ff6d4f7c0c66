import Derived.Test.YtkhmjidaeliccaaGreatDoorS17
set_option maxRecDepth 100000
set_option maxHeartbeats 51200000
namespace Go.Proofs.YtkhmjidaeliccaaGreatDoor
open Option renaming none->N,some->Z
open Value renaming int->I,slice->H
open IntKind renaming i64->J
open Go.Proofs.Tryz
namespace Tl
open Go.RowKit
def wn(k:Nat)(e:Elt):Int:=if k<3 then jY e k else if mG e=true then 0 else 65535
def rw1(es:List Elt)(k:Nat):Li:=(es.map (wn k)).filter (λx=>decide (x≠0))
theorem rw1_app(a b:List Elt)(k:Nat):rw1 (a++b) k=rw1 a k++rw1 b k:=by unfold rw1;rw[List.map_append,List.filter_append]
theorem rw1_flat{α:Type}(f:α->List Elt)(k:Nat)(l:List α):rw1 (l.flatMap f) k=l.flatMap (λx=>rw1 (f x) k):=by
 induction l with
 |nil=>rfl
 |cons x l ih=>rw[List.flatMap_cons,rw1_app,ih,List.flatMap_cons]
def NN(e:Elt):Prop:=0<=e.p/\0<=e.s/\0<=e.t
theorem EOk.nn{e:Elt}(h:EOk e):NN e:=⟨h.p0,h.s0,h.t0⟩
theorem wn_nn{e:Elt}(h:NN e)(k:Nat):0<=wn k e:=by
 obtain⟨a,b,c⟩:=h;unfold wn jY;repeat' split
 all_goals omega
section
variable {k l:Int}{e:Elt}
theorem wn_rs(hl:1<=l)(h:NN e)(j:Nat):wn j (rsE k l e)=if k=j+1/\j<3 then mvd l (wn j e)else wn j e:=by
 obtain⟨i,m,n⟩:=h;have c:(rsE k l e).p=0 ↔ e.p=0:=by rw[rsE_p];split;(rw[mvd_zero hl];omega);exact Iff.rfl
 have d:(rsE k l e).s=0 ↔ e.s=0:=by rw[rsE_s];split;(rw[mvd_zero hl];omega);exact Iff.rfl
 have f:(rsE k l e).t=0 ↔ e.t=0:=by rw[rsE_t];split;(rw[mvd_zero hl];omega);exact Iff.rfl
 by_cases j3:j<3
 ·rcases show j=0\/j=1\/j=2 by omega with rfl|rfl|rfl
  ·show(rsE k l e).p=if k=((0:Nat):Int)+1/\0<3 then mvd l e.p else e.p
   rw[rsE_p];by_cases hk:k=1
   ·rw[if_pos hk,if_pos ⟨O,V⟩]
   rw[if_neg hk,if_neg O]
  ·show(rsE k l e).s=if k=((1:Nat):Int)+1/\1<3 then mvd l e.s else e.s
   rw[rsE_s];by_cases hk:k=2
   ·rw[if_pos hk,if_pos ⟨O,V⟩]
   rw[if_neg hk,if_neg O]
  show(rsE k l e).t=if k=((2:Nat):Int)+1/\2<3 then mvd l e.t else e.t
  rw[rsE_t];by_cases hk:k=3
  ·rw[if_pos hk,if_pos ⟨O,V⟩]
  rw[if_neg hk,if_neg O]
 have a:¬(k=(j:Int)+1/\j<3):=λg=>j3 g.2
 have b:mG (rsE k l e)=mG e:=by
  unfold mG;rw[show decide ((rsE k l e).p=0)=decide (e.p=0)from decide_eq_decide.2 c,show decide ((rsE k l e).s=0)=decide (e.s=0)from decide_eq_decide.2 d,show decide ((rsE k l e).t=0)=decide (e.t=0)from decide_eq_decide.2 f]
 rw[if_neg a];unfold wn;rw[if_neg j3,if_neg j3,b]
theorem rw1_rs(hl:1<=l){es:List Elt}(h:∀e∈es,NN e)(j:Nat):rw1 (es.map (rsE k l)) j=if k=j+1/\j<3 then(rw1 es j).map (mvd l)else rw1 es j:=by
 induction es with
 |nil=>simp[rw1]
 |cons e es ih=>
  have ih:=ih (λx hx=>h x (List.mem_cons_of_mem _ hx));have he:=h e L;have hw:=wn_rs (k:=k) hl he j;have hn:=wn_nn he j;have a:∀(x:Elt)(xs:List Elt),rw1 (x::xs) j=(if wn j x=0 then []else [wn j x])++rw1 xs j:=by
   intro x xs;unfold rw1;rw[List.map_cons];by_cases q:wn j x=0
   ·rw[List.filter_cons_of_neg (by simpa using q),if_pos q];rfl
   rw[List.filter_cons_of_pos (by simpa using q),if_neg q];rfl
  rw[List.map_cons,a,a,ih,hw];by_cases hk:k=j+1/\j<3
  ·rw[if_pos hk,if_pos hk,if_pos hk]
   by_cases q:wn j e=0
   ·rw[q,mvd_z hl,if_pos rfl];rfl
   have:1<=mvd l (wn j e):=mvd_pos O;rw[if_neg q,if_neg O];simp
  rw[if_neg hk,if_neg hk,if_neg hk]
end
theorem room_0(w l:Int)(c:Col):roomC 0 w l c=c:=by
 unfold roomC;have a:c.ents.map (rsEnt 0 l)=c.ents:=by
  refine(List.map_congr_left λx _=>?_).trans (List.map_id _);unfold rsEnt;rw[show x.elems.map (rsE 0 l)=x.elems from(List.map_congr_left λe _=>rsE_0 V e).trans (List.map_id _)];rfl
 rw[a,rsG_id V];rfl
structure Rm(k l:Int)(c c1:Col):Prop where
 ok:aK c=0
 k03:k=0\/k=1\/k=2\/k=3
 l1:1<=l
 lb:k=1->l<=c.base
 ents:c1.ents=c.ents.map λx=>⟨x.codes,x.elems.map (rsE k l)⟩
 base:c1.base=if k=1 then mvd l c.base else c.base
 second:c1.second=if k=2 then mvd l c.second else c.second
 third:c1.third=if k=3 then mvd l c.third else c.third
section
variable {d:Li}{kn:Bool}{es:List Elt}{c:Col}{t:Tlr}{c':Col}
def lT(t:Tlr)(es:List Elt):Int:=if t.lvl=0 then 1 else lst (atW t.lvl es) t.bef
theorem StpOk.room(h:StpOk d kn es c t c')(hk:kndT t=true)(hc:aK c=0)(ha:AncOk c.base es):Rm t.lvl (lT t es) c (rmC t es c):=by
 unfold rmC lT;rcases h.lv with⟨a,_⟩|⟨a,b,f,g,i⟩
 ·rw[if_pos a,if_pos a,a]
  refine⟨hc,.inl rfl,V,λq=>absurd q V,?_,rfl,rfl,rfl⟩;refine((List.map_congr_left λx _=>?_).trans (List.map_id _)).symm;rw[show x.elems.map (rsE 0 1)=x.elems from(List.map_congr_left λe _=>rsE_0 V e).trans (List.map_id _)];rfl
 rw[if_neg O,if_neg O];obtain⟨j,wb⟩:=atW_pos ha b;have hl:=lst_cases (atW t.lvl es) t.bef;refine⟨hc,.inr (lvl_cases hk a),O,λq=>?_,rfl,rfl,rfl,rfl⟩;have:=wb q;omega
end
section
variable {k l:Int}{c c1:Col}{cl:Int->Int}
theorem Rm.last(h:Rm k l c c1)(zs:Li):aF c1.ents zs=(aF c.ents zs).map (List.map (rsE k l)):=by
 rw[h.ents];exact last_map c.ents zs
theorem last_nn{c:Col}(h:aK c=0){p:Li}{es:List Elt}(hl:aF c.ents p=Z es):∀e∈es,NN e/\e.p<c.base:=by
 intro e he;obtain⟨x,hx,_,rfl⟩:=lM hl;have:=(ent_iff c.base x).1 (ents_all (fC h) x hx);exact⟨(this.ev e he).nn,this.eb e he⟩
theorem Rm.part(h:Rm k l c c1)(p:Li)(q:Bool){j:Nat}(hj:¬(k=1/\j=0)):rw1 (Mtc.ofPart (aF c1.ents) (aZ c1) p q) j=if k=j+1/\j<3 then(rw1 (Mtc.ofPart (aF c.ents) (aZ c) p q) j).map (mvd l)else rw1 (Mtc.ofPart (aF c.ents) (aZ c) p q) j:=by
 cases q with
 |true=>
  unfold Mtc.ofPart;rw[if_pos rfl,if_pos rfl,h.last];cases hl:aF c.ents p with
  |none=>simp[rw1]
  |some es=>
   show rw1 (es.map (rsE k l)) j=_
   exact rw1_rs h.l1 (λe he=>(last_nn h.ok hl e he).1) j
 |false=>
  unfold Mtc.ofPart;simp only[Bool.false_eq_true,↓reduceIte];generalize p.getD 0 0=z;obtain⟨_,i,t,m,n⟩:=kN h.ok;unfold aZ;rw[h.base,h.second,h.third];by_cases hz:0<=z/\z<=1114111
  ·rw[if_pos hz,if_pos hz]
   have r:=mvd_pos (l:=l) m.1;have s:=mvd_pos (l:=l) n.1;have o:=mvd_pos (l:=l) i;rcases h.k03 with rfl|rfl|rfl|rfl
   ·simp[show¬((0:Int)=(j:Int)+1) by omega]
   ·have d:j≠0:=λe=>hj ⟨rfl,e⟩
    rw[if_neg (show¬((1:Int)=(j:Int)+1/\j<3)from λg=>d O)];by_cases j3:j<3
    ·rcases(show j=1\/j=2 by omega)with rfl|rfl
     ·simp[rw1,wn,jY]
     simp[rw1,wn,jY]
    have f:¬(mvd l c.base+z/32768=0):=O;have a:¬(c.base+z/32768=0):=O;unfold rw1 wn mG;simp[j3,f,a]
   ·by_cases j1:j=1
    ·subst j1
     have a:¬c.second=0:=O;have b:¬mvd l c.second=0:=O;simp[rw1,wn,jY,a,b]
    rw[if_neg (show¬((2:Int)=(j:Int)+1/\j<3)from λg=>j1 O)];by_cases j3:j<3
    ·rcases(show j=0\/j=2 by omega)with rfl|rfl
     ·simp[rw1,wn,jY]
     simp[rw1,wn,jY]
    unfold rw1 wn mG;have a:¬(c.base+z/32768=0):=O;simp[j3,a]
   by_cases j2:j=2
   ·subst j2
    have a:¬c.third=0:=O;have b:¬mvd l c.third=0:=O;simp[rw1,wn,jY,a,b]
   rw[if_neg (show¬((3:Int)=(j:Int)+1/\j<3)from λg=>j2 O)];by_cases j3:j<3
   ·rcases(show j=0\/j=1 by omega)with rfl|rfl
    ·simp[rw1,wn,jY]
    simp[rw1,wn,jY]
   unfold rw1 wn mG;have a:¬(c.base+z/32768=0):=O;simp[j3,a]
  rw[if_neg hz,if_neg hz];simp[rw1]
theorem Rm.rows(h:Rm k l c c1)(P:List (Li×Bool)){j:Nat}(hj:¬(k=1/\j=0)):rw1 (P.flatMap λp=>Mtc.ofPart (aF c1.ents) (aZ c1) p.1 p.2) j=if k=j+1/\j<3 then(rw1 (P.flatMap λp=>Mtc.ofPart (aF c.ents) (aZ c) p.1 p.2) j).map (mvd l)else rw1 (P.flatMap λp=>Mtc.ofPart (aF c.ents) (aZ c) p.1 p.2) j:=by
 rw[rw1_flat,rw1_flat];induction P with
 |nil=>simp
 |cons p P ih=>
  rw[List.flatMap_cons,List.flatMap_cons,ih,h.part p.1 p.2 hj];split
  ·rw[List.map_append]
  rfl
end
def freeT(d u:Li):Prop:=∃x0 d',d=x0::d'/\¬x0∈u
section
variable {d:Li}{kn:Bool}{es:List Elt}{c:Col}{t:Tlr}{c':Col}{cl:Int->Int}
theorem StpOk.col(h:StpOk d kn es c t c'):c'.base=(rmC t es c).base/\c'.second=(rmC t es c).second/\c'.third=(rmC t es c).third:=by rw[h.eq];exact⟨rfl,rfl,rfl⟩
theorem StpOk.imp(h:StpOk d kn es c t c'):aZ c'=aZ (rmC t es c):=by
 obtain⟨a,b,e⟩:=h.col;funext z;unfold aZ;rw[a,b,e]
theorem StpOk.free(h:StpOk d kn es c t c')(hk:kndT t=true)(hc:aK c=0)(ha:AncOk c.base es){u:Li}(hf:freeT d u):
  Mtc.parts cl (aF c.ents) u=Mtc.parts cl (aF c'.ents) u/\Mtc.elems cl (aF c'.ents) (aZ c') u=(Mtc.parts cl (aF c.ents) u).flatMap λp=>Mtc.ofPart (aF (rmC t es c).ents) (aZ (rmC t es c)) p.1 p.2:=by
 obtain⟨r,n,hd,hx⟩:=hf;have f:=h.room hk hc ha
 have a:∀x∈u,∀zs,x::zs≠d:=λx hu zs e=>by
  rw[hd]at e;injection e with e _;subst e;exact hx hu
 have i:Mtc.parts cl (aF c.ents) u=Mtc.parts cl (aF c'.ents) u:=Mtc.parts_congr (λx hu zs=>by
  rw[h.found hk hc ha,if_neg (a x hu zs),f.last]
  cases aF c.ents (x::zs)<;>rfl)
 refine⟨i,?_⟩;rw[Mtc.elems_parts,<-i];have g:∀P:List (Li×Bool),(∀p∈P,p.1≠[]/\∀x∈p.1,x∈u)->P.flatMap (λp=>Mtc.ofPart (aF c'.ents) (aZ c') p.1 p.2)=P.flatMap λp=>Mtc.ofPart (aF (rmC t es c).ents) (aZ (rmC t es c)) p.1 p.2:=by
  intro P;induction P with
  |nil=>intro _;rfl
  |cons p P ih=>
   intro j;rw[List.flatMap_cons,List.flatMap_cons,ih (λq hq=>j q (List.mem_cons_of_mem _ hq))];congr 1;obtain⟨k,l⟩:=j p L;have b:¬p.1=d:=by
    obtain⟨m,o⟩:=p;cases m with
    |nil=>exact absurd rfl k
    |cons x zs=>exact a x (l x L) zs
   unfold Mtc.ofPart;rw[h.imp,h.found hk hc ha,if_neg b]
 exact g _ (λp hp=>by
  have:=Mtc.parts_mem p hp
  exact⟨this.1,this.2.1⟩)
end
end Tl
namespace Tl
open Go.RowKit
def cdp(z:Int):Prop:=0<=z/\z<=1114111
theorem full_cdp{ms:List Mp}(hc:gG ms)(kd:∀m∈ms,m.tag.size=0->m.toq.length=1\/m.toq.length=2){c:Int}{l:Li}(h:b_ (onM ms false) c l):l≠[]/\(cdp c->∀e∈l,cdp e):=by
 induction h with
 |leaf h=>exact⟨L,λh1 e he=>by simp at he;subst he;exact h1⟩
 | @node c tt vs h1 h2 _ ih=>
  have hk:tt≠[]/\∀e∈tt,cdp e:=by
   unfold onM at h1;split at h1
   ·next h4=>
    injection h1 with h1;subst h1;refine⟨?_,λe he=>((lE h4).2 e he).1⟩;unfold Hg.decomp;rw[if_neg O];split<;>simp
   cases hf:aD ms false c with
   |none=>rw[hf]at h1;cases h1
   |some m=>
    rw[hf]at h1;obtain⟨hm,_,ht⟩:=gS hf;simp only[Option.map_some,Option.some.injEq]at h1;rw[kY hm]at h1;subst h1;refine⟨?_,(hc m hm).2.2⟩;have:=kd ms[m] (List.getElem_mem hm) (ht.resolve_left V);intro e;rw[e]at this;simp at this
  obtain⟨b,d⟩:=hk;have hp:0<tt.length:=List.length_pos_iff.2 b;refine⟨?_,λ_ e he=>?_⟩
  ·have a:=(ih 0 hp O).1
   intro e;rw[List.flatten_eq_nil_iff]at e;exact a (e _ (List.getElem_mem _))
  obtain⟨v,hv,he⟩:=List.mem_flatten.1 he;obtain⟨i,hi,rfl⟩:=List.getElem_of_mem hv;exact(ih i O hi).2 (d _ (List.getElem_mem O)) e he
theorem dtx_cdp(x:Nrm){t:Li}(ht:rngT t=true):1<=(dtx x false t).length/\∀z∈dtx x false t,0<=z/\z<=1114111:=by
 have a:=oK x;unfold rngT at ht;simp only[Bool.and_eq_true,Bool.not_eq_true',List.all_eq_true,decide_eq_true_eq]at ht;obtain⟨e,f⟩:=ht;have hf:∀c,b_ (onM (usN x).dec false) c (dcM (usN x).dec false c):=λc=>nS a.st a.hg a.en false c
 constructor
 ·unfold dtx
  rw[Can.srt_len];cases t with
  |nil=>simp at e
  |cons c t=>
   unfold flM;rw[List.flatMap_cons,List.length_append];have:=List.length_pos_iff.2 (full_cdp a.co a.kd (hf c)).1;omega
 intro z hz;unfold dtx at hz;have hm:=(Can.srt_perm (flM (usN x) false t)).mem_iff.1 hz;unfold flM at hm;obtain⟨c,b,d⟩:=List.mem_flatMap.1 hm;exact(full_cdp a.co a.kd (hf c)).2 (f c b) z d
def stepP(x:Nrm)(c:Col)(t:Tlr):Int×Col:=
 if bW x≠0 then(bW x,col0)
 else if aK c≠0 then(aK c,col0)
 else if kndT t=false then(8,col0)
 else if rngT t.anc=false\/rngT t.cds=false then(1,col0)
 else stepB (dtx x false t.cds) (dO x c t.anc) (aT x c t.anc) c t
structure Chk(x:Nrm)(c:Col)(t:Tlr):Prop where
 n:bW x=0
 c:aK c=0
 k:kndT t=true
 a:rngT t.anc=true
 d:rngT t.cds=true
theorem stepP_chk{x:Nrm}{c:Col}{t:Tlr}(h:Chk x c t):stepP x c t=stepB (dtx x false t.cds) (dO x c t.anc) (aT x c t.anc) c t:=by
 unfold stepP;rw[if_neg (by rw[h.n];simp),if_neg (by rw[h.c];simp),if_neg (by rw[h.k];simp),if_neg (by rw[h.a,h.d];simp)]
theorem stepP_ok{x:Nrm}{c:Col}{t:Tlr}{c':Col}(h:stepP x c t=(0,c')):Chk x c t/\StpOk (dtx x false t.cds) (dO x c t.anc) (aT x c t.anc) c t c'/\AncOk c.base (aT x c t.anc):=by
 have hk:Chk x c t:=by
  unfold stepP at h;split at h
  ·next g=>injection h with h;exact absurd h g
  next g1=>
  split at h
  ·next g=>injection h with h;exact absurd h g
  next g2=>
  split at h
  ·injection h with h;cases h
  next g3=>
  split at h
  ·injection h with h;cases h
  next g4=>
  refine⟨O,O,?_,?_,?_⟩
  ·cases q:kndT t with|true=>rfl|false=>exact absurd q g3
  ·cases q:rngT t.anc with|true=>rfl|false=>exact absurd (.inl q) g4
  cases q:rngT t.cds with|true=>rfl|false=>exact absurd (.inr q) g4
 rw[stepP_chk hk]at h;have hs:=stepB_ok hk.k h;refine⟨hk,hs,?_⟩;have a:=hs.kn;unfold dO at a;have e:aW c=c:=if_pos hk.c;rw[e]at a;unfold aT;rw[e];exact known_ok hk.c a
theorem stepB_err{d:Li}{kn:Bool}{es:List Elt}{c:Col}{t:Tlr}(h:(stepB d kn es c t).1≠0):(stepB d kn es c t).2=col0:=by
 unfold stepB at h|-;split at h
 ·rw[if_pos oA_]
 rw[if_neg oA_];split at h
 ·rw[if_pos oA_]
 rw[if_neg oA_];split at h
 ·rw[if_pos oA_]
  split at h
  ·rw[if_pos oA_]
  exact absurd rfl h
 rw[if_neg oA_];split at h
 ·rw[if_pos oA_]
 rw[if_neg oA_];split at h
 ·rw[if_pos oA_]
 exact absurd rfl h
theorem stepP_err{x:Nrm}{c:Col}{t:Tlr}(h:(stepP x c t).1≠0):(stepP x c t).2=col0:=by
 unfold stepP at h|-;split
 ·rfl
 split
 ·rfl
 split
 ·rfl
 split
 ·rfl
 next g1 g2 g3 g4=>
 rw[if_neg g1,if_neg g2,if_neg g3,if_neg g4]at h;generalize dtx x false t.cds=d at *;generalize dO x c t.anc=kn at *;generalize aT x c t.anc=es at *;exact stepB_err h
section
variable {x:Nrm}{c:Col}{t:Tlr}{c':Col}
theorem stepP_valid(h:stepP x c t=(0,c')):aK c'=0:=by
 obtain⟨hk,hs,ha⟩:=stepP_ok h;obtain⟨a,b⟩:=dtx_cdp x hk.d;exact hs.valid hk.k hk.c ha a b
theorem stepP_found(h:stepP x c t=(0,c')):∃l,aF c'.ents (dtx x false t.cds)=Z l/\(0<l.length ↔ 0<(aT x c t.anc).length)/\l.length<=(aT x c t.anc).length/\c'.grps.length=c.grps.length/\c'.ents.length<=c.ents.length+1:=by
 obtain⟨hk,hs,ha⟩:=stepP_ok h;obtain⟨a,b,d,e⟩:=hs.lens;exact⟨_,by rw[hs.found hk.k hk.c ha,if_pos rfl],a,b,d,e⟩
end
end Tl
namespace Pa
open Go.RowKit Tl
def bt(s:ByteArray)(i:Nat):Nat:=if h:i<s.size then s[i].toNat else 0
theorem bt_lt{s:ByteArray}{i:Nat}(h:i<s.size):bt s i=s[i].toNat:=by unfold bt;rw[dif_pos h]
theorem bt_end{s:ByteArray}{i:Nat}(h:¬i<s.size):bt s i=0:=by unfold bt;rw[dif_neg h]
theorem bt_in{s:ByteArray}{i:Nat}(h:bt s i≠0):i<s.size:=Classical.byContradiction λg=>h (bt_end g)
theorem bt_256(s:ByteArray)(i:Nat):bt s i<256:=by
 unfold bt;split
 ·exact UInt8.toNat_lt _
 decide
abbrev Rd(α:Type):=Except Nat (α×Nat)
def blkN(s:ByteArray):Nat->Nat->Nat
 |0,i=>i
 |n+1,i=>if bt s i=32\/bt s i=10 then blkN s n (i+1)else i
def skp(s:ByteArray)(i:Nat):Nat:=blkN s (s.size-i) i
theorem blk_step{s:ByteArray}{i:Nat}(h:bt s i=32\/bt s i=10):skp s i=skp s (i+1):=by
 have hi:i<s.size:=bt_in O;unfold skp;rw[show s.size-i=(s.size-(i+1))+1 by omega];show(if _ then _ else _)=_
 rw[if_pos h]
theorem blk_stop{s:ByteArray}{i:Nat}(h:¬(bt s i=32\/bt s i=10)):skp s i=i:=by
 unfold skp;cases s.size-i with
 |zero=>rfl
 |succ n=>show(if _ then _ else _)=_;rw[if_neg h]
theorem blkN_le{s:ByteArray}:∀n i,i<=blkN s n i
 |0,i=>Nat.le_refl _
 |n+1,i=>by
  unfold blkN;split
  ·exact Nat.le_trans (Nat.le_succ i) (blkN_le n (i+1))
  exact Nat.le_refl _
theorem blkN_sz{s:ByteArray}:∀n i,i<=s.size->blkN s n i<=s.size
 |0,i,h=>h
 |n+1,i,h=>by
  unfold blkN;split
  ·next h1=>exact blkN_sz n (i+1) (bt_in O)
  exact h
theorem blk_le(s:ByteArray)(i:Nat):i<=skp s i:=blkN_le _ _
theorem blk_sz{s:ByteArray}{i:Nat}(h:i<=s.size):skp s i<=s.size:=blkN_sz _ _ h
def wrd(s:ByteArray):List Nat->Nat->Rd Unit
 | [],i=>.ok ((),i)
 |c::r,i=>if bt s i=c then wrd s r (i+1)else .error i
def dg(b:Nat):Int:=if 48<=b/\b<=57 then(b:Int)-48 else if 65<=b/\b<=70 then(b:Int)-55 else -1
theorem dg_bd(b:Nat):-1<=dg b/\dg b<=15:=by unfold dg;split;omega;split<;>omega
theorem dg_in{s:ByteArray}{i:Nat}(h:¬dg (bt s i)<0):i<s.size:=bt_in (by intro e;rw[e]at h;exact h V)
def four(s:ByteArray):Nat->Int->Nat->Rd Int
 |0,c,i=>.ok (c,i)
 |n+1,c,i=>if dg (bt s i)<0 then .error i else four s n (16*c+dg (bt s i)) (i+1)
def moreN(s:ByteArray):Nat->Int->Nat->Int×Nat
 |0,c,i=>(c,i)
 |n+1,c,i=>if 4096<=c/\0<=dg (bt s i)/\16*c+dg (bt s i)<=1114111 then moreN s n (16*c+dg (bt s i)) (i+1)else(c,i)
def more(s:ByteArray)(c:Int)(i:Nat):Int×Nat:=moreN s (s.size-i) c i
theorem more_step{s:ByteArray}{c:Int}{i:Nat}(h:4096<=c/\0<=dg (bt s i)/\16*c+dg (bt s i)<=1114111):more s c i=more s (16*c+dg (bt s i)) (i+1):=by
 have hi:i<s.size:=dg_in O;unfold more;rw[show s.size-i=(s.size-(i+1))+1 by omega];show(if _ then _ else _)=_
 rw[if_pos h]
theorem more_stop{s:ByteArray}{c:Int}{i:Nat}(h:¬(4096<=c/\0<=dg (bt s i)/\16*c+dg (bt s i)<=1114111)):more s c i=(c,i):=by
 unfold more;cases s.size-i with
 |zero=>rfl
 |succ n=>show(if _ then _ else _)=_;rw[if_neg h]
def code(s:ByteArray)(i:Nat):Rd Int:=
 match four s 4 0 i with
 | .error e=>.error e
 | .ok (c,j)=>.ok (more s c j)
def litN(s:ByteArray):Nat->Li->Nat->Rd (Li)
 |0,a,i=>.ok (a,i)
 |n+1,a,i=>
  if bt s i=32 then
   match code s (i+1)with
   | .error e=>.error e
   | .ok (c,j)=>litN s n (a++[c]) j
  else .ok (a,i)
def lit(s:ByteArray)(i:Nat):Rd (Li):=
 match wrd s [40] i with
 | .error e=>.error e
 | .ok (_,i1)=>
  match code s i1 with
  | .error e=>.error e
  | .ok (c,i2)=>
   match litN s (s.size-i2) [c] i2 with
   | .error e=>.error e
   | .ok (l,i3)=>
    match wrd s [41] i3 with
    | .error e=>.error e
    | .ok (_,i4)=>.ok (l,skp s i4)
def sgnN(s:ByteArray):Nat->Int->Nat->Int×Nat
 |0,l,i=>(l,i)
 |n+1,l,i=>if bt s i=60 then sgnN s n (l+1) (i+1)else(l,i)
def sgn(s:ByteArray)(i:Nat):Rd Int:=
 if bt s i=61 then .ok (0,i+1)
 else
  match wrd s [60] i with
  | .error e=>.error e
  | .ok (_,j)=>.ok (sgnN s 2 1 j)
def stpN(s:ByteArray):Nat->Li->Bool->List Tlr->Nat->Rd (List Tlr)
 |0,_,_,l,i=>.ok (l,i)
 |n+1,a,b,l,i=>
  match sgn s i with
  | .error e=>.error e
  | .ok (k,j)=>
   match lit s (skp s j)with
   | .error e=>.error e
   | .ok (t,j2)=>if bt s j2=60\/bt s j2=61 then stpN s n t false (l++[⟨a,t,k,b⟩]) j2 else .ok (l++[⟨a,t,k,b⟩],j2)
def chn(s:ByteArray)(l:List Tlr)(i:Nat):Rd (List Tlr):=
 match wrd s [38] i with
 | .error e=>.error e
 | .ok (_,i1)=>
  match(if bt s (skp s i1)=91 then(match wrd s [91,98,101,102,111,114,101,93] (skp s i1)with | .error e=>.error e | .ok (_,j)=>.ok (true,skp s j))else .ok (false,skp s i1):Rd Bool)with
  | .error e=>.error e
  | .ok (b,i2)=>
   match lit s i2 with
   | .error e=>.error e
   | .ok (a,i3)=>stpN s (s.size+1-i3) a b l i3
def chsN(s:ByteArray):Nat->List Tlr->Nat->Rd (List Tlr)
 |0,l,i=>.ok (l,i)
 |n+1,l,i=>
  if i<s.size then
   match chn s l i with
   | .error e=>.error e
   | .ok (l',j)=>chsN s n l' j
  else .ok (l,i)
def parse(s:ByteArray):Rd (List Tlr):=chsN s (s.size-skp s 0) [] (skp s 0)
def parseF(s:ByteArray):List Tlr×Int×Int:=
 if 65536<s.size then([],2,0)
 else
  match parse s with
  | .error e=>([],3,e)
  | .ok (l,_)=>(l,0,0)
theorem wrd_ok{s:ByteArray}:∀{l:List Nat}{i j:Nat}{u:Unit},(∀c∈l,c≠0)->wrd s l i=.ok (u,j)->j=i+l.length/\(l≠[]->j<=s.size)
 | [],i,j,u,_,h=>by
  injection h with h;injection h with _ h;subst h;exact⟨rfl,λg=>absurd rfl g⟩
 |c::r,i,j,u,hc,h=>by
  unfold wrd at h;split at h
  ·next h1=>
   have hi:i<s.size:=bt_in (by rw[h1];exact hc c L);obtain⟨a,b⟩:=wrd_ok (λx hx=>hc x (List.mem_cons_of_mem _ hx)) h;refine⟨by rw[a,List.length_cons];omega,λ_=>?_⟩;cases r with
   |nil=>simp at a;omega
   |cons d r=>exact b L
  cases h
theorem four_ok{s:ByteArray}:∀{n:Nat}{c d:Int}{i j:Nat},four s n c i=.ok (d,j)->j=i+n/\(0<n->j<=s.size)
 |0,c,d,i,j,h=>by
  injection h with h;injection h with _ h;subst h;exact⟨rfl,λg=>absurd g O⟩
 |n+1,c,d,i,j,h=>by
  unfold four at h;split at h
  ·cases h
  next h1=>
  have hi:=dg_in h1;obtain⟨b,a⟩:=four_ok h;refine⟨O,λ_=>?_⟩;cases n with
  |zero=>omega
  |succ n=>exact a O
theorem moreN_ok{s:ByteArray}:∀{n:Nat}{c:Int}{i:Nat},i<=s.size->i<=(moreN s n c i).2/\(moreN s n c i).2<=s.size
 |0,c,i,h=>⟨Nat.le_refl _,h⟩
 |n+1,c,i,h=>by
  unfold moreN;split
  ·next h1=>
   obtain⟨b,a⟩:=moreN_ok (s:=s) (n:=n) (c:=16*c+dg (bt s i)) (i:=i+1) (dg_in O);exact⟨O,a⟩
  exact⟨Nat.le_refl _,h⟩
theorem code_ok{s:ByteArray}{c:Int}{i j:Nat}(h:code s i=.ok (c,j)):i+4<=j/\j<=s.size:=by
 unfold code at h;split at h
 ·cases h
 next c' k hf=>
 injection h with h;obtain⟨d,a⟩:=four_ok hf;have b:=a O;have f:=moreN_ok (s:=s) (n:=s.size-k) (c:=c') b;have e:(moreN s (s.size-k) c' k).2=j:=by
  have:more s c' k=(c,j):=h;unfold more at this;rw[this]
 omega
theorem litN_ok{s:ByteArray}:∀{n:Nat}{a l:Li}{i j:Nat},i<=s.size->litN s n a i=.ok (l,j)->i<=j/\j<=s.size
 |0,a,l,i,j,hi,h=>by
  injection h with h;injection h with _ h;omega
 |n+1,a,l,i,j,hi,h=>by
  unfold litN at h;split at h
  ·split at h
   ·cases h
   next hc=>
   have b:=code_ok hc;have c:=litN_ok b.2 h;omega
  injection h with h;injection h with _ h;omega
theorem lit_ok{s:ByteArray}{l:Li}{i j:Nat}(h:lit s i=.ok (l,j)):i+6<=j/\j<=s.size:=by
 unfold lit at h;split at h
 ·cases h
 next h1=>
 split at h
 ·cases h
 next h2=>
 split at h
 ·cases h
 next h3=>
 split at h
 ·cases h
 next i4 h4=>
 injection h with h;injection h with _ h;have b:=wrd_ok L h1;have c:=code_ok h2;have e:=litN_ok c.2 h3;have a:=wrd_ok L h4;have d:=a.2 L;have f:=blk_le s i4;have g:=blk_sz d;simp at b a;omega
theorem sgnN_ok{s:ByteArray}:∀{n:Nat}{l:Int}{i:Nat},i<=s.size->i<=(sgnN s n l i).2/\(sgnN s n l i).2<=s.size
 |0,l,i,h=>⟨Nat.le_refl _,h⟩
 |n+1,l,i,h=>by
  unfold sgnN;split
  ·next h1=>
   obtain⟨b,a⟩:=sgnN_ok (s:=s) (n:=n) (l:=l+1) (i:=i+1) (bt_in O);exact⟨O,a⟩
  exact⟨Nat.le_refl _,h⟩
theorem sgn_ok{s:ByteArray}{k:Int}{i j:Nat}(h:sgn s i=.ok (k,j)):i+1<=j/\j<=s.size:=by
 unfold sgn at h;split at h
 ·next h1=>
  injection h with h;injection h with _ h;have:=bt_in (s:=s) (i:=i) O;omega
 split at h
 ·cases h
 next u j1 h1=>
 injection h with h;have a:=wrd_ok L h1;have c:=a.2 L;have b:=sgnN_ok (s:=s) (n:=2) (l:=1) c;rw[h]at b;simp at a;dsimp only at b;omega
theorem stpN_ok{s:ByteArray}:∀{n:Nat}{a:Li}{b:Bool}{l m:List Tlr}{i j:Nat},i<=s.size->stpN s n a b l i=.ok (m,j)->i<=j/\j<=s.size
 |0,a,b,l,m,i,j,hi,h=>by
  injection h with h;injection h with _ h;omega
 |n+1,a,b,l,m,i,j,hi,h=>by
  unfold stpN at h;split at h
  ·cases h
  next j1 h1=>
  split at h
  ·cases h
  next j2 h2=>
  have d:=sgn_ok h1;have c:=lit_ok h2;have e:=blk_le s j1;split at h
  ·have f:=stpN_ok c.2 h
   omega
  injection h with h;injection h with _ h;omega
theorem chn_ok{s:ByteArray}{l m:List Tlr}{i j:Nat}(h:chn s l i=.ok (m,j)):i<j/\j<=s.size:=by
 unfold chn at h;split at h
 ·cases h
 next u i1 h1=>
 have a:=wrd_ok L h1;have d:=blk_le s i1;split at h
 ·cases h
 next b i2 h2=>
 have e:skp s i1<=i2:=by
  split at h2
  ·split at h2
   ·cases h2
   next u j1 h3=>
   injection h2 with h2;injection h2 with _ h2;have f:=wrd_ok L h3;have g:=blk_le s j1;omega
  injection h2 with h2;injection h2 with _ h2;omega
 split at h
 ·cases h
 next h4=>
 have c:=lit_ok h4;have k:=stpN_ok c.2 h;simp at a;omega
end Pa
section
open Go.RowKit Tl Pa
def PsB(w:Wv)(P:Nat)(s:ByteArray)(i:Nat):Prop:=Box w P 102 [.string s,I J i]
structure aS(P:Nat)(s:ByteArray)(w:Wv)(j:Nat)(w':Wv):Prop where
 box:PsB w' P s j
 gr:w.grownBy w' (Z P)
section
variable {P i j k:Nat}{s:ByteArray}{w w' w'':Wv}
theorem PsB.here(h:PsB w P s i):aS P s w i w:=⟨h,aP _ _⟩
theorem aS.trans(h:aS P s w i w')(h2:aS P s w' j w''):aS P s w j w'':=⟨h2.box,bK h.gr h2.gr⟩
theorem aS.drew(h:aS P s w i w')(n:Nat):aS P s w i (w'.drewN n):=⟨h.box.below (fW w' n) h.box.lt,cT h.gr (fW w' n)⟩
theorem aS.go(h:aS P s w i w')(j:Nat):aS P s w j (w'.setCell ⟨P,1,N⟩ (I J j)):=⟨h.box.set 1 _,bK h.gr (bR w' ⟨P,1,N⟩ _)⟩
theorem aS.below(h:aS P s w i w')(hb:By w' w''):aS P s w i w'':=⟨h.box.below hb h.box.lt,cT h.gr hb⟩
theorem aS.c0(h:aS P s w i w'):w'.cell? ⟨P,0,N⟩=Z (.string s):=h.box.c 0 rfl
theorem aS.c1(h:aS P s w i w'):w'.cell? ⟨P,1,N⟩=Z (I J i):=h.box.c 1 rfl
theorem aS.f1(h:aS P s w i w'):w'.frozen? ⟨P,1,N⟩=false:=h.box.free 1
end
def Flt(e:Ending):Prop:=∃u pv,e=.panicked [{ v:=.iface u pv,recovered:=false }]
def RdR{α:Type}(P:Nat)(s:ByteArray)(V:α->Value->Wv->Prop)(r:Rd α)(w:Wv)(e:Ending)(w':Wv):Prop:=
 match r with
 | .ok (a,j)=>(∃v,e=.returned v/\V a v w')/\aS P s w j w'
 | .error j=>Flt e/\aS P s w j w'
theorem oB(P:Nat)(s:ByteArray)(i:Nat)(w:Wv)(hP:PsB w P s i)(hi:i<=s.size):
  Calls prog 113 #[.pointer (Z ⟨P,0,N⟩)] w λe w'=>e=.returned (.int .u8 (bt s i))/\aS P s w i w':=by
 have b:=G (hP.here);obtain⟨d,f⟩:=hP.k2;clear hP;by_cases h:i<s.size
 ·have hb:=G (bt_lt h)
  have he:((i:Int)==(s.size:Int))=false:=oU_;go_enter func113,ntmps113;go_wp2;go_quiet(fail);have a:=G (b.o.drew nq);clear d f b;generalize World.drewN w nq=w2 at *;have d:=a.o.c0;have f:=a.o.c1;go_wp2;go_quiet(fail);have c:=G (a.o.drew nq);go_wp2;go_ret;exact⟨by rw[hb.o];rfl,c.o⟩
 have hb:=G (bt_end h);obtain rfl:i=s.size:=O;have he:((s.size:Int)==(s.size:Int))=true:=L;go_enter func113,ntmps113;go_wp2;go_quiet(fail);have a:=G (b.o.drew nq);go_wp2;go_ret;exact⟨by rw[hb.o];rfl,a.o⟩
theorem yA(P:Nat)(s:ByteArray)(i:Nat)(w:Wv)(hP:PsB w P s i):
  Calls prog 161 #[.pointer (Z ⟨P,0,N⟩)] w λe w'=>Flt e/\w=w':=by
 have a:=hP.c 1 rfl;unfold Flt;go_enter func161,ntmps161;go_wp2_with fail;exact⟨rfl,⟨_,_,rfl⟩,rfl⟩
def gY(P:Nat)(w:Wv):Nat:=match w.cell? ⟨P,1,N⟩with|some (.int _ i)=>i.toNat|_=>0
theorem aS.at{P j:Nat}{s:ByteArray}{w w':Wv}(h:aS P s w j w'):gY P w'=j:=by
 unfold gY;rw[h.c1];rfl
theorem xH(b:Nat)(hb:b<256)(w:Wv):
  Calls prog 189 #[.int .u8 b] w λe w'=>e=.returned (I J (dg b))/\w=w':=by
 by_cases h1:48<=b
 ·by_cases h2:b<=57
  ·have hd:=U (dg b=(b:Int)-48) (if_pos ⟨h1,h2⟩)
   have a:decide ((48:Int)<=(b:Int))=true:=oU_;have c:decide ((b:Int)<=57)=true:=oU_;have f:(48:Int)<=b:=O;have g:(b:Int)<=57:=O;go_enter func189,ntmps189;go_wp2;go_ret;exact⟨by rw[hd.o];rfl,rfl⟩
  by_cases h3:65<=b
  ·by_cases h4:b<=70
   ·have hd:=U (dg b=(b:Int)-55) (by unfold dg;rw[if_neg O,if_pos ⟨h3,h4⟩])
    have a:decide ((48:Int)<=(b:Int))=true:=oU_;have c:decide ((b:Int)<=57)=false:=oU_;have d:decide ((65:Int)<=(b:Int))=true:=oU_;have h:decide ((b:Int)<=70)=true:=oU_;have f:(65:Int)<=b:=O;have g:(b:Int)<=70:=O;go_enter func189,ntmps189;go_wp2;go_ret;exact⟨by rw[hd.o,show(b:Int)-55=(b:Int)-65+10 by omega];rfl,rfl⟩
   have hd:=U (dg b=-1) (by unfold dg;rw[if_neg O,if_neg O]);have a:decide ((48:Int)<=(b:Int))=true:=oU_;have c:decide ((b:Int)<=57)=false:=oU_;have d:decide ((65:Int)<=(b:Int))=true:=oU_;have h:decide ((b:Int)<=70)=false:=oU_;go_enter func189,ntmps189;go_wp2;go_ret;exact⟨by rw[hd.o];rfl,rfl⟩
  have hd:=U (dg b=-1) (by unfold dg;rw[if_neg O,if_neg O]);have a:decide ((48:Int)<=(b:Int))=true:=oU_;have c:decide ((b:Int)<=57)=false:=oU_;have d:decide ((65:Int)<=(b:Int))=false:=oU_;go_enter func189,ntmps189;go_wp2;go_ret;exact⟨by rw[hd.o];rfl,rfl⟩
 have hd:=U (dg b=-1) (by unfold dg;rw[if_neg O,if_neg O]);have a:decide ((48:Int)<=(b:Int))=false:=oU_;have d:decide ((65:Int)<=(b:Int))=false:=oU_;go_enter func189,ntmps189;go_wp2;go_ret;exact⟨by rw[hd.o];rfl,rfl⟩
theorem rQ(P:Nat)(s:ByteArray)(i:Nat)(w:Wv)(hP:PsB w P s i)(hi:i<=s.size)(hs:s.size<=9223372036854775806):
  Calls prog 58 #[.pointer (Z ⟨P,0,N⟩)] w λe w'=>e=.returned (.tuple #[])/\aS P s w (skp s i) w':=by
 have z:=G (hP.here);have t:=G (λj(W:Wv)(h:aS P s w j W)(hj:j<=s.size)=>oB P s j W h.box hj);clear hP;go_enter func58,ntmps58;go_wp2;go_loopw [] (λwr=>∃k:Nat,k<=s.size/\Hi (skp s k=skp s i)/\aS P s w k wr) (λwr=>s.size-gY P wr)
 case atStart=>exact⟨i,hi,G rfl,z.o⟩
 obtain⟨k,hk,hb,hp⟩:=hrel;have r:=G hp;clear hp z;have f:=G (t.o k _ r.o hk);by_cases h1:bt s k=32
 ·have C:((bt s k:Int)==32)=true:=oU_
  have q:=bt_in (s:=s) (i:=k) O;have o:=G (blk_step (s:=s) (i:=k) (.inl h1));clear h1;generalize bt s k=b at *;go_wp2_with fail;refine f.o.mono ?_
  rintro e m ⟨rfl,a⟩;have c:=G (r.o.trans a);have B:=c.o.c1;have E:=c.o.f1;clear a f t;go_wp2;go_roundw
  case rel=>exact⟨k+1,q,G (o.o.symm.trans hb.o),c.o.go (k+1)⟩
  have x:=(c.o.go (k+1)).at;have y:=r.o.at;have p:gY P (m.setCell ⟨P,1,N⟩ (I J ((k:Int)+1)))=k+1:=x;rw[p,y];omega
 have C:((bt s k:Int)==32)=false:=oU_;by_cases h2:bt s k=10
 ·have D:((bt s k:Int)==10)=true:=oU_
  have q:=bt_in (s:=s) (i:=k) O;have o:=G (blk_step (s:=s) (i:=k) (.inr h2));have g:=G (λ(m:Wv) (a:aS P s w k m)=>t.o k m a hk);clear h1 h2;generalize bt s k=b at *;go_wp2_with fail;refine f.o.mono ?_
  rintro e m ⟨rfl,a⟩;have c:=G (r.o.trans a);have l:=G (g.o m c.o);clear a f t g;go_wp2_with fail;refine l.o.mono ?_
  rintro e A ⟨rfl,n⟩;have d:=G (c.o.trans n);have B:=d.o.c1;have E:=d.o.f1;clear n l;go_wp2;go_roundw
  case rel=>exact⟨k+1,q,G (o.o.symm.trans hb.o),d.o.go (k+1)⟩
  have x:=(d.o.go (k+1)).at;have y:=r.o.at;have p:gY P (A.setCell ⟨P,1,N⟩ (I J ((k:Int)+1)))=k+1:=x;rw[p,y];omega
 have D:((bt s k:Int)==10)=false:=oU_;have o:=G (blk_stop (s:=s) (i:=k) O);have g:=G (λ(m:Wv) (a:aS P s w k m)=>t.o k m a hk);clear h1 h2;generalize bt s k=b at *;go_wp2_with fail;refine f.o.mono ?_
 rintro e m ⟨rfl,a⟩;have c:=G (r.o.trans a);have l:=G (g.o m c.o);clear a f t g;go_wp2_with fail;refine l.o.mono ?_
 rintro e A ⟨rfl,n⟩;have d:=G (c.o.trans n);have v:k=skp s i:=o.o.symm.trans hb.o;clear n l;go_wp2;go_end0;exact⟨rfl,by rw[<-v];exact d.o⟩
structure Wrd(t:ByteArray)(l:List Nat):Prop where
 sz:t.size=l.length
 at_:∀k,(h:k<t.size)->(h2:k<l.length)->t[k].toNat=l[k]
 nz:∀c∈l,c≠0
def noV(_:Unit)(v:Value)(_:Wv):Prop:=v=.tuple #[]
theorem nU(P:Nat)(s t:ByteArray)(l:List Nat)(i:Nat)(w:Wv)(hP:PsB w P s i)(hi:i<=s.size)(hs:s.size<=9223372036854775806)(ht:Wrd t l)(hl:l.length<=100):
  Calls prog 114 #[.pointer (Z ⟨P,0,N⟩),.string t] w (RdR P s noV (wrd s l i) w):=by
 have Y:=G (hP.here);have HT:=G ht;have S:=ht.sz;obtain⟨n,hn⟩:=exQ (t.size);have D:l.length=n:=O;have y:=G D;have X:=G hn;have R:n<=100:=O;have KF:=G (λj(W:Wv)(h:aS P s w j W)=>yA P s j W h.box);obtain⟨r,hr⟩:=exQ (wrd s l i);have A:=G hr;rw[hr];clear hP ht S D hn hr hl;go_enter func114,ntmps114;have g:(t.size:Int)=(n:Int):=by rw[X.o]
 go_wp2_with fail;have V:=G g;clear g;go_loopw [7] (λu wr=>∃k:Nat,k<=n/\i+k<=s.size/\u=I J k/\Hi (wrd s (l.drop k) (i+k)=r)/\aS P s w (i+k) wr) (λu _=>n-(intOf u).toNat)
 case atStart=>exact⟨0,Nat.zero_le _,hi,rfl,G (by rw[List.drop_zero];exact A.o),Y.o⟩
 obtain⟨k,hk,M,rfl,hb,hp⟩:=hrel;have z:=G hp;have K:=hp.c0;have B:=hp.c1;clear hp Y;by_cases hlt:k<n
 ·have v:k<l.length:=by rw[y.o];exact hlt
  have Q:k<t.size:=by rw[X.o];exact hlt
  have F:=G (HT.o.at_ k Q v);have f:=HT.o.nz _ (List.getElem_mem v);have E:wrd s (l.drop k) (i+k)=if bt s (i+k)=l[k]then wrd s (l.drop (k+1)) (i+k+1)else .error (i+k):=by
   rw[List.drop_eq_getElem_cons v];rfl
  have d:=G E;clear E;have T:=U (∀p,i+k=p->i+(k+1)=p+1) (λp e=>O);obtain⟨p,x⟩:=exQ (i+k);have m:=G (T.o p x);rw[x]at M hb z B d;clear x T;by_cases hend:p<s.size
  ·have he:((p:Int)==(s.size:Int))=false:=oU_
   have C:=G (bt_lt hend);by_cases heq:bt s p=l[k]
   ·have b:=U (wrd s (l.drop (k+1)) (p+1)=r) (by rw[<-hb.o,d.o,if_pos heq])
    have hd:((s[p].toNat:Int)!=(t[k].toNat:Int))=false:=by rw[F.o,<-heq,C.o];simp
    clear heq f;go_wp2;go_quiet(fail);have a:=G (z.o.drew nq);clear K B;generalize World.drewN wr nq=w2 at *;have B:=a.o.c1;have f1:=a.o.f1;go_wp2;go_roundw
    case rel=>exact⟨k+1,O,by rw[m.o];omega,oN_,by rw[m.o];exact b,by rw[m.o];exact a.o.go (p+1)⟩
    exact oI_
   have b:=U (r=.error p) (by rw[<-hb.o,d.o,if_neg heq]);have hd:((s[p].toNat:Int)!=(t[k].toNat:Int))=true:=by rw[F.o,<-C.o];simp;omega
   clear heq f;go_wp2;go_quiet(fail);have a:=G (z.o.drew nq);clear K B;generalize World.drewN wr nq=w2 at *;go_wp2_with fail;refine(KF.o p w2 a.o).mono ?_
   rintro e W1 ⟨⟨u,pv,rfl⟩,rfl⟩;go_wp2_with fail;rw[b.o];exact⟨rfl,⟨_,_,rfl⟩,a.o⟩
  obtain rfl:p=s.size:=O;have he:((s.size:Int)==(s.size:Int))=true:=L;have b:=U (r=.error s.size) (by rw[<-hb.o,d.o,if_neg (by rw[bt_end O];exact λq=>f q.symm)]);clear f hend;go_wp2;go_quiet(fail);have a:=G (z.o.drew nq);clear K B;generalize World.drewN wr nq=w2 at *;go_wp2_with fail;refine(KF.o s.size w2 a.o).mono ?_
  rintro e W1 ⟨⟨u,pv,rfl⟩,rfl⟩;go_wp2_with fail;rw[b.o];exact⟨rfl,⟨_,_,rfl⟩,a.o⟩
 obtain rfl:k=n:=O;have c:=hb.o;rw[List.drop_of_length_le (by rw[y.o];exact Nat.le_refl _)]at c;have o:=U (r=.ok ((),i+k)) c.symm;clear hb c A;go_wp2;go_end0;rw[o.o];exact⟨⟨_,rfl,rfl⟩,z.o⟩
theorem qM(c:Nat)(hc:c≠0)(t:ByteArray)(ht:t=⟨#[UInt8.ofNat c]⟩)(h8:c<256):Wrd t [c]:=by
 subst ht;refine⟨rfl,λk h h2=>?_,λx hx=>by rw[List.mem_singleton.1 hx];exact hc⟩;obtain rfl:k=0:=by simp at h2;omega
 show(UInt8.ofNat c).toNat=c
 rw[UInt8.toNat_ofNat',Nat.mod_eq_of_lt h8]
def nY(a:Int)(v:Value)(_:Wv):Prop:=v=I J a
theorem YT{s:ByteArray}{n:Nat}{l:Int}{i:Nat}(h:bt s i=60):sgnN s (n+1) l i=sgnN s n (l+1) (i+1):=by
 conv=>lhs;unfold sgnN
 rw[if_pos h]
theorem YU{s:ByteArray}{n:Nat}{l:Int}{i:Nat}(h:¬bt s i=60):sgnN s n l i=(l,i):=by
 cases n with
 |zero=>rfl
 |succ n=>unfold sgnN;rw[if_neg h]
theorem VL(P:Nat)(s:ByteArray)(i:Nat)(w:Wv)(hP:PsB w P s i)(hi:i<=s.size)(hs:s.size<=9223372036854775806):
  Calls prog 116 #[.pointer (Z ⟨P,0,N⟩)] w (RdR P s nY (sgn s i) w):=by
 have X:=G (hP.here);have A:=G (λj(W:Wv)(h:aS P s w j W)(hj:j<=s.size)=>oB P s j W h.box hj);have K:=G (λ(W:Wv) (h:aS P s w i W)=>nU P s ⟨#[60]⟩ [60] i W h.box hi hs (qM 60 V _ rfl V) V);unfold RdR at K;clear hP;obtain⟨r,hr⟩:=exQ (sgn s i);have o:=G hr;rw[hr];clear hr;have t:=G (A.o i w X.o hi);by_cases h1:bt s i=61
 ·have d1:((bt s i:Int)==61)=true:=oU_
  have a:=U (r=.ok (0,i+1)) (by rw[<-o.o];unfold sgn;rw[if_pos h1]);have C:=bt_in (s:=s) (i:=i) O;clear h1 o;generalize bt s i=b at *;go_enter func116,ntmps116;go_wp2_with fail;refine t.o.mono ?_
  rintro e S ⟨rfl,c⟩;have y:=G c;have c1:=y.o.c1;have f1:=y.o.f1;clear c t A K;go_wp2;go_ret;rw[a.o];exact⟨⟨_,rfl,rfl⟩,y.o.go (i+1)⟩
 have d1:((bt s i:Int)==61)=false:=oU_;have a:=U (r=match wrd s [60] i with | .error e=>.error e | .ok (_,j)=>.ok (sgnN s 2 1 j)) (by rw[<-o.o];unfold sgn;rw[if_neg h1];(try(cases wrd s [60] i<;>rfl)));clear h1 o;generalize bt s i=b at *;go_enter func116,ntmps116;go_wp2_with fail;refine t.o.mono ?_
 rintro e S ⟨rfl,c⟩;have g:=G (K.o S c);have y:=G c;clear c t K;cases hq:wrd s [60] i with
 |error f=>
  rw[hq]at a g;clear hq;go_wp2_with fail;refine g.o.mono ?_
  rintro e Y ⟨⟨u,pv,rfl⟩,l⟩;have z:=G (y.o.trans l);clear l;go_wp2_with fail;rw[a.o];exact⟨rfl,⟨_,_,rfl⟩,z.o⟩
 |ok q=>
  obtain⟨u0,j⟩:=q;have Q:=(wrd_ok L hq).2 L;rw[hq]at a g;clear hq;have p:=U (r=.ok (sgnN s 2 1 j)) a.o;go_wp2_with fail;refine g.o.mono ?_
  rintro e Y ⟨⟨v,rfl,rfl⟩,l⟩;have z:=G (y.o.trans l);clear l a g y;go_wp2;go_loopw [3] (λu wr=>∃(m k:Nat),m<=2/\k<=s.size/\u=I J (3-(m:Int))/\Hi (sgnN s m (3-(m:Int)) k=sgnN s 2 1 j)/\aS P s w k wr) (λu _=>(3-intOf u).toNat)
  case atStart=>exact⟨2,j,Nat.le_refl _,Q,rfl,G rfl,z.o⟩
  obtain⟨m,k,hm,hk,rfl,hb,hp⟩:=hrel;have F:=G hp;clear hp;cases m with
  |zero=>
   have d2:decide ((3:Int)-((0:Nat):Int)<3)=false:=V;have M:=U (r=.ok (3,k)) (by rw[p.o,<-hb.o];rfl);clear hb p A;go_wp2;go_ret;rw[M.o];exact⟨⟨_,rfl,rfl⟩,F.o⟩
  |succ m=>
   have x:=G (A.o k _ F.o hk);obtain⟨lv,D⟩:∃lv:Int,3-((m+1:Nat):Int)=lv:=⟨_,rfl⟩;have T:1<=lv:=O;have E:lv<3:=O;have B:=U (lv+1=3-(m:Int)) O;rw[D]at hb|-;clear D;have d2:decide (lv<3)=true:=by simpa using E
   by_cases h2:bt s k=60
   ·have d3:((bt s k:Int)==60)=true:=oU_
    have C:=bt_in (s:=s) (i:=k) O;have R:=U (sgnN s m (lv+1) (k+1)=sgnN s 2 1 j) (by rw[<-hb.o,YT h2]);clear h2 hb;generalize bt s k=b2 at *;go_wp2_with fail;refine x.o.mono ?_
    rintro e W3 ⟨rfl,n⟩;have d:=G (F.o.trans n);have c1:=d.o.c1;have f1:=d.o.f1;clear n x A;go_wp2;go_roundw
    case rel=>exact⟨m,k+1,O,C,by rw[<-B.o],by rw[<-B.o];exact R,d.o.go (k+1)⟩
    exact oI_
   have d3:((bt s k:Int)==60)=false:=oU_;have M:=U (r=.ok (lv,k)) (by rw[p.o,<-hb.o,YU h2]);clear h2 hb p;generalize bt s k=b2 at *;go_wp2_with fail;refine x.o.mono ?_
   rintro e W3 ⟨rfl,n⟩;have d:=G (F.o.trans n);clear n x A;go_wp2;go_ret;rw[M.o];exact⟨⟨_,rfl,rfl⟩,d.o⟩
theorem VJ:∀{k:Nat},k<=3->(1:Int)<=16^k/\(16:Int)^k<=4096
 |0,_=>V
 |1,_=>V
 |2,_=>V
 |3,_=>V
 |k+4,h=>O
theorem L_(s:ByteArray)(i:Nat):Pa.code s i=match four s 4 0 i with | .error e=>.error e | .ok (c,j)=>.ok (more s c j):=by
 unfold Pa.code;cases four s 4 0 i<;>rfl
theorem UX(P:Nat)(s:ByteArray)(i:Nat)(w:Wv)(hP:PsB w P s i)(hi:i<=s.size)(hs:s.size<=9223372036854775806):
  Calls prog 162 #[.pointer (Z ⟨P,0,N⟩)] w (RdR P s nY (Pa.code s i) w):=by
 have HP:=G (hP.here);have KN:=G (λj(W:Wv)(h:aS P s w j W)(hj:j<=s.size)=>oB P s j W h.box hj);have KF:=G (λj(W:Wv)(h:aS P s w j W)=>yA P s j W h.box);obtain⟨r,hr⟩:=exQ (Pa.code s i);have t:=U (r=match four s 4 0 i with | .error e=>.error e | .ok (c,j)=>.ok (more s c j)) (by rw[<-hr,L_]);rw[hr];clear hP hr;go_enter func162,ntmps162;go_wp2;go_loopw [3,6] (λu v wr=>∃(k p:Nat)(c:Int),k<=4/\p<=s.size/\0<=c/\c<16^k/\u=I J c/\v=I J k/\Hi (four s (4-k) c p=four s 4 0 i)/\aS P s w p wr) (λ_ v _=>(4-intOf v).toNat)
 case atStart=>exact⟨0,i,0,O,hi,V,V,rfl,rfl,G rfl,HP.o⟩
 obtain⟨k,p,c,hk,hp,ag,B,rfl,rfl,hb,x⟩:=hrel;have E:=G x;clear x;by_cases hlt:k<4
 ·obtain⟨q1,q2⟩:=VJ (k:=k) O
  have ah:c<=4095:=O;have HC:=U (∀d:Int,d<=15->16*c+d<16^(k+1)) (λd hd=>by rw[Int.pow_succ];omega);have f:=G (KN.o p _ E.o hp);have l:=bt_256 s p;obtain⟨m,hm⟩:∃m,4-k=m+1:=⟨3-k,O⟩;have HM:=U (4-(k+1)=m) O;have S:four s (4-k) c p=if dg (bt s p)<0 then .error p else four s m (16*c+dg (bt s p)) (p+1):=by rw[hm];rfl
  have g:=dg_in (s:=s) (i:=p);have o:=dg_bd (bt s p);have y:=G (hb.o.symm.trans S);have C:=G (λW=>xH (bt s p) l W);clear S hb hm q1 q2 B l;generalize bt s p=b at *;generalize dg b=d at *;by_cases hd:d<0
  ·have dd:decide (d<0)=true:=by simpa using hd
   have A:=U (r=.error p) (by rw[t.o,y.o,if_pos hd]);clear g HC y t HM;go_wp2_with fail;refine f.o.mono ?_
   rintro e X ⟨rfl,a⟩;have n:=G (E.o.trans a);clear a f;go_wp2_with fail;refine(C.o _).mono ?_
   rintro e Y ⟨rfl,rfl⟩;go_wp2_with fail;refine(KF.o p _ n.o).mono ?_
   rintro e W3 ⟨⟨u,pv,rfl⟩,rfl⟩;go_wp2_with fail;rw[A.o];exact⟨rfl,⟨_,_,rfl⟩,n.o⟩
  have dd:decide (d<0)=false:=by simpa using hd
  have ai:0<=d:=O;have M:d<=15:=o.2;have HN:=U (four s (4-(k+1)) (16*c+d) (p+1)=four s 4 0 i) (by rw[HM.o,y.o,if_neg hd]);have Q:=g hd;have L:=HC.o d M;have ab:=G L;clear g HC y t HM hd o L;go_wp2_with fail;refine f.o.mono ?_
  rintro e X ⟨rfl,a⟩;have n:=G (E.o.trans a);have c1:=n.o.c1;have f1:=n.o.f1;clear a f;go_wp2_with fail;refine(C.o _).mono ?_
  rintro e Y ⟨rfl,rfl⟩;go_wp2;go_roundw
  case rel=>exact⟨k+1,p+1,16*c+d,O,O,O,ab.o,rfl,oN_,HN,n.o.go (p+1)⟩
  exact oI_
 have R:=U (k=4) O;have ah:c<=65535:=by rw[R.o]at B;omega
 have A:=U (r=.ok (more s c p)) (by rw[t.o,<-hb.o,R.o];rfl);have d0:decide ((k:Int)<4)=false:=oU_;clear t hb B HP;go_wp2;go_loopw [3] (λu wr=>∃(q:Nat)(z:Int),q<=s.size/\0<=z/\z<=1114111/\u=I J z/\Hi (more s z q=more s c p)/\aS P s w q wr) (λu _=>(1114111-intOf u).toNat)
 case atStart=>exact⟨p,c,hp,ag,O,rfl,G rfl,E.o⟩
 obtain⟨q,z,hq,aq,ar,rfl,hb,x⟩:=hrel;have F:=G x;clear x E;by_cases hz4:4096<=z
 ·have d1:decide (4096<=z)=true:=by simpa using hz4
  have f:=G (KN.o q _ F.o hq);have l:=bt_256 s q;have g:=dg_in (s:=s) (i:=q);have o:=dg_bd (bt s q);have C:=G (λW=>xH (bt s q) l W);have T:=G (λh=>more_step (s:=s) (c:=z) (i:=q) h);have K:=G (λh=>more_stop (s:=s) (c:=z) (i:=q) h);clear l;generalize bt s q=b at *;generalize dg b=d at *;by_cases hd:d<0
  ·have dd:decide (d<0)=true:=by simpa using hd
   have D:=U (r=.ok (z,q)) (by rw[A.o,<-hb.o,K.o O]);clear g hb A T K;go_wp2_with fail;refine f.o.mono ?_
   rintro e X ⟨rfl,a⟩;have n:=G (F.o.trans a);clear a f;go_wp2_with fail;refine(C.o _).mono ?_
   rintro e Y ⟨rfl,rfl⟩;go_wp2;go_ret;rw[D.o];exact⟨⟨_,rfl,rfl⟩,n.o⟩
  have dd:decide (d<0)=false:=by simpa using hd
  have ai:0<=d:=O;have M:d<=15:=o.2;have Q:=g hd;by_cases hbig:1114111<16*z+d
  ·have d3:decide (1114111<16*z+d)=true:=by simpa using hbig
   have D:=U (r=.ok (z,q)) (by rw[A.o,<-hb.o,K.o O]);clear g hb A T K hd o;go_wp2_with fail;refine f.o.mono ?_
   rintro e X ⟨rfl,a⟩;have n:=G (F.o.trans a);clear a f;go_wp2_with fail;refine(C.o _).mono ?_
   rintro e Y ⟨rfl,rfl⟩;go_wp2;go_ret;rw[D.o];exact⟨⟨_,rfl,rfl⟩,n.o⟩
  have d3:decide (1114111<16*z+d)=false:=by simpa using hbig
  have HN:=U (more s (16*z+d) (q+1)=more s c p) (by rw[<-T.o O,hb.o]);have af:16*z+d<=1114111:=O;clear g hb T K hd o hbig;go_wp2_with fail;refine f.o.mono ?_
  rintro e X ⟨rfl,a⟩;have n:=G (F.o.trans a);have c1:=n.o.c1;have f1:=n.o.f1;clear a f;go_wp2_with fail;refine(C.o _).mono ?_
  rintro e Y ⟨rfl,rfl⟩;go_wp2;go_roundw
  case rel=>exact⟨q+1,16*z+d,O,O,af,rfl,HN,n.o.go (q+1)⟩
  exact oI_
 have d1:decide (4096<=z)=false:=by simpa using hz4
 have D:=U (r=.ok (z,q)) (by rw[A.o,<-hb.o,more_stop O]);clear hb A;go_wp2;go_ret;rw[D.o];exact⟨⟨_,rfl,rfl⟩,F.o⟩
theorem zH{s:ByteArray}:∀(n m:Nat)(a:Li)(i:Nat),s.size-i<=n->s.size-i<=m->litN s n a i=litN s m a i
 |0,0,a,i,_,_=>rfl
 |0,m+1,a,i,h,_=>by
  have e:litN s (m+1) a i=.ok (a,i):=by
   unfold litN;rw[if_neg (by rw[bt_end O];decide)]
  rw[e];rfl
 |n+1,0,a,i,_,h=>by
  have e:litN s (n+1) a i=.ok (a,i):=by
   unfold litN;rw[if_neg (by rw[bt_end O];decide)]
  rw[e];rfl
 |n+1,m+1,a,i,h1,h2=>by
  unfold litN;by_cases h0:bt s i=32
  ·rw[if_pos h0,if_pos h0]
   cases hc:Pa.code s (i+1)with
   |error e=>rfl
   |ok q=>
    obtain⟨c,j⟩:=q;have:=code_ok hc;exact zH n m _ j O O
  rw[if_neg h0,if_neg h0]
def iW(s:ByteArray)(a:Li)(i:Nat):Rd (Li):=litN s (s.size-i) a i
theorem RI{s:ByteArray}{a:Li}{i:Nat}(h:¬bt s i=32):iW s a i=.ok (a,i):=by
 unfold iW;cases s.size-i with
 |zero=>rfl
 |succ n=>unfold litN;rw[if_neg h]
theorem RH{s:ByteArray}{a:Li}{i:Nat}(h:bt s i=32):iW s a i=match Pa.code s (i+1)with | .error e=>.error e | .ok (c,j)=>iW s (a++[c]) j:=by
 have b:=bt_in (s:=s) (i:=i) O;unfold iW;rw[show s.size-i=(s.size-(i+1))+1 by omega];conv=>lhs;unfold litN
 rw[if_pos h];cases hc:Pa.code s (i+1)with
 |error e=>rfl
 |ok q=>
  obtain⟨c,j⟩:=q;have:=code_ok hc;exact zH _ _ _ j O (Nat.le_refl _)
theorem RJ(s:ByteArray)(i:Nat):lit s i=match wrd s [40] i with
  | .error e=>.error e
  | .ok (_,i1)=>match Pa.code s i1 with
   | .error e=>.error e
   | .ok (c,i2)=>match iW s [c] i2 with
    | .error e=>.error e
    | .ok (l,i3)=>match wrd s [41] i3 with
     | .error e=>.error e
     | .ok (_,i4)=>.ok (l,skp s i4):=by
 unfold lit iW;cases wrd s [40] i with
 |error e=>rfl
 |ok q=>
  cases Pa.code s q.2 with
  |error e=>rfl
  |ok q2=>
   cases litN s (s.size-q2.2) [q2.1] q2.2 with
   |error e=>rfl
   |ok q3=>
    cases wrd s [41] q3.2<;>rfl
def AP(w:Wv)(l:Li)(v:Value)(w':Wv):Prop:=∃A c,v=H A l.length c/\w'.ownsRow w.heap.size 3 1 (H A l.length c) l.length (l.map (Value.int .i64))
section
variable {P i j n m:Nat}{s:ByteArray}{w w' w'':Wv}
theorem aS.low(h:aS P s w j w')(hP:P<w.heap.size)(hb:Below w.heap.size w' w''):aS P s w j w'':=⟨h.box.below hb hP,⟨hb.os.trans h.gr.os,hb.tape.trans h.gr.tape,hb.output.trans h.gr.output,Nat.le_trans h.gr.size hb.size,λk hk hne=>(hb.block k hk).trans (h.gr.block k hk hne)⟩⟩
theorem lO{base size:Nat}{e:TypeId}{v:Value}{xs:Lv}(h:w.ownsRow base e size v n xs)(hg:w.grownBy w' (Z P))(hP:P<base):w'.ownsRow base e size v n xs:=by
 refine h.kept hg ?_;cases hb:v.ownBlock with
 |none=>exact .inl rfl
 |some q=>
  right;intro e;have:=(h.lt q hb).1;injection e with e;omega
end
theorem U_(P:Nat)(s:ByteArray)(i:Nat)(w:Wv)(hP:PsB w P s i)(hi:i<=s.size)(hs:s.size<=65536):
  Calls prog 115 #[.pointer (Z ⟨P,0,N⟩)] w (RdR P s (AP w) (lit s i) w):=by
 have HP:=G (hP.here);have x:P<w.heap.size:=hP.lt;have KN:=G (λj(W:Wv)(h:aS P s w j W)(hj:j<=s.size)=>oB P s j W h.box hj);have T:=G (nU P s ⟨#[40]⟩ [40] i w hP hi O (qM 40 V _ rfl V) V);have KG:=G (λj(W:Wv)(h:aS P s w j W)(hj:j<=s.size)=>nU P s ⟨#[41]⟩ [41] j W h.box hj O (qM 41 V _ rfl V) V);have KC:=G (λj(W:Wv)(h:aS P s w j W)(hj:j<=s.size)=>UX P s j W h.box hj O);have KB:=G (λj(W:Wv)(h:aS P s w j W)(hj:j<=s.size)=>rQ P s j W h.box hj O);unfold RdR at T KG KC;obtain⟨r,hr⟩:=exQ (lit s i);have a:=G (hr.symm.trans (RJ s i));rw[hr];clear hP hr;cases h1:wrd s [40] i with
 |error f=>
  rw[h1]at a T;have F:=U (r=.error f) a.o;clear h1 a;go_enter func115,ntmps115;go_wp2_with fail;refine T.o.mono ?_
  rintro e W1 ⟨⟨u,pv,rfl⟩,n⟩;have HW:=G n;clear n;go_wp2_with fail;rw[F.o];exact⟨rfl,⟨_,_,rfl⟩,HW.o⟩
 |ok q1=>
 obtain⟨u1,i1⟩:=q1;have aj:=(wrd_ok L h1).2 L;rw[h1]at a T;clear h1;dsimp only at a T;cases h2:Pa.code s i1 with
 |error f=>
  have d:=G (λ(W:Wv) (h:aS P s w i1 W)=>KC.o i1 W h aj);rw[h2]at a d;have F:=U (r=.error f) a.o;clear h2 a;go_enter func115,ntmps115;go_wp2_with fail;refine T.o.mono ?_
  rintro e W1 ⟨⟨v,rfl,rfl⟩,n⟩;have HW:=G n;have R:=G (d.o W1 n);clear n d KC T;go_wp2_with fail;refine R.o.mono ?_
  rintro e W2 ⟨⟨u,pv,rfl⟩,E⟩;have Q:=G (HW.o.trans E);clear E;go_wp2_with fail;rw[F.o];exact⟨rfl,⟨_,_,rfl⟩,Q.o⟩
 |ok q2=>
 obtain⟨z0,i2⟩:=q2;have ax:=code_ok h2;have d:=G (λ(W:Wv) (h:aS P s w i1 W)=>KC.o i1 W h aj);rw[h2]at a d;clear h2;dsimp only at a d;go_enter func115,ntmps115;go_wp2_with fail;refine T.o.mono ?_
 rintro e W1 ⟨⟨v,rfl,rfl⟩,n⟩;have HW:=G n;have R:=G (d.o W1 n);clear n d T;go_wp2_with fail;refine R.o.mono ?_
 rintro e W2 ⟨⟨v,rfl,rfl⟩,E⟩;have Q:=G (HW.o.trans E);have a0:=Q.o.gr.size;clear E R;go_wp2;go_loopw [3] (λu wr=>∃(l:Li)(A:Oa)(c p:Nat),l.length<=p/\p<=s.size/\u=H A l.length c/\Hi (iW s l p=iW s [z0] i2)/\wr.ownsRow w.heap.size 3 1 (H A l.length c) l.length (l.map (Value.int .i64))/\aS P s w p wr) (λ_ wr=>s.size-gY P wr)
 case atStart=>
  refine⟨[z0],_,_,i2,oU_,ax.2,rfl,G rfl,jG [I J z0] 3 1 1 w.heap.size rfl rfl a0 V,Q.o.below (ba _ _)⟩
 obtain⟨l,A,c,p,bd,hp,rfl,hb,ho,ab⟩:=hrel;have HR:=G ab;have HO:=G ho;have q:=G (KN.o p _ ab hp);clear ab ho;by_cases h32:bt s p=32
 ·have d1:((bt s p:Int)==32)=true:=oU_
  have az:=bt_in (s:=s) (i:=p) O;have y:=G (hb.o.symm.trans (RH h32));have d:=G (λ(W:Wv) (h:aS P s w (p+1) W)=>KC.o (p+1) W h az);clear h32 hb;generalize bt s p=b at *;cases h3:Pa.code s (p+1)with
  |error f=>
   rw[h3]at y d;have F:=U (r=.error f) (by rw[a.o,y.o]);clear h3 y a;go_wp2_with fail;refine q.o.mono ?_
   rintro e Y ⟨rfl,k⟩;have g:=G (HR.o.trans k);have c1:=g.o.c1;have f1:=g.o.f1;have m:=U (aS P s w (p+1) (Y.setCell ⟨P,1,N⟩ (I J ((p:Int)+1)))) (g.o.go (p+1));have S:=G (d.o _ m.o);clear k q d;go_wp2_with fail;refine S.o.mono ?_
   rintro e W5 ⟨⟨u,pv,rfl⟩,o⟩;have B:=G (m.o.trans o);clear o;go_wp2_with fail;rw[F.o];exact⟨rfl,⟨_,_,rfl⟩,B.o⟩
  |ok q3=>
   obtain⟨z,j⟩:=q3;have hj:=code_ok h3;rw[h3]at y d;have HN:=U (iW s (l++[z]) j=iW s [z0] i2) y.o.symm;clear h3 y;dsimp only at d;go_wp2_with fail;refine q.o.mono ?_
   rintro e Y ⟨rfl,k⟩;have g:=G (HR.o.trans k);have c1:=g.o.c1;have f1:=g.o.f1;have m:=U (aS P s w (p+1) (Y.setCell ⟨P,1,N⟩ (I J ((p:Int)+1)))) (g.o.go (p+1));have S:=G (d.o _ m.o);have K:=G (lO HO.o k.gr x);have M:=G (lO K.o (bR Y ⟨P,1,N⟩ (I J ((p:Int)+1))) x);clear k q d;go_wp2_with fail;refine S.o.mono ?_
   rintro e W5 ⟨⟨v,rfl,rfl⟩,o⟩;have B:=G (m.o.trans o);have be:=B.o.gr.size;have aa:=G (lO M.o o.gr x);clear o HO K M S c1 f1;go_wp2_with(at_builtin;refine a_ _ _ 33 3 (I J 0) 1 8 rfl rfl underlying33 cU rfl V V rfl (aa.o.alloc _) rfl (fI W5 [z] _ rfl) L (cJ _) O oU_ ?_;intro K3 k3 w3 D av ai aw au);have aq:=G D;have af:=G ((B.o.below (ba _ _)).low x ai);clear D av ai aw au;go_wp2;go_roundw
   case rel=>exact⟨l++[z],K3,k3,j,oU_,hj.2,by rw[List.length_append];rfl,HN,by rw[List.length_append,List.map_append];exact aq.o,af.o⟩
   rw[af.o.at,HR.o.at];omega
 have d1:((bt s p:Int)==32)=false:=oU_;have HQ:=U (iW s [z0] i2=.ok (l,p)) (by rw[<-hb.o,RI h32]);have t:=G (λ(W:Wv) (h:aS P s w p W)=>KG.o p W h hp);clear h32 hb;generalize bt s p=b at *;cases h4:wrd s [41] p with
 |error f=>
  have F:=U (r=.error f) (by rw[a.o,HQ.o];dsimp only;rw[h4]);rw[h4]at t;clear h4 HQ a;go_wp2_with fail;refine q.o.mono ?_
  rintro e Y ⟨rfl,k⟩;have g:=G (HR.o.trans k);have X:=G (t.o Y g.o);clear k q t;go_wp2_with fail;refine X.o.mono ?_
  rintro e W4 ⟨⟨u,pv,rfl⟩,C⟩;have m:=G (g.o.trans C);clear C;go_wp2_with fail;rw[F.o];exact⟨rfl,⟨_,_,rfl⟩,m.o⟩
 |ok q4=>
  obtain⟨u4,i4⟩:=q4;have ay:=(wrd_ok L h4).2 L;have F:=U (r=.ok (l,skp s i4)) (by rw[a.o,HQ.o];dsimp only;rw[h4]);rw[h4]at t;dsimp only at t;clear h4 HQ a;go_wp2_with fail;refine q.o.mono ?_
  rintro e Y ⟨rfl,k⟩;have g:=G (HR.o.trans k);have X:=G (t.o Y g.o);have K:=G (lO HO.o k.gr x);clear k q t;go_wp2_with fail;refine X.o.mono ?_
  rintro e W4 ⟨⟨v,rfl,rfl⟩,C⟩;have m:=G (g.o.trans C);have M:=G (lO K.o C.gr x);have ag:=G (KB.o i4 W4 m.o ay);clear C X;go_wp2_with fail;refine ag.o.mono ?_
  rintro e W5 ⟨rfl,o⟩;have B:=G (m.o.trans o);have aa:=G (lO M.o o.gr x);clear o ag;go_wp2;go_ret;rw[F.o];exact⟨⟨_,rfl,_,_,rfl,aa.o⟩,B.o⟩
end
namespace Pa
open Go.RowKit Tl
structure Pre(s s':ByteArray)(e:Nat):Prop where
 sz:s'.size=e
 le:e<=s.size
 eq:∀i,i<e->bt s' i=bt s i
section
variable {s s':ByteArray}{e:Nat}
theorem Pre.z(h:Pre s s' e){i:Nat}(hi:e<=i):bt s' i=0:=bt_end (by rw[h.sz];omega)
def bfr(s:ByteArray)(i:Nat):Rd Bool:=if bt s i=91 then(match wrd s [91,98,101,102,111,114,101,93] i with | .error e=>.error e | .ok (_,j)=>.ok (true,skp s j))else .ok (false,i)
theorem bfr_ok{s:ByteArray}{b:Bool}{i j:Nat}(h:bfr s i=.ok (b,j)):i<=j/\(bt s i=91->i<j):=by
 unfold bfr at h;split at h
 ·next h0=>
  split at h
  ·cases h
  next u j1 h1=>
  injection h with h;injection h with _ h;have a:=(wrd_ok L h1).1;have c:=blk_le s j1;simp at a;omega
 next h0=>
 injection h with h;injection h with _ h;exact⟨O,λq=>absurd q h0⟩
theorem chn_eq(s:ByteArray)(l:List Tlr)(i:Nat):chn s l i=match wrd s [38] i with
  | .error e=>.error e
  | .ok (_,i1)=>
   match bfr s (skp s i1)with
   | .error e=>.error e
   | .ok (b,i2)=>
    match lit s i2 with
    | .error e=>.error e
    | .ok (a,i3)=>stpN s (s.size+1-i3) a b l i3:=rfl
end
end Pa
namespace Pa
open Go.RowKit Tl
def hd(d:Int):Int:=if d<10 then 48+d else 55+d
def hexI(c:Int):Li:=
 if c<65536 then [hd (c/4096),hd (c/256%16),hd (c/16%16),hd (c%16)]
 else if c<1048576 then [hd (c/65536),hd (c/4096%16),hd (c/256%16),hd (c/16%16),hd (c%16)]
 else [hd (c/1048576),hd (c/65536%16),hd (c/4096%16),hd (c/256%16),hd (c/16%16),hd (c%16)]
def codI:Li->Li
 | []=>[]
 | [c]=>hexI c
 |c::d::r=>hexI c++32::codI (d::r)
def At(s:ByteArray)(i:Nat)(r:Li):Prop:=i+r.length=s.size/\∀k,(bt s (i+k):Int)=r.getD k 0
section
variable {s:ByteArray}{i:Nat}{c:Int}{r:Li}
theorem At.hd(h:At s i (c::r)):(bt s i:Int)=c:=h.2 0
theorem At.tl(h:At s i (c::r)):At s (i+1) r:=⟨by have:=h.1;simp at this;omega,λk=>by
 have:=h.2 (k+1)
 rw[show i+1+k=i+(k+1) by omega,this]
 rfl⟩
theorem At.nil(h:At s i []):i=s.size:=by have:=h.1;simpa using this
theorem At.app:∀{l:Li}{i:Nat},At s i (l++r)->At s (i+l.length) r
 | [],i,h=>h
 |c::l,i,h=>by
  have:=At.app (l:=l) (At.tl h);rw[show i+1+l.length=i+(c::l).length by simp;omega]at this;exact this
theorem At.stop(h:At s i (c::r))(hc:¬(c=32\/c=10)):skp s i=i:=blk_stop (by have:=h.hd;omega)
theorem codI_eq(c:Int):∀l:Li,codI (c::l)=hexI c++l.flatMap λc=>32::hexI c
 | []=>by simp[codI]
 |d::l=>by
  show hexI c++32::codI (d::l)=_
  rw[codI_eq d l];simp
theorem hexI_len(c:Int):4<=(hexI c).length/\(hexI c).length<=6:=by
 unfold hexI;split
 ·simp
 split<;>simp
theorem fl_len:∀l:Li,5*l.length<=(l.flatMap λc=>32::hexI c).length/\(l.flatMap λc=>32::hexI c).length<=7*l.length
 | []=>L
 |c::l=>by
  have a:=fl_len l;have b:=hexI_len c;rw[List.flatMap_cons,List.length_append,List.length_cons,List.length_cons];omega
theorem codI_len(l:Li):(codI l).length<=7*l.length:=by
 cases l with
 |nil=>simp[codI]
 |cons c l=>
  have a:=fl_len l;have b:=hexI_len c;rw[codI_eq,List.length_append,List.length_cons];omega
end
end Pa
end Go.Proofs.YtkhmjidaeliccaaGreatDoor
