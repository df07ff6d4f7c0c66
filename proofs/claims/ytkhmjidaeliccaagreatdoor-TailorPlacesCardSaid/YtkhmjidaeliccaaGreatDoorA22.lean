/- Texts that are merged into one file: TlKeep, TlDtx, PaPlain, PaNext, PaCode. -/
import Derived.Test.YtkhmjidaeliccaaGreatDoorA02
import Derived.Test.YtkhmjidaeliccaaGreatDoorA08
import Derived.Test.YtkhmjidaeliccaaGreatDoorA11
import Derived.Test.YtkhmjidaeliccaaGreatDoorA14
import Derived.Test.YtkhmjidaeliccaaGreatDoorA15
import Derived.Test.YtkhmjidaeliccaaGreatDoorA16
import Derived.Test.YtkhmjidaeliccaaGreatDoorProg
import Derived.WalkSpells
set_option maxRecDepth 100000
set_option maxHeartbeats 51200000
namespace Go.Proofs.YtkhmjidaeliccaaGreatDoor.Tl
open Go.RowKit
def wn (k:Nat) (e:Elt):Int:=if k < 3 then rawE e k else if noneE e=true then 0 else 65535
def rw1 (es:List Elt) (k:Nat):List Int:=(es.map (wn k)).filter (fun x=>decide (x≠0))
theorem rw1_app (a b:List Elt) (k:Nat):rw1 (a++b) k=rw1 a k++rw1 b k:=by unfold rw1;rw [List.map_append,List.filter_append]
theorem rw1_flat {α:Type} (f:α→List Elt) (k:Nat) (l:List α):rw1 (l.flatMap f) k=l.flatMap (fun x=>rw1 (f x) k):=by
 induction l with
 | nil=>rfl
 | cons x l ih=>rw [List.flatMap_cons,rw1_app,ih,List.flatMap_cons]
def NN (e:Elt):Prop:=0≤e.p∧0≤e.s∧0≤e.t
theorem EOk.nn {e:Elt} (h:EOk e):NN e:=⟨h.p0,h.s0,h.t0⟩
theorem wn_nn {e:Elt} (h:NN e) (k:Nat):0≤wn k e:=by
 obtain ⟨h1,h2,h3⟩:=h
 unfold wn rawE
 repeat' split
 all_goals omega
section
variable {k l:Int} {e:Elt}
theorem wn_rs (hl:1≤l) (h:NN e) (j:Nat):wn j (rsE k l e)=if k=j+1∧j < 3 then mvd l (wn j e) else wn j e:=by
 obtain ⟨h1,h2,h3⟩:=h
 have q1:(rsE k l e).p=0 ↔ e.p=0:=by rw [rsE_p];split;(rw [mvd_zero hl];omega);exact Iff.rfl
 have q2:(rsE k l e).s=0 ↔ e.s=0:=by rw [rsE_s];split;(rw [mvd_zero hl];omega);exact Iff.rfl
 have q3:(rsE k l e).t=0 ↔ e.t=0:=by rw [rsE_t];split;(rw [mvd_zero hl];omega);exact Iff.rfl
 by_cases j3:j < 3
 ·rcases show j=0∨j=1∨j=2 by omega with rfl | rfl | rfl
  ·show (rsE k l e).p=if k=((0:Nat):Int)+1∧0 < 3 then mvd l e.p else e.p
   rw [rsE_p]
   by_cases hk:k=1
   ·rw [if_pos hk,if_pos ⟨by omega,by decide⟩]
   ·rw [if_neg hk,if_neg (by omega)]
  ·show (rsE k l e).s=if k=((1:Nat):Int)+1∧1 < 3 then mvd l e.s else e.s
   rw [rsE_s]
   by_cases hk:k=2
   ·rw [if_pos hk,if_pos ⟨by omega,by decide⟩]
   ·rw [if_neg hk,if_neg (by omega)]
  ·show (rsE k l e).t=if k=((2:Nat):Int)+1∧2 < 3 then mvd l e.t else e.t
   rw [rsE_t]
   by_cases hk:k=3
   ·rw [if_pos hk,if_pos ⟨by omega,by decide⟩]
   ·rw [if_neg hk,if_neg (by omega)]
 ·have hneg:¬(k=(j:Int)+1∧j < 3):=fun g=>j3 g.2
  have hno:noneE (rsE k l e)=noneE e:=by
   unfold noneE
   rw [show decide ((rsE k l e).p=0)=decide (e.p=0) from decide_eq_decide.2 q1,show decide ((rsE k l e).s=0)=decide (e.s=0) from decide_eq_decide.2 q2,show decide ((rsE k l e).t=0)=decide (e.t=0) from decide_eq_decide.2 q3]
  rw [if_neg hneg]
  unfold wn
  rw [if_neg j3,if_neg j3,hno]
theorem rw1_rs (hl:1≤l) {es:List Elt} (h:∀e ∈ es,NN e) (j:Nat):rw1 (es.map (rsE k l)) j=if k=j+1∧j < 3 then (rw1 es j).map (mvd l) else rw1 es j:=by
 induction es with
 | nil=>simp [rw1]
 | cons e es ih=>
  have ih:=ih (fun x hx=>h x (List.mem_cons_of_mem _ hx))
  have he:=h e (by simp)
  have hw:=wn_rs (k:=k) hl he j
  have hn:=wn_nn he j
  have e1:∀(x:Elt) (xs:List Elt),rw1 (x::xs) j=(if wn j x=0 then [] else [wn j x])++rw1 xs j:=by
   intro x xs
   unfold rw1
   rw [List.map_cons]
   by_cases q:wn j x=0
   ·rw [List.filter_cons_of_neg (by simpa using q),if_pos q];rfl
   ·rw [List.filter_cons_of_pos (by simpa using q),if_neg q];rfl
  rw [List.map_cons,e1,e1,ih,hw]
  by_cases hk:k=j+1∧j < 3
  ·rw [if_pos hk,if_pos hk,if_pos hk]
   by_cases q:wn j e=0
   ·rw [q,mvd_z hl,if_pos rfl];rfl
   ·have:1≤mvd l (wn j e):=mvd_pos (by omega)
    rw [if_neg q,if_neg (by omega)]
    simp
  ·rw [if_neg hk,if_neg hk,if_neg hk]
end
structure Rm (k l:Int) (c c1:Col):Prop where
 ok:colErr c=0
 k03:k=0∨k=1∨k=2∨k=3
 l1:1≤l
 lb:k=1→l≤c.base
 ents:c1.ents=c.ents.map fun x=>⟨x.codes,x.elems.map (rsE k l)⟩
 base:c1.base=if k=1 then mvd l c.base else c.base
 second:c1.second=if k=2 then mvd l c.second else c.second
 third:c1.third=if k=3 then mvd l c.third else c.third
section
variable {d:List Int} {kn:Bool} {es:List Elt} {c:Col} {t:Tlr} {c':Col}
def lT (t:Tlr) (es:List Elt):Int:=if t.lvl=0 then 1 else lst (atW t.lvl es) t.bef
theorem StpOk.room (h:StpOk d kn es c t c') (hk:kndT t=true) (hc:colErr c=0) (ha:AncOk c.base es):Rm t.lvl (lT t es) c (rmC t es c):=by
 unfold rmC lT
 rcases h.lv with ⟨h1,_⟩ | ⟨h1,h2,h3,h4,h5⟩
 ·rw [if_pos h1,if_pos h1,h1]
  refine ⟨hc,.inl rfl,by decide,fun q=>absurd q (by decide),?_,rfl,rfl,rfl⟩
  refine ((List.map_congr_left fun x _=>?_).trans (List.map_id _)).symm
  rw [show x.elems.map (rsE 0 1)=x.elems from (List.map_congr_left fun e _=>rsE_0 (by decide) e).trans (List.map_id _)]
  rfl
 ·rw [if_neg (by omega),if_neg (by omega)]
  obtain ⟨w1,wb⟩:=atW_pos ha h2
  have hl:=lst_cases (atW t.lvl es) t.bef
  refine ⟨hc,.inr (lvl_cases hk h1),by omega,fun q=>?_,rfl,rfl,rfl,rfl⟩
  have:=wb q
  omega
end
section
variable {k l:Int} {c c1:Col} {cl:Int→Int}
theorem Rm.last (h:Rm k l c c1) (zs:List Int):lastE c1.ents zs=(lastE c.ents zs).map (List.map (rsE k l)):=by
 rw [h.ents]
 exact last_map c.ents zs
theorem last_nn {c:Col} (h:colErr c=0) {p:List Int} {es:List Elt} (hl:lastE c.ents p=some es):∀e ∈ es,NN e∧e.p < c.base:=by
 intro e he
 obtain ⟨x,hx,_,rfl⟩:=lastE_mem hl
 have:=(ent_iff c.base x).1 (ents_all (col_ents h) x hx)
 exact ⟨(this.ev e he).nn,this.eb e he⟩
theorem Rm.part (h:Rm k l c c1) (p:List Int) (q:Bool) {j:Nat} (hj:¬(k=1∧j=0)):rw1 (Mtc.ofPart (lastE c1.ents) (impE c1) p q) j=if k=j+1∧j < 3 then (rw1 (Mtc.ofPart (lastE c.ents) (impE c) p q) j).map (mvd l) else rw1 (Mtc.ofPart (lastE c.ents) (impE c) p q) j:=by
 cases q with
 | true=>
  unfold Mtc.ofPart
  rw [if_pos rfl,if_pos rfl,h.last]
  cases hl:lastE c.ents p with
  | none=>simp [rw1]
  | some es=>
   show rw1 (es.map (rsE k l)) j=_
   exact rw1_rs h.l1 (fun e he=>(last_nn h.ok hl e he).1) j
 | false=>
  unfold Mtc.ofPart
  simp only [Bool.false_eq_true,↓reduceIte]
  generalize p.getD 0 0=z
  obtain ⟨_,g2,g3,g4,g5⟩:=col_grps h.ok
  unfold impE
  rw [h.base,h.second,h.third]
  by_cases hz:0≤z∧z≤1114111
  ·rw [if_pos hz,if_pos hz]
   have hm2:=mvd_pos (l:=l) g4.1
   have hm3:=mvd_pos (l:=l) g5.1
   have hm1:=mvd_pos (l:=l) g2
   rcases h.k03 with rfl | rfl | rfl | rfl
   ·simp [show ¬((0:Int)=(j:Int)+1) by omega]
   ·have hj0:j≠0:=fun e=>hj ⟨rfl,e⟩
    rw [if_neg (show ¬((1:Int)=(j:Int)+1∧j < 3) from fun g=>hj0 (by omega))]
    by_cases j3:j < 3
    ·rcases (show j=1∨j=2 by omega) with rfl | rfl
     ·simp [rw1,wn,rawE]
     ·simp [rw1,wn,rawE]
    ·have e1:¬(mvd l c.base+z / 32768=0):=by omega
     have e2:¬(c.base+z / 32768=0):=by omega
     unfold rw1 wn noneE
     simp [j3,e1,e2]
   ·by_cases j1:j=1
    ·subst j1
     have e2:¬c.second=0:=by omega
     have e3:¬mvd l c.second=0:=by omega
     simp [rw1,wn,rawE,e2,e3]
    ·rw [if_neg (show ¬((2:Int)=(j:Int)+1∧j < 3) from fun g=>j1 (by omega))]
     by_cases j3:j < 3
     ·rcases (show j=0∨j=2 by omega) with rfl | rfl
      ·simp [rw1,wn,rawE]
      ·simp [rw1,wn,rawE]
     ·unfold rw1 wn noneE
      have e2:¬(c.base+z / 32768=0):=by omega
      simp [j3,e2]
   ·by_cases j2:j=2
    ·subst j2
     have e2:¬c.third=0:=by omega
     have e3:¬mvd l c.third=0:=by omega
     simp [rw1,wn,rawE,e2,e3]
    ·rw [if_neg (show ¬((3:Int)=(j:Int)+1∧j < 3) from fun g=>j2 (by omega))]
     by_cases j3:j < 3
     ·rcases (show j=0∨j=1 by omega) with rfl | rfl
      ·simp [rw1,wn,rawE]
      ·simp [rw1,wn,rawE]
     ·unfold rw1 wn noneE
      have e2:¬(c.base+z / 32768=0):=by omega
      simp [j3,e2]
  ·rw [if_neg hz,if_neg hz]
   simp [rw1]
theorem Rm.rows (h:Rm k l c c1) (P:List (List Int × Bool)) {j:Nat} (hj:¬(k=1∧j=0)):rw1 (P.flatMap fun p=>Mtc.ofPart (lastE c1.ents) (impE c1) p.1 p.2) j=if k=j+1∧j < 3 then (rw1 (P.flatMap fun p=>Mtc.ofPart (lastE c.ents) (impE c) p.1 p.2) j).map (mvd l) else rw1 (P.flatMap fun p=>Mtc.ofPart (lastE c.ents) (impE c) p.1 p.2) j:=by
 rw [rw1_flat,rw1_flat]
 induction P with
 | nil=>simp
 | cons p P ih=>
  rw [List.flatMap_cons,List.flatMap_cons,ih,h.part p.1 p.2 hj]
  split
  ·rw [List.map_append]
  ·rfl
end
def freeT (d u:List Int):Prop:=∃x0 d',d=x0::d'∧¬x0 ∈ u
section
variable {d:List Int} {kn:Bool} {es:List Elt} {c:Col} {t:Tlr} {c':Col} {cl:Int→Int}
theorem StpOk.col (h:StpOk d kn es c t c'):c'.base=(rmC t es c).base∧c'.second=(rmC t es c).second∧c'.third=(rmC t es c).third:=by rw [h.eq];exact ⟨rfl,rfl,rfl⟩
theorem StpOk.imp (h:StpOk d kn es c t c'):impE c'=impE (rmC t es c):=by
 obtain ⟨h1,h2,h3⟩:=h.col
 funext z
 unfold impE
 rw [h1,h2,h3]
theorem StpOk.free (h:StpOk d kn es c t c') (hk:kndT t=true) (hc:colErr c=0) (ha:AncOk c.base es) {u:List Int} (hf:freeT d u) :
  Mtc.parts cl (lastE c.ents) u=Mtc.parts cl (lastE c'.ents) u∧Mtc.elems cl (lastE c'.ents) (impE c') u=(Mtc.parts cl (lastE c.ents) u).flatMap fun p=>Mtc.ofPart (lastE (rmC t es c).ents) (impE (rmC t es c)) p.1 p.2:=by
 obtain ⟨x0,d',hd,hx⟩:=hf
 have hrm:=h.room hk hc ha
 have hne:∀x ∈ u,∀zs,x::zs≠d:=fun x hu zs e=>by
  rw [hd] at e
  injection e with e _
  subst e
  exact hx hu
 have e1:Mtc.parts cl (lastE c.ents) u=Mtc.parts cl (lastE c'.ents) u:=Mtc.parts_congr (fun x hu zs=>by
  rw [h.found hk hc ha,if_neg (hne x hu zs),hrm.last]
  cases lastE c.ents (x::zs) <;> rfl)
 refine ⟨e1,?_⟩
 rw [Mtc.elems_parts,←e1]
 have key:∀P:List (List Int × Bool),(∀p ∈ P,p.1≠[]∧∀x ∈ p.1,x ∈ u)→P.flatMap (fun p=>Mtc.ofPart (lastE c'.ents) (impE c') p.1 p.2)=P.flatMap fun p=>Mtc.ofPart (lastE (rmC t es c).ents) (impE (rmC t es c)) p.1 p.2:=by
  intro P
  induction P with
  | nil=>intro _;rfl
  | cons p P ih=>
   intro hP
   rw [List.flatMap_cons,List.flatMap_cons,ih (fun q hq=>hP q (List.mem_cons_of_mem _ hq))]
   congr 1
   obtain ⟨h1,h2⟩:=hP p (by simp)
   have hnd:¬p.1=d:=by
    obtain ⟨p1,p2⟩:=p
    cases p1 with
    | nil=>exact absurd rfl h1
    | cons x zs=>exact hne x (h2 x (by simp)) zs
   unfold Mtc.ofPart
   rw [h.imp,h.found hk hc ha,if_neg hnd]
 exact key _ (fun p hp=>by
  have:=Mtc.parts_mem p hp
  exact ⟨this.1,this.2.1⟩)
end
end Go.Proofs.YtkhmjidaeliccaaGreatDoor.Tl
namespace Go.Proofs.YtkhmjidaeliccaaGreatDoor.Tl
open Go.RowKit
def cdp (z:Int):Prop:=0≤z∧z≤1114111
theorem full_cdp {ms:List Mp} (hc:CodesOk ms) (kd:∀m ∈ ms,m.tag.size=0→m.to.length=1∨m.to.length=2) {c:Int} {l:List Int} (h:Full (onM ms false) c l):l≠[]∧(cdp c→∀e ∈ l,cdp e):=by
 induction h with
 | leaf h=>exact ⟨by simp,fun h1 e he=>by simp at he;subst he;exact h1⟩
 | @node c tt vs h1 h2 _ ih=>
  have hk:tt≠[]∧∀e ∈ tt,cdp e:=by
   unfold onM at h1
   split at h1
   ·next h4=>
    injection h1 with h1
    subst h1
    refine ⟨?_,fun e he=>((decomp_kids h4).2 e he).1⟩
    unfold Hg.decomp
    rw [if_neg (by omega)]
    split <;> simp
   ·cases hf:fndM ms false c with
    | none=>rw [hf] at h1;cases h1
    | some m=>
     rw [hf] at h1
     obtain ⟨hm,_,ht⟩:=fndM_at hf
     simp only [Option.map_some,Option.some.injEq] at h1
     rw [toM_at hm] at h1
     subst h1
     refine ⟨?_,(hc m hm).2.2⟩
     have:=kd ms[m] (List.getElem_mem hm) (ht.resolve_left (by decide))
     intro e
     rw [e] at this
     simp at this
  obtain ⟨k1,k2⟩:=hk
  have hp:0 < tt.length:=List.length_pos_iff.2 k1
  refine ⟨?_,fun _ e he=>?_⟩
  ·have h0:=(ih 0 hp (by omega)).1
   intro e
   rw [List.flatten_eq_nil_iff] at e
   exact h0 (e _ (List.getElem_mem _))
  ·obtain ⟨v,hv,he⟩:=List.mem_flatten.1 he
   obtain ⟨i,hi,rfl⟩:=List.getElem_of_mem hv
   exact (ih i (by omega) hi).2 (k2 _ (List.getElem_mem (by omega))) e he
theorem dtx_cdp (x:Nrm) {t:List Int} (ht:rngT t=true):1≤(dtx x false t).length∧∀z ∈ dtx x false t,0≤z∧z≤1114111:=by
 have hN:=usN_ok x
 unfold rngT at ht
 simp only [Bool.and_eq_true,Bool.not_eq_true',List.all_eq_true,decide_eq_true_eq] at ht
 obtain ⟨h1,h2⟩:=ht
 have hf:∀c,Full (onM (usN x).dec false) c (dcM (usN x).dec false c):=fun c=>dcM_full hN.st hN.hg hN.en false c
 constructor
 ·unfold dtx
  rw [Can.srt_len]
  cases t with
  | nil=>simp at h1
  | cons c t=>
   unfold flM
   rw [List.flatMap_cons,List.length_append]
   have:=List.length_pos_iff.2 (full_cdp hN.co hN.kd (hf c)).1
   omega
 ·intro z hz
  unfold dtx at hz
  have hm:=(Can.srt_perm (flM (usN x) false t)).mem_iff.1 hz
  unfold flM at hm
  obtain ⟨c,hct,hzc⟩:=List.mem_flatMap.1 hm
  exact (full_cdp hN.co hN.kd (hf c)).2 (h2 c hct) z hzc
def stepP (x:Nrm) (c:Col) (t:Tlr):Int × Col:=
 if nErr x≠0 then (nErr x,col0)
 else if colErr c≠0 then (colErr c,col0)
 else if kndT t=false then (8,col0)
 else if rngT t.anc=false∨rngT t.cds=false then (1,col0)
 else stepB (dtx x false t.cds) (knwN x c t.anc) (elsN x c t.anc) c t
structure Chk (x:Nrm) (c:Col) (t:Tlr):Prop where
 n:nErr x=0
 c:colErr c=0
 k:kndT t=true
 a:rngT t.anc=true
 d:rngT t.cds=true
theorem stepP_chk {x:Nrm} {c:Col} {t:Tlr} (h:Chk x c t):stepP x c t=stepB (dtx x false t.cds) (knwN x c t.anc) (elsN x c t.anc) c t:=by
 unfold stepP
 rw [if_neg (by rw [h.n];simp),if_neg (by rw [h.c];simp),if_neg (by rw [h.k];simp),if_neg (by rw [h.a,h.d];simp)]
theorem stepP_ok {x:Nrm} {c:Col} {t:Tlr} {c':Col} (h:stepP x c t=(0,c')):Chk x c t∧StpOk (dtx x false t.cds) (knwN x c t.anc) (elsN x c t.anc) c t c'∧AncOk c.base (elsN x c t.anc):=by
 have hk:Chk x c t:=by
  unfold stepP at h
  split at h
  ·next g=>injection h with h;exact absurd h g
  ·next g1=>
   split at h
   ·next g=>injection h with h;exact absurd h g
   ·next g2=>
    split at h
    ·injection h with h;cases h
    ·next g3=>
     split at h
     ·injection h with h;cases h
     ·next g4=>
      refine ⟨by omega,by omega,?_,?_,?_⟩
      ·cases q:kndT t with | true=>rfl | false=>exact absurd q g3
      ·cases q:rngT t.anc with | true=>rfl | false=>exact absurd (.inl q) g4
      ·cases q:rngT t.cds with | true=>rfl | false=>exact absurd (.inr q) g4
 rw [stepP_chk hk] at h
 have hs:=stepB_ok hk.k h
 refine ⟨hk,hs,?_⟩
 have hkn:=hs.kn
 unfold knwN at hkn
 have e:colD c=c:=if_pos hk.c
 rw [e] at hkn
 unfold elsN
 rw [e]
 exact known_ok hk.c hkn
section
variable {x:Nrm} {c:Col} {t:Tlr} {c':Col}
theorem stepP_valid (h:stepP x c t=(0,c')):colErr c'=0:=by
 obtain ⟨hk,hs,ha⟩:=stepP_ok h
 obtain ⟨d1,d2⟩:=dtx_cdp x hk.d
 exact hs.valid hk.k hk.c ha d1 d2
theorem stepP_found (h:stepP x c t=(0,c')):∃l,lastE c'.ents (dtx x false t.cds)=some l∧(0 < l.length ↔ 0 < (elsN x c t.anc).length)∧l.length≤(elsN x c t.anc).length∧c'.grps.length=c.grps.length∧c'.ents.length≤c.ents.length+1:=by
 obtain ⟨hk,hs,ha⟩:=stepP_ok h
 obtain ⟨l1,l2,l3,l4⟩:=hs.lens
 exact ⟨_,by rw [hs.found hk.k hk.c ha,if_pos rfl],l1,l2,l3,l4⟩
end
end Go.Proofs.YtkhmjidaeliccaaGreatDoor.Tl
namespace Go.Proofs.YtkhmjidaeliccaaGreatDoor.Pa
open Go.RowKit Tl
def bt (s:ByteArray) (i:Nat):Nat:=if h:i < s.size then s[i].toNat else 0
theorem bt_lt {s:ByteArray} {i:Nat} (h:i < s.size):bt s i=s[i].toNat:=by unfold bt;rw [dif_pos h]
theorem bt_end {s:ByteArray} {i:Nat} (h:¬i < s.size):bt s i=0:=by unfold bt;rw [dif_neg h]
theorem bt_in {s:ByteArray} {i:Nat} (h:bt s i≠0):i < s.size:=Classical.byContradiction fun g=>h (bt_end g)
theorem bt_256 (s:ByteArray) (i:Nat):bt s i < 256:=by
 unfold bt
 split
 ·exact UInt8.toNat_lt _
 ·decide
abbrev Rd (α:Type):=Except Nat (α × Nat)
def blkN (s:ByteArray):Nat→Nat→Nat
 | 0,i=>i
 | n+1,i=>if bt s i=32∨bt s i=10 then blkN s n (i+1) else i
def skp (s:ByteArray) (i:Nat):Nat:=blkN s (s.size - i) i
theorem blk_step {s:ByteArray} {i:Nat} (h:bt s i=32∨bt s i=10):skp s i=skp s (i+1):=by
 have hi:i < s.size:=bt_in (by omega)
 unfold skp
 rw [show s.size - i=(s.size - (i+1))+1 by omega]
 show (if _ then _ else _)=_
 rw [if_pos h]
theorem blk_stop {s:ByteArray} {i:Nat} (h:¬(bt s i=32∨bt s i=10)):skp s i=i:=by
 unfold skp
 cases s.size - i with
 | zero=>rfl
 | succ n=>show (if _ then _ else _)=_;rw [if_neg h]
theorem blkN_le {s:ByteArray}:∀n i,i≤blkN s n i
 | 0,i=>Nat.le_refl _
 | n+1,i=>by
  unfold blkN
  split
  ·exact Nat.le_trans (Nat.le_succ i) (blkN_le n (i+1))
  ·exact Nat.le_refl _
theorem blkN_sz {s:ByteArray}:∀n i,i≤s.size→blkN s n i≤s.size
 | 0,i,h=>h
 | n+1,i,h=>by
  unfold blkN
  split
  ·next h1=>exact blkN_sz n (i+1) (bt_in (by omega))
  ·exact h
theorem blk_le (s:ByteArray) (i:Nat):i≤skp s i:=blkN_le _ _
theorem blk_sz {s:ByteArray} {i:Nat} (h:i≤s.size):skp s i≤s.size:=blkN_sz _ _ h
def wrd (s:ByteArray):List Nat→Nat→Rd Unit
 | [],i=>.ok ((),i)
 | c::r,i=>if bt s i=c then wrd s r (i+1) else .error i
def dg (b:Nat):Int:=if 48≤b∧b≤57 then (b:Int) - 48 else if 65≤b∧b≤70 then (b:Int) - 55 else -1
theorem dg_bd (b:Nat):-1≤dg b∧dg b≤15:=by unfold dg;split;omega;split <;> omega
theorem dg_in {s:ByteArray} {i:Nat} (h:¬dg (bt s i) < 0):i < s.size:=bt_in (by intro e;rw [e] at h;exact h (by decide))
def four (s:ByteArray):Nat→Int→Nat→Rd Int
 | 0,c,i=>.ok (c,i)
 | n+1,c,i=>if dg (bt s i) < 0 then .error i else four s n (16*c+dg (bt s i)) (i+1)
def moreN (s:ByteArray):Nat→Int→Nat→Int × Nat
 | 0,c,i=>(c,i)
 | n+1,c,i=>if 4096≤c∧0≤dg (bt s i)∧16*c+dg (bt s i)≤1114111 then moreN s n (16*c+dg (bt s i)) (i+1) else (c,i)
def more (s:ByteArray) (c:Int) (i:Nat):Int × Nat:=moreN s (s.size - i) c i
theorem more_step {s:ByteArray} {c:Int} {i:Nat} (h:4096≤c∧0≤dg (bt s i)∧16*c+dg (bt s i)≤1114111):more s c i=more s (16*c+dg (bt s i)) (i+1):=by
 have hi:i < s.size:=dg_in (by omega)
 unfold more
 rw [show s.size - i=(s.size - (i+1))+1 by omega]
 show (if _ then _ else _)=_
 rw [if_pos h]
theorem more_stop {s:ByteArray} {c:Int} {i:Nat} (h:¬(4096≤c∧0≤dg (bt s i)∧16*c+dg (bt s i)≤1114111)):more s c i=(c,i):=by
 unfold more
 cases s.size - i with
 | zero=>rfl
 | succ n=>show (if _ then _ else _)=_;rw [if_neg h]
def code (s:ByteArray) (i:Nat):Rd Int:=
 match four s 4 0 i with
 | .error e=>.error e
 | .ok (c,j)=>.ok (more s c j)
def litN (s:ByteArray):Nat→List Int→Nat→Rd (List Int)
 | 0,a,i=>.ok (a,i)
 | n+1,a,i=>
  if bt s i=32 then
   match code s (i+1) with
   | .error e=>.error e
   | .ok (c,j)=>litN s n (a++[c]) j
  else .ok (a,i)
def lit (s:ByteArray) (i:Nat):Rd (List Int):=
 match wrd s [40] i with
 | .error e=>.error e
 | .ok (_,i1)=>
  match code s i1 with
  | .error e=>.error e
  | .ok (c,i2)=>
   match litN s (s.size - i2) [c] i2 with
   | .error e=>.error e
   | .ok (l,i3)=>
    match wrd s [41] i3 with
    | .error e=>.error e
    | .ok (_,i4)=>.ok (l,skp s i4)
def sgnN (s:ByteArray):Nat→Int→Nat→Int × Nat
 | 0,l,i=>(l,i)
 | n+1,l,i=>if bt s i=60 then sgnN s n (l+1) (i+1) else (l,i)
def sgn (s:ByteArray) (i:Nat):Rd Int:=
 if bt s i=61 then .ok (0,i+1)
 else
  match wrd s [60] i with
  | .error e=>.error e
  | .ok (_,j)=>.ok (sgnN s 2 1 j)
def stpN (s:ByteArray):Nat→List Int→Bool→List Tlr→Nat→Rd (List Tlr)
 | 0,_,_,l,i=>.ok (l,i)
 | n+1,a,b,l,i=>
  match sgn s i with
  | .error e=>.error e
  | .ok (k,j)=>
   match lit s (skp s j) with
   | .error e=>.error e
   | .ok (t,j2)=>if bt s j2=60∨bt s j2=61 then stpN s n t false (l++[⟨a,t,k,b⟩]) j2 else .ok (l++[⟨a,t,k,b⟩],j2)
def chn (s:ByteArray) (l:List Tlr) (i:Nat):Rd (List Tlr):=
 match wrd s [38] i with
 | .error e=>.error e
 | .ok (_,i1)=>
  match (if bt s (skp s i1)=91 then (match wrd s [91,98,101,102,111,114,101,93] (skp s i1) with | .error e=>.error e | .ok (_,j)=>.ok (true,skp s j)) else .ok (false,skp s i1):Rd Bool) with
  | .error e=>.error e
  | .ok (b,i2)=>
   match lit s i2 with
   | .error e=>.error e
   | .ok (a,i3)=>stpN s (s.size+1 - i3) a b l i3
def chsN (s:ByteArray):Nat→List Tlr→Nat→Rd (List Tlr)
 | 0,l,i=>.ok (l,i)
 | n+1,l,i=>
  if i < s.size then
   match chn s l i with
   | .error e=>.error e
   | .ok (l',j)=>chsN s n l' j
  else .ok (l,i)
def parse (s:ByteArray):Rd (List Tlr):=chsN s (s.size - skp s 0) [] (skp s 0)
def parseF (s:ByteArray):List Tlr × Int × Int:=
 if 65536 < s.size then ([],2,0)
 else
  match parse s with
  | .error e=>([],3,e)
  | .ok (l,_)=>(l,0,0)
theorem wrd_ok {s:ByteArray}:∀{l:List Nat} {i j:Nat} {u:Unit},(∀c ∈ l,c≠0)→wrd s l i=.ok (u,j)→j=i+l.length∧(l≠[]→j≤s.size)
 | [],i,j,u,_,h=>by
  injection h with h;injection h with _ h
  subst h
  exact ⟨rfl,fun g=>absurd rfl g⟩
 | c::r,i,j,u,hc,h=>by
  unfold wrd at h
  split at h
  ·next h1=>
   have hi:i < s.size:=bt_in (by rw [h1];exact hc c (by simp))
   obtain ⟨g1,g2⟩:=wrd_ok (fun x hx=>hc x (List.mem_cons_of_mem _ hx)) h
   refine ⟨by rw [g1,List.length_cons];omega,fun _=>?_⟩
   cases r with
   | nil=>simp at g1;omega
   | cons d r=>exact g2 (by simp)
  ·cases h
theorem four_ok {s:ByteArray}:∀{n:Nat} {c d:Int} {i j:Nat},four s n c i=.ok (d,j)→j=i+n∧(0 < n→j≤s.size)
 | 0,c,d,i,j,h=>by
  injection h with h;injection h with _ h
  subst h
  exact ⟨rfl,fun g=>absurd g (by omega)⟩
 | n+1,c,d,i,j,h=>by
  unfold four at h
  split at h
  ·cases h
  ·next h1=>
   have hi:=dg_in h1
   obtain ⟨g1,g2⟩:=four_ok h
   refine ⟨by omega,fun _=>?_⟩
   cases n with
   | zero=>omega
   | succ n=>exact g2 (by omega)
theorem moreN_ok {s:ByteArray}:∀{n:Nat} {c:Int} {i:Nat},i≤s.size→i≤(moreN s n c i).2∧(moreN s n c i).2≤s.size
 | 0,c,i,h=>⟨Nat.le_refl _,h⟩
 | n+1,c,i,h=>by
  unfold moreN
  split
  ·next h1=>
   obtain ⟨g1,g2⟩:=moreN_ok (s:=s) (n:=n) (c:=16*c+dg (bt s i)) (i:=i+1) (dg_in (by omega))
   exact ⟨by omega,g2⟩
  ·exact ⟨Nat.le_refl _,h⟩
theorem code_ok {s:ByteArray} {c:Int} {i j:Nat} (h:code s i=.ok (c,j)):i+4≤j∧j≤s.size:=by
 unfold code at h
 split at h
 ·cases h
 ·next c' k hf=>
  injection h with h
  obtain ⟨g1,g2⟩:=four_ok hf
  have g3:=g2 (by omega)
  have g4:=moreN_ok (s:=s) (n:=s.size - k) (c:=c') g3
  have e:(moreN s (s.size - k) c' k).2=j:=by
   have:more s c' k=(c,j):=h
   unfold more at this
   rw [this]
  omega
theorem litN_ok {s:ByteArray}:∀{n:Nat} {a l:List Int} {i j:Nat},i≤s.size→litN s n a i=.ok (l,j)→i≤j∧j≤s.size
 | 0,a,l,i,j,hi,h=>by
  injection h with h;injection h with _ h
  omega
 | n+1,a,l,i,j,hi,h=>by
  unfold litN at h
  split at h
  ·split at h
   ·cases h
   ·next hc=>
    have g1:=code_ok hc
    have g2:=litN_ok g1.2 h
    omega
  ·injection h with h;injection h with _ h
   omega
theorem lit_ok {s:ByteArray} {l:List Int} {i j:Nat} (h:lit s i=.ok (l,j)):i+6≤j∧j≤s.size:=by
 unfold lit at h
 split at h
 ·cases h
 ·next h1=>
  split at h
  ·cases h
  ·next h2=>
   split at h
   ·cases h
   ·next h3=>
    split at h
    ·cases h
    ·next i4 h4=>
     injection h with h;injection h with _ h
     have g1:=wrd_ok (by simp) h1
     have g2:=code_ok h2
     have g3:=litN_ok g2.2 h3
     have g4:=wrd_ok (by simp) h4
     have g5:=g4.2 (by simp)
     have g6:=blk_le s i4
     have g7:=blk_sz g5
     simp at g1 g4
     omega
theorem sgnN_ok {s:ByteArray}:∀{n:Nat} {l:Int} {i:Nat},i≤s.size→i≤(sgnN s n l i).2∧(sgnN s n l i).2≤s.size
 | 0,l,i,h=>⟨Nat.le_refl _,h⟩
 | n+1,l,i,h=>by
  unfold sgnN
  split
  ·next h1=>
   obtain ⟨g1,g2⟩:=sgnN_ok (s:=s) (n:=n) (l:=l+1) (i:=i+1) (bt_in (by omega))
   exact ⟨by omega,g2⟩
  ·exact ⟨Nat.le_refl _,h⟩
theorem sgn_ok {s:ByteArray} {k:Int} {i j:Nat} (h:sgn s i=.ok (k,j)):i+1≤j∧j≤s.size:=by
 unfold sgn at h
 split at h
 ·next h1=>
  injection h with h;injection h with _ h
  have:=bt_in (s:=s) (i:=i) (by omega)
  omega
 ·split at h
  ·cases h
  ·next u j1 h1=>
   injection h with h
   have g1:=wrd_ok (by simp) h1
   have g2:=g1.2 (by simp)
   have g3:=sgnN_ok (s:=s) (n:=2) (l:=1) g2
   rw [h] at g3
   simp at g1
   dsimp only at g3
   omega
theorem stpN_ok {s:ByteArray}:∀{n:Nat} {a:List Int} {b:Bool} {l m:List Tlr} {i j:Nat},i≤s.size→stpN s n a b l i=.ok (m,j)→i≤j∧j≤s.size
 | 0,a,b,l,m,i,j,hi,h=>by
  injection h with h;injection h with _ h
  omega
 | n+1,a,b,l,m,i,j,hi,h=>by
  unfold stpN at h
  split at h
  ·cases h
  ·next j1 h1=>
   split at h
   ·cases h
   ·next j2 h2=>
    have g1:=sgn_ok h1
    have g2:=lit_ok h2
    have g3:=blk_le s j1
    split at h
    ·have g4:=stpN_ok g2.2 h
     omega
    ·injection h with h;injection h with _ h
     omega
theorem chn_ok {s:ByteArray} {l m:List Tlr} {i j:Nat} (h:chn s l i=.ok (m,j)):i < j∧j≤s.size:=by
 unfold chn at h
 split at h
 ·cases h
 ·next u i1 h1=>
  have g1:=wrd_ok (by simp) h1
  have g2:=blk_le s i1
  split at h
  ·cases h
  ·next b i2 h2=>
   have g3:skp s i1≤i2:=by
    split at h2
    ·split at h2
     ·cases h2
     ·next u j1 h3=>
      injection h2 with h2;injection h2 with _ h2
      have g4:=wrd_ok (by simp) h3
      have g5:=blk_le s j1
      omega
    ·injection h2 with h2;injection h2 with _ h2
     omega
   split at h
   ·cases h
   ·next h4=>
    have g6:=lit_ok h4
    have g7:=stpN_ok g6.2 h
    simp at g1
    omega
end Go.Proofs.YtkhmjidaeliccaaGreatDoor.Pa
namespace Go.Proofs.YtkhmjidaeliccaaGreatDoor
open Go.RowKit Tl Pa
def PsB (w:World) (P:Nat) (s:ByteArray) (i:Nat):Prop:=Box w P 102 [.string s,.int .i64 i]
structure PsTo (P:Nat) (s:ByteArray) (w:World) (j:Nat) (w':World):Prop where
 box:PsB w' P s j
 gr:w.grownBy w' (some P)
section
variable {P i j k:Nat} {s:ByteArray} {w w' w'':World}
theorem PsB.here (h:PsB w P s i):PsTo P s w i w:=⟨h,grownR_refl _ _⟩
theorem PsTo.trans (h:PsTo P s w i w') (h2:PsTo P s w' j w''):PsTo P s w j w'':=⟨h2.box,grownR_trans h.gr h2.gr⟩
theorem PsTo.drew (h:PsTo P s w i w') (n:Nat):PsTo P s w i (w'.drewN n):=⟨h.box.below (below_of_drewN w' n) h.box.lt,grownR_below h.gr (below_of_drewN w' n)⟩
theorem PsTo.go (h:PsTo P s w i w') (j:Nat):PsTo P s w j (w'.setCell ⟨P,1,none⟩ (.int .i64 j)):=⟨h.box.set 1 _,grownR_trans h.gr (grown_set w' ⟨P,1,none⟩ _)⟩
theorem PsTo.below (h:PsTo P s w i w') (hb:Below w'.heap.size w' w''):PsTo P s w i w'':=⟨h.box.below hb h.box.lt,grownR_below h.gr hb⟩
theorem PsTo.c0 (h:PsTo P s w i w'):w'.cell? ⟨P,0,none⟩=some (.string s):=h.box.cell (i:=0) rfl
theorem PsTo.c1 (h:PsTo P s w i w'):w'.cell? ⟨P,1,none⟩=some (.int .i64 i):=h.box.cell (i:=1) rfl
theorem PsTo.f1 (h:PsTo P s w i w'):w'.frozen? ⟨P,1,none⟩=false:=h.box.free 1
end
def Flt (e:Ending):Prop:=∃u pv,e=.panicked [{ v:=.iface u pv,recovered:=false }]
def RdR {α:Type} (P:Nat) (s:ByteArray) (V:α→Value→World→Prop) (r:Rd α) (w:World) (e:Ending) (w':World):Prop:=
 match r with
 | .ok (a,j)=>(∃v,e=.returned v∧V a v w')∧PsTo P s w j w'
 | .error j=>Flt e∧PsTo P s w j w'
theorem next_any (P:Nat) (s:ByteArray) (i:Nat) (w:World) (hP:PsB w P s i) (hi:i≤s.size) :
  Calls Tryz.prog 113 #[.pointer (some ⟨P,0,none⟩)] w fun e w'=>e=.returned (.int .u8 (bt s i))∧PsTo P s w i w':=by
 have HP:=Lib.hid (hP.here)
 have c0:=hP.cell (i:=0) rfl
 have c1:=hP.cell (i:=1) rfl
 clear hP
 by_cases h:i < s.size
 ·have hb:=Lib.hid (bt_lt h)
  have he:((i:Int)==(s.size:Int))=false:=by simp;omega
  go_enter Tryz.func113,Tryz.ntmps113
  go_wp2_with fail
  go_quiet (fail)
  have HP2:=Lib.hid (HP.out.drew nq)
  clear c0 c1 HP
  generalize World.drewN w nq=w2 at *
  have c0:=HP2.out.c0
  have c1:=HP2.out.c1
  go_wp2_with fail
  go_quiet (fail)
  have HP3:=Lib.hid (HP2.out.drew nq)
  go_wp2_with fail
  go_ret
  exact ⟨by rw [hb.out];rfl,HP3.out⟩
 ·have hb:=Lib.hid (bt_end h)
  obtain rfl:i=s.size:=by omega
  have he:((s.size:Int)==(s.size:Int))=true:=by simp
  go_enter Tryz.func113,Tryz.ntmps113
  go_wp2_with fail
  go_quiet (fail)
  have HP2:=Lib.hid (HP.out.drew nq)
  go_wp2_with fail
  go_ret
  exact ⟨by rw [hb.out];rfl,HP2.out⟩
theorem fail_any (P:Nat) (s:ByteArray) (i:Nat) (w:World) (hP:PsB w P s i) :
  Calls Tryz.prog 161 #[.pointer (some ⟨P,0,none⟩)] w fun e w'=>Flt e∧w=w':=by
 have c1:=hP.cell (i:=1) rfl
 unfold Flt
 go_enter Tryz.func161,Tryz.ntmps161
 go_wp2_with fail
 exact ⟨rfl,⟨_,_,rfl⟩,rfl⟩
def psAt (P:Nat) (w:World):Nat:=match w.cell? ⟨P,1,none⟩ with | some (.int _ i)=>i.toNat | _=>0
theorem PsTo.at {P j:Nat} {s:ByteArray} {w w':World} (h:PsTo P s w j w'):psAt P w'=j:=by
 unfold psAt
 rw [h.c1]
 rfl
theorem digit_any (b:Nat) (hb:b < 256) (w:World) :
  Calls Tryz.prog 189 #[.int .u8 b] w fun e w'=>e=.returned (.int .i64 (dg b))∧w=w':=by
 by_cases h1:48≤b
 ·by_cases h2:b≤57
  ·have hd:=Lib.hid (show dg b=(b:Int) - 48 from if_pos ⟨h1,h2⟩)
   have d1:decide ((48:Int)≤(b:Int))=true:=by simp;omega
   have d2:decide ((b:Int)≤57)=true:=by simp;omega
   have b1:(48:Int)≤b:=by omega
   have b2:(b:Int)≤57:=by omega
   go_enter Tryz.func189,Tryz.ntmps189
   go_wp2_with fail
   go_ret
   exact ⟨by rw [hd.out];rfl,rfl⟩
  ·by_cases h3:65≤b
   ·by_cases h4:b≤70
    ·have hd:=Lib.hid (show dg b=(b:Int) - 55 from by unfold dg;rw [if_neg (by omega),if_pos ⟨h3,h4⟩])
     have d1:decide ((48:Int)≤(b:Int))=true:=by simp;omega
     have d2:decide ((b:Int)≤57)=false:=by simp;omega
     have d3:decide ((65:Int)≤(b:Int))=true:=by simp;omega
     have d4:decide ((b:Int)≤70)=true:=by simp;omega
     have b1:(65:Int)≤b:=by omega
     have b2:(b:Int)≤70:=by omega
     go_enter Tryz.func189,Tryz.ntmps189
     go_wp2_with fail
     go_ret
     exact ⟨by rw [hd.out,show (b:Int) - 55=(b:Int) - 65+10 by omega];rfl,rfl⟩
    ·have hd:=Lib.hid (show dg b=-1 from by unfold dg;rw [if_neg (by omega),if_neg (by omega)])
     have d1:decide ((48:Int)≤(b:Int))=true:=by simp;omega
     have d2:decide ((b:Int)≤57)=false:=by simp;omega
     have d3:decide ((65:Int)≤(b:Int))=true:=by simp;omega
     have d4:decide ((b:Int)≤70)=false:=by simp;omega
     go_enter Tryz.func189,Tryz.ntmps189
     go_wp2_with fail
     go_ret
     exact ⟨by rw [hd.out];rfl,rfl⟩
   ·have hd:=Lib.hid (show dg b=-1 from by unfold dg;rw [if_neg (by omega),if_neg (by omega)])
    have d1:decide ((48:Int)≤(b:Int))=true:=by simp;omega
    have d2:decide ((b:Int)≤57)=false:=by simp;omega
    have d3:decide ((65:Int)≤(b:Int))=false:=by simp;omega
    go_enter Tryz.func189,Tryz.ntmps189
    go_wp2_with fail
    go_ret
    exact ⟨by rw [hd.out];rfl,rfl⟩
 ·have hd:=Lib.hid (show dg b=-1 from by unfold dg;rw [if_neg (by omega),if_neg (by omega)])
  have d1:decide ((48:Int)≤(b:Int))=false:=by simp;omega
  have d3:decide ((65:Int)≤(b:Int))=false:=by simp;omega
  go_enter Tryz.func189,Tryz.ntmps189
  go_wp2_with fail
  go_ret
  exact ⟨by rw [hd.out];rfl,rfl⟩
theorem blanks_any (P:Nat) (s:ByteArray) (i:Nat) (w:World) (hP:PsB w P s i) (hi:i≤s.size) (hs:s.size≤9223372036854775806) :
  Calls Tryz.prog 58 #[.pointer (some ⟨P,0,none⟩)] w fun e w'=>e=.returned (.tuple #[])∧PsTo P s w (skp s i) w':=by
 have HP:=Lib.hid (hP.here)
 have KN:=Lib.hid (fun j (W:World) (h:PsTo P s w j W) (hj:j≤s.size)=>next_any P s j W h.box hj)
 clear hP
 go_enter Tryz.func58,Tryz.ntmps58
 go_wp2_with fail
 go_loopw [] (fun wr=>∃k:Nat,k≤s.size∧Hid (skp s k=skp s i)∧PsTo P s w k wr) (fun wr=>s.size - psAt P wr)
 case atStart=>exact ⟨i,hi,Lib.hid rfl,HP.out⟩
 case round=>
  obtain ⟨k,hk,hb,hp⟩:=hrel
  have HR:=Lib.hid hp
  clear hp HP
  have KN1:=Lib.hid (KN.out k _ HR.out hk)
  by_cases h1:bt s k=32
  ·have d1:((bt s k:Int)==32)=true:=by simp;omega
   have hin:=bt_in (s:=s) (i:=k) (by omega)
   have hst:=Lib.hid (blk_step (s:=s) (i:=k) (.inl h1))
   clear h1
   generalize bt s k=b at *
   go_wp2_with fail
   with_reducible refine KN1.out.mono ?_
   rintro e W1 ⟨rfl,hp1⟩
   have HR1:=Lib.hid (HR.out.trans hp1)
   have c1:=HR1.out.c1
   have f1:=HR1.out.f1
   clear hp1 KN1 KN
   go_wp2_with fail
   go_roundw
   case rel=>exact ⟨k+1,hin,Lib.hid (hst.out.symm.trans hb.out),HR1.out.go (k+1)⟩
   case measure=>
    have e1:=(HR1.out.go (k+1)).at
    have e2:=HR.out.at
    have e1':psAt P (W1.setCell ⟨P,1,none⟩ (.int .i64 ((k:Int)+1)))=k+1:=e1
    rw [e1',e2]
    omega
  ·have d1:((bt s k:Int)==32)=false:=by simp;omega
   by_cases h2:bt s k=10
   ·have d2:((bt s k:Int)==10)=true:=by simp;omega
    have hin:=bt_in (s:=s) (i:=k) (by omega)
    have hst:=Lib.hid (blk_step (s:=s) (i:=k) (.inr h2))
    have KN2:=Lib.hid (fun (W1:World) (hp1:PsTo P s w k W1)=>KN.out k W1 hp1 hk)
    clear h1 h2
    generalize bt s k=b at *
    go_wp2_with fail
    with_reducible refine KN1.out.mono ?_
    rintro e W1 ⟨rfl,hp1⟩
    have HR1:=Lib.hid (HR.out.trans hp1)
    have KN3:=Lib.hid (KN2.out W1 HR1.out)
    clear hp1 KN1 KN KN2
    go_wp2_with fail
    with_reducible refine KN3.out.mono ?_
    rintro e W2 ⟨rfl,hp2⟩
    have HR2:=Lib.hid (HR1.out.trans hp2)
    have c1:=HR2.out.c1
    have f1:=HR2.out.f1
    clear hp2 KN3
    go_wp2_with fail
    go_roundw
    case rel=>exact ⟨k+1,hin,Lib.hid (hst.out.symm.trans hb.out),HR2.out.go (k+1)⟩
    case measure=>
     have e1:=(HR2.out.go (k+1)).at
     have e2:=HR.out.at
     have e1':psAt P (W2.setCell ⟨P,1,none⟩ (.int .i64 ((k:Int)+1)))=k+1:=e1
     rw [e1',e2]
     omega
   ·have d2:((bt s k:Int)==10)=false:=by simp;omega
    have hst:=Lib.hid (blk_stop (s:=s) (i:=k) (by omega))
    have KN2:=Lib.hid (fun (W1:World) (hp1:PsTo P s w k W1)=>KN.out k W1 hp1 hk)
    clear h1 h2
    generalize bt s k=b at *
    go_wp2_with fail
    with_reducible refine KN1.out.mono ?_
    rintro e W1 ⟨rfl,hp1⟩
    have HR1:=Lib.hid (HR.out.trans hp1)
    have KN3:=Lib.hid (KN2.out W1 HR1.out)
    clear hp1 KN1 KN KN2
    go_wp2_with fail
    with_reducible refine KN3.out.mono ?_
    rintro e W2 ⟨rfl,hp2⟩
    have HR2:=Lib.hid (HR1.out.trans hp2)
    have hfin:k=skp s i:=hst.out.symm.trans hb.out
    clear hp2 KN3
    go_wp2_with fail
    go_end0
    exact ⟨rfl,by rw [←hfin];exact HR2.out⟩
structure Wrd (t:ByteArray) (l:List Nat):Prop where
 sz:t.size=l.length
 at_:∀k,(h:k < t.size)→(h2:k < l.length)→t[k].toNat=l[k]
 nz:∀c ∈ l,c≠0
def noV (_:Unit) (v:Value) (_:World):Prop:=v=.tuple #[]
theorem expect_any (P:Nat) (s t:ByteArray) (l:List Nat) (i:Nat) (w:World) (hP:PsB w P s i) (hi:i≤s.size) (hs:s.size≤9223372036854775806) (ht:Wrd t l) (hl:l.length≤100) :
  Calls Tryz.prog 114 #[.pointer (some ⟨P,0,none⟩),.string t] w (RdR P s noV (wrd s l i) w):=by
 have HP:=Lib.hid (hP.here)
 have HT:=Lib.hid ht
 have hsz:=ht.sz
 obtain ⟨n,hn⟩:∃n,t.size=n:=⟨_,rfl⟩
 have hnl:l.length=n:=by omega
 have HNL:=Lib.hid hnl
 have HN:=Lib.hid hn
 have hn100:n≤100:=by omega
 have KF:=Lib.hid (fun j (W:World) (h:PsTo P s w j W)=>fail_any P s j W h.box)
 obtain ⟨r,hr⟩:∃r,wrd s l i=r:=⟨_,rfl⟩
 have HR0:=Lib.hid hr
 rw [hr]
 clear hP ht hsz hnl hn hr hl
 go_enter Tryz.func114,Tryz.ntmps114
 have hlen:(t.size:Int)=(n:Int):=by rw [HN.out]
 go_wp2_with fail
 have HLEN:=Lib.hid hlen
 clear hlen
 go_loopw [7] (fun u wr=>∃k:Nat,k≤n∧i+k≤s.size∧u=.int .i64 k∧Hid (wrd s (l.drop k) (i+k)=r)∧PsTo P s w (i+k) wr) (fun u _=>n - (intOf u).toNat)
 case atStart=>exact ⟨0,Nat.zero_le _,hi,rfl,Lib.hid (by rw [List.drop_zero];exact HR0.out),HP.out⟩
 case round=>
  obtain ⟨k,hk,hik,rfl,hb,hp⟩:=hrel
  have HR:=Lib.hid hp
  have c0:=hp.c0
  have c1:=hp.c1
  clear hp HP
  by_cases hlt:k < n
  ·have hkl:k < l.length:=by rw [HNL.out];exact hlt
   have hkt:k < t.size:=by rw [HN.out];exact hlt
   have hte:=Lib.hid (HT.out.at_ k hkt hkl)
   have hnz:=HT.out.nz _ (List.getElem_mem hkl)
   have hst:wrd s (l.drop k) (i+k)=if bt s (i+k)=l[k] then wrd s (l.drop (k+1)) (i+k+1) else .error (i+k):=by
    rw [List.drop_eq_getElem_cons hkl]
    rfl
   have HST:=Lib.hid hst
   clear hst
   have HI:=Lib.hid (show ∀p,i+k=p→i+(k+1)=p+1 from fun p e=>by omega)
   obtain ⟨p,hpk⟩:∃p,i+k=p:=⟨_,rfl⟩
   have HPK:=Lib.hid (HI.out p hpk)
   rw [hpk] at hik hb HR c1 HST
   clear hpk HI
   by_cases hend:p < s.size
   ·have he:((p:Int)==(s.size:Int))=false:=by simp;omega
    have hbt:=Lib.hid (bt_lt hend)
    by_cases heq:bt s p=l[k]
    ·have hst2:=Lib.hid (show wrd s (l.drop (k+1)) (p+1)=r from by rw [←hb.out,HST.out,if_pos heq])
     have hd:((s[p].toNat:Int) != (t[k].toNat:Int))=false:=by rw [hte.out,←heq,hbt.out];simp
     clear heq hnz
     go_wp2_with fail
     go_quiet (fail)
     have HR1:=Lib.hid (HR.out.drew nq)
     clear c0 c1
     generalize World.drewN wr nq=w2 at *
     have c1:=HR1.out.c1
     have f1:=HR1.out.f1
     go_wp2_with fail
     go_roundw
     case rel=>exact ⟨k+1,by omega,by rw [HPK.out];omega,by go_num,by rw [HPK.out];exact hst2,by rw [HPK.out];exact HR1.out.go (p+1)⟩
     case measure=>simp [intOf];omega
    ·have hst2:=Lib.hid (show r=.error p from by rw [←hb.out,HST.out,if_neg heq])
     have hd:((s[p].toNat:Int) != (t[k].toNat:Int))=true:=by rw [hte.out,←hbt.out];simp;omega
     clear heq hnz
     go_wp2_with fail
     go_quiet (fail)
     have HR1:=Lib.hid (HR.out.drew nq)
     clear c0 c1
     generalize World.drewN wr nq=w2 at *
     go_wp2_with fail
     with_reducible refine (KF.out p w2 HR1.out).mono ?_
     rintro e W1 ⟨⟨u,pv,rfl⟩,rfl⟩
     go_wp2_with fail
     rw [hst2.out]
     exact ⟨rfl,⟨_,_,rfl⟩,HR1.out⟩
   ·obtain rfl:p=s.size:=by omega
    have he:((s.size:Int)==(s.size:Int))=true:=by simp
    have hst2:=Lib.hid (show r=.error s.size from by rw [←hb.out,HST.out,if_neg (by rw [bt_end (by omega)];exact fun q=>hnz q.symm)])
    clear hnz hend
    go_wp2_with fail
    go_quiet (fail)
    have HR1:=Lib.hid (HR.out.drew nq)
    clear c0 c1
    generalize World.drewN wr nq=w2 at *
    go_wp2_with fail
    with_reducible refine (KF.out s.size w2 HR1.out).mono ?_
    rintro e W1 ⟨⟨u,pv,rfl⟩,rfl⟩
    go_wp2_with fail
    rw [hst2.out]
    exact ⟨rfl,⟨_,_,rfl⟩,HR1.out⟩
  ·obtain rfl:k=n:=by omega
   have hfin:=hb.out
   rw [List.drop_of_length_le (by rw [HNL.out];exact Nat.le_refl _)] at hfin
   have hfin':=Lib.hid (show r=.ok ((),i+k) from hfin.symm)
   clear hb hfin HR0
   go_wp2_with fail
   go_end0
   rw [hfin'.out]
   exact ⟨⟨_,rfl,rfl⟩,HR.out⟩
end Go.Proofs.YtkhmjidaeliccaaGreatDoor
namespace Go.Proofs.YtkhmjidaeliccaaGreatDoor
open Go.RowKit Tl Pa
theorem wrd1 (c:Nat) (hc:c≠0) (t:ByteArray) (ht:t=⟨#[UInt8.ofNat c]⟩) (h8:c < 256):Wrd t [c]:=by
 subst ht
 refine ⟨rfl,fun k h h2=>?_,fun x hx=>by rw [List.mem_singleton.1 hx];exact hc⟩
 obtain rfl:k=0:=by simp at h2;omega
 show (UInt8.ofNat c).toNat=c
 rw [UInt8.toNat_ofNat',Nat.mod_eq_of_lt h8]
def intV (a:Int) (v:Value) (_:World):Prop:=v=.int .i64 a
theorem sgnN_step {s:ByteArray} {n:Nat} {l:Int} {i:Nat} (h:bt s i=60):sgnN s (n+1) l i=sgnN s n (l+1) (i+1):=by
 conv=>lhs;unfold sgnN
 rw [if_pos h]
theorem sgnN_stop {s:ByteArray} {n:Nat} {l:Int} {i:Nat} (h:¬bt s i=60):sgnN s n l i=(l,i):=by
 cases n with
 | zero=>rfl
 | succ n=>unfold sgnN;rw [if_neg h]
theorem psign_any (P:Nat) (s:ByteArray) (i:Nat) (w:World) (hP:PsB w P s i) (hi:i≤s.size) (hs:s.size≤9223372036854775806) :
  Calls Tryz.prog 116 #[.pointer (some ⟨P,0,none⟩)] w (RdR P s intV (sgn s i) w):=by
 have HP:=Lib.hid (hP.here)
 have KN:=Lib.hid (fun j (W:World) (h:PsTo P s w j W) (hj:j≤s.size)=>next_any P s j W h.box hj)
 have KE:=Lib.hid (fun (W:World) (h:PsTo P s w i W)=>expect_any P s ⟨#[60]⟩ [60] i W h.box hi hs (wrd1 60 (by decide) _ rfl (by decide)) (by decide))
 unfold RdR at KE
 clear hP
 obtain ⟨r,hr⟩:∃r,sgn s i=r:=⟨_,rfl⟩
 have HR0:=Lib.hid hr
 rw [hr]
 clear hr
 have KN0:=Lib.hid (KN.out i w HP.out hi)
 by_cases h1:bt s i=61
 ·have d1:((bt s i:Int)==61)=true:=by simp;omega
  have HR1:=Lib.hid (show r=.ok (0,i+1) from by rw [←HR0.out];unfold sgn;rw [if_pos h1])
  have hin:=bt_in (s:=s) (i:=i) (by omega)
  clear h1 HR0
  generalize bt s i=b at *
  go_enter Tryz.func116,Tryz.ntmps116
  go_wp2_with fail
  with_reducible refine KN0.out.mono ?_
  rintro e W1 ⟨rfl,hp1⟩
  have HW:=Lib.hid hp1
  have c1:=HW.out.c1
  have f1:=HW.out.f1
  clear hp1 KN0 KN KE
  go_wp2_with fail
  go_ret
  rw [HR1.out]
  exact ⟨⟨_,rfl,rfl⟩,HW.out.go (i+1)⟩
 ·have d1:((bt s i:Int)==61)=false:=by simp;omega
  have HR1:=Lib.hid (show r=match wrd s [60] i with | .error e=>.error e | .ok (_,j)=>.ok (sgnN s 2 1 j) from by rw [←HR0.out];unfold sgn;rw [if_neg h1];(try (cases wrd s [60] i <;> rfl)))
  clear h1 HR0
  generalize bt s i=b at *
  go_enter Tryz.func116,Tryz.ntmps116
  go_wp2_with fail
  with_reducible refine KN0.out.mono ?_
  rintro e W1 ⟨rfl,hp1⟩
  have KE1:=Lib.hid (KE.out W1 hp1)
  have HW:=Lib.hid hp1
  clear hp1 KN0 KE
  cases hq:wrd s [60] i with
  | error f=>
   rw [hq] at HR1 KE1
   clear hq
   go_wp2_with fail
   with_reducible refine KE1.out.mono ?_
   rintro e W2 ⟨⟨u,pv,rfl⟩,hp2⟩
   have HW2:=Lib.hid (HW.out.trans hp2)
   clear hp2
   go_wp2_with fail
   rw [HR1.out]
   exact ⟨rfl,⟨_,_,rfl⟩,HW2.out⟩
  | ok q=>
   obtain ⟨u0,j⟩:=q
   have hjs:=(wrd_ok (by simp) hq).2 (by simp)
   rw [hq] at HR1 KE1
   clear hq
   have HR2:=Lib.hid (show r=.ok (sgnN s 2 1 j) from HR1.out)
   go_wp2_with fail
   with_reducible refine KE1.out.mono ?_
   rintro e W2 ⟨⟨v,rfl,rfl⟩,hp2⟩
   have HW2:=Lib.hid (HW.out.trans hp2)
   clear hp2 HR1 KE1 HW
   go_wp2_with fail
   go_loopw [3] (fun u wr=>∃(m k:Nat),m≤2∧k≤s.size∧u=.int .i64 (3 - (m:Int))∧Hid (sgnN s m (3 - (m:Int)) k=sgnN s 2 1 j)∧PsTo P s w k wr) (fun u _=>(3 - intOf u).toNat)
   case atStart=>exact ⟨2,j,Nat.le_refl _,hjs,rfl,Lib.hid rfl,HW2.out⟩
   case round=>
    obtain ⟨m,k,hm,hk,rfl,hb,hp⟩:=hrel
    have HR:=Lib.hid hp
    clear hp
    cases m with
    | zero=>
     have d2:decide ((3:Int) - ((0:Nat):Int) < 3)=false:=by decide
     have HF:=Lib.hid (show r=.ok (3,k) from by rw [HR2.out,←hb.out];rfl)
     clear hb HR2 KN
     go_wp2_with fail
     go_ret
     rw [HF.out]
     exact ⟨⟨_,rfl,rfl⟩,HR.out⟩
    | succ m=>
     have KN1:=Lib.hid (KN.out k _ HR.out hk)
     obtain ⟨lv,hlv⟩:∃lv:Int,3 - ((m+1:Nat):Int)=lv:=⟨_,rfl⟩
     have hlv1:1≤lv:=by omega
     have hlv2:lv < 3:=by omega
     have HLV:=Lib.hid (show lv+1=3 - (m:Int) from by omega)
     rw [hlv] at hb ⊢
     clear hlv
     have d2:decide (lv < 3)=true:=by simpa using hlv2
     by_cases h2:bt s k=60
     ·have d3:((bt s k:Int)==60)=true:=by simp;omega
      have hin:=bt_in (s:=s) (i:=k) (by omega)
      have hst:=Lib.hid (show sgnN s m (lv+1) (k+1)=sgnN s 2 1 j from by rw [←hb.out,sgnN_step h2])
      clear h2 hb
      generalize bt s k=b2 at *
      go_wp2_with fail
      with_reducible refine KN1.out.mono ?_
      rintro e W3 ⟨rfl,hp3⟩
      have HW3:=Lib.hid (HR.out.trans hp3)
      have c1:=HW3.out.c1
      have f1:=HW3.out.f1
      clear hp3 KN1 KN
      go_wp2_with fail
      go_roundw
      case rel=>exact ⟨m,k+1,by omega,hin,by rw [←HLV.out],by rw [←HLV.out];exact hst,HW3.out.go (k+1)⟩
      case measure=>simp [intOf];omega
     ·have d3:((bt s k:Int)==60)=false:=by simp;omega
      have HF:=Lib.hid (show r=.ok (lv,k) from by rw [HR2.out,←hb.out,sgnN_stop h2])
      clear h2 hb HR2
      generalize bt s k=b2 at *
      go_wp2_with fail
      with_reducible refine KN1.out.mono ?_
      rintro e W3 ⟨rfl,hp3⟩
      have HW3:=Lib.hid (HR.out.trans hp3)
      clear hp3 KN1 KN
      go_wp2_with fail
      go_ret
      rw [HF.out]
      exact ⟨⟨_,rfl,rfl⟩,HW3.out⟩
theorem pow16:∀{k:Nat},k≤3→(1:Int)≤16 ^ k∧(16:Int) ^ k≤4096
 | 0,_=>by decide
 | 1,_=>by decide
 | 2,_=>by decide
 | 3,_=>by decide
 | k+4,h=>by omega
theorem code_eq (s:ByteArray) (i:Nat):Pa.code s i=match four s 4 0 i with | .error e=>.error e | .ok (c,j)=>.ok (more s c j):=by
 unfold Pa.code
 cases four s 4 0 i <;> rfl
theorem pcode_any (P:Nat) (s:ByteArray) (i:Nat) (w:World) (hP:PsB w P s i) (hi:i≤s.size) (hs:s.size≤9223372036854775806) :
  Calls Tryz.prog 162 #[.pointer (some ⟨P,0,none⟩)] w (RdR P s intV (Pa.code s i) w):=by
 have HP:=Lib.hid (hP.here)
 have KN:=Lib.hid (fun j (W:World) (h:PsTo P s w j W) (hj:j≤s.size)=>next_any P s j W h.box hj)
 have KF:=Lib.hid (fun j (W:World) (h:PsTo P s w j W)=>fail_any P s j W h.box)
 obtain ⟨r,hr⟩:∃r,Pa.code s i=r:=⟨_,rfl⟩
 have HR0:=Lib.hid (show r=match four s 4 0 i with | .error e=>.error e | .ok (c,j)=>.ok (more s c j) from by rw [←hr,code_eq])
 rw [hr]
 clear hP hr
 go_enter Tryz.func162,Tryz.ntmps162
 go_wp2_with fail
 go_loopw [3,6] (fun u v wr=>∃(k p:Nat) (c:Int),k≤4∧p≤s.size∧0≤c∧c < 16 ^ k∧u=.int .i64 c∧v=.int .i64 k∧Hid (four s (4 - k) c p=four s 4 0 i)∧PsTo P s w p wr) (fun _ v _=>(4 - intOf v).toNat)
 case atStart=>exact ⟨0,i,0,by omega,hi,by decide,by decide,rfl,rfl,Lib.hid rfl,HP.out⟩
 case round=>
  obtain ⟨k,p,c,hk,hp,hc0,hc1,rfl,rfl,hb,hps⟩:=hrel
  have HR:=Lib.hid hps
  clear hps
  by_cases hlt:k < 4
  ·obtain ⟨q1,q2⟩:=pow16 (k:=k) (by omega)
   have hc2:c≤4095:=by omega
   have HC:=Lib.hid (show ∀d:Int,d≤15→16*c+d < 16 ^ (k+1) from fun d hd=>by rw [Int.pow_succ];omega)
   have KN1:=Lib.hid (KN.out p _ HR.out hp)
   have hlt8:=bt_256 s p
   obtain ⟨m,hm⟩:∃m,4 - k=m+1:=⟨3 - k,by omega⟩
   have HM:=Lib.hid (show 4 - (k+1)=m from by omega)
   have hst:four s (4 - k) c p=if dg (bt s p) < 0 then .error p else four s m (16*c+dg (bt s p)) (p+1):=by rw [hm];rfl
   have hin:=dg_in (s:=s) (i:=p)
   have hbd:=dg_bd (bt s p)
   have HST:=Lib.hid (hb.out.symm.trans hst)
   have KD:=Lib.hid (fun W=>digit_any (bt s p) hlt8 W)
   clear hst hb hm q1 q2 hc1 hlt8
   generalize bt s p=b at *
   generalize dg b=d at *
   by_cases hd:d < 0
   ·have dd:decide (d < 0)=true:=by simpa using hd
    have HF:=Lib.hid (show r=.error p from by rw [HR0.out,HST.out,if_pos hd])
    clear hin HC HST HR0 HM
    go_wp2_with fail
    with_reducible refine KN1.out.mono ?_
    rintro e W1 ⟨rfl,hp1⟩
    have HW:=Lib.hid (HR.out.trans hp1)
    clear hp1 KN1
    go_wp2_with fail
    with_reducible refine (KD.out _).mono ?_
    rintro e W2 ⟨rfl,rfl⟩
    go_wp2_with fail
    with_reducible refine (KF.out p _ HW.out).mono ?_
    rintro e W3 ⟨⟨u,pv,rfl⟩,rfl⟩
    go_wp2_with fail
    rw [HF.out]
    exact ⟨rfl,⟨_,_,rfl⟩,HW.out⟩
   ·have dd:decide (d < 0)=false:=by simpa using hd
    have hd0:0≤d:=by omega
    have hd1:d≤15:=hbd.2
    have HN:=Lib.hid (show four s (4 - (k+1)) (16*c+d) (p+1)=four s 4 0 i from by rw [HM.out,HST.out,if_neg hd])
    have hin2:=hin hd
    have hc3:=HC.out d hd1
    have HC3:=Lib.hid hc3
    clear hin HC HST HR0 HM hd hbd hc3
    go_wp2_with fail
    with_reducible refine KN1.out.mono ?_
    rintro e W1 ⟨rfl,hp1⟩
    have HW:=Lib.hid (HR.out.trans hp1)
    have c1:=HW.out.c1
    have f1:=HW.out.f1
    clear hp1 KN1
    go_wp2_with fail
    with_reducible refine (KD.out _).mono ?_
    rintro e W2 ⟨rfl,rfl⟩
    go_wp2_with fail
    go_roundw
    case rel=>exact ⟨k+1,p+1,16*c+d,by omega,by omega,by omega,HC3.out,rfl,by go_num,HN,HW.out.go (p+1)⟩
    case measure=>simp [intOf];omega
  ·have hk4:=Lib.hid (show k=4 from by omega)
   have hc2:c≤65535:=by rw [hk4.out] at hc1;omega
   have HF:=Lib.hid (show r=.ok (more s c p) from by rw [HR0.out,←hb.out,hk4.out];rfl)
   have d0:decide ((k:Int) < 4)=false:=by simp;omega
   clear HR0 hb hc1 HP
   go_wp2_with fail
   go_loopw [3] (fun u wr=>∃(q:Nat) (z:Int),q≤s.size∧0≤z∧z≤1114111∧u=.int .i64 z∧Hid (more s z q=more s c p)∧PsTo P s w q wr) (fun u _=>(1114111 - intOf u).toNat)
   case atStart=>exact ⟨p,c,hp,hc0,by omega,rfl,Lib.hid rfl,HR.out⟩
   case round=>
    obtain ⟨q,z,hq,hz0,hz1,rfl,hb,hps⟩:=hrel
    have HS:=Lib.hid hps
    clear hps HR
    by_cases hz4:4096≤z
    ·have d1:decide (4096≤z)=true:=by simpa using hz4
     have KN1:=Lib.hid (KN.out q _ HS.out hq)
     have hlt8:=bt_256 s q
     have hin:=dg_in (s:=s) (i:=q)
     have hbd:=dg_bd (bt s q)
     have KD:=Lib.hid (fun W=>digit_any (bt s q) hlt8 W)
     have M1:=Lib.hid (fun h=>more_step (s:=s) (c:=z) (i:=q) h)
     have M2:=Lib.hid (fun h=>more_stop (s:=s) (c:=z) (i:=q) h)
     clear hlt8
     generalize bt s q=b at *
     generalize dg b=d at *
     by_cases hd:d < 0
     ·have dd:decide (d < 0)=true:=by simpa using hd
      have HG:=Lib.hid (show r=.ok (z,q) from by rw [HF.out,←hb.out,M2.out (by omega)])
      clear hin hb HF M1 M2
      go_wp2_with fail
      with_reducible refine KN1.out.mono ?_
      rintro e W1 ⟨rfl,hp1⟩
      have HW:=Lib.hid (HS.out.trans hp1)
      clear hp1 KN1
      go_wp2_with fail
      with_reducible refine (KD.out _).mono ?_
      rintro e W2 ⟨rfl,rfl⟩
      go_wp2_with fail
      go_ret
      rw [HG.out]
      exact ⟨⟨_,rfl,rfl⟩,HW.out⟩
     ·have dd:decide (d < 0)=false:=by simpa using hd
      have hd0:0≤d:=by omega
      have hd1:d≤15:=hbd.2
      have hin2:=hin hd
      by_cases hbig:1114111 < 16*z+d
      ·have d3:decide (1114111 < 16*z+d)=true:=by simpa using hbig
       have HG:=Lib.hid (show r=.ok (z,q) from by rw [HF.out,←hb.out,M2.out (by omega)])
       clear hin hb HF M1 M2 hd hbd
       go_wp2_with fail
       with_reducible refine KN1.out.mono ?_
       rintro e W1 ⟨rfl,hp1⟩
       have HW:=Lib.hid (HS.out.trans hp1)
       clear hp1 KN1
       go_wp2_with fail
       with_reducible refine (KD.out _).mono ?_
       rintro e W2 ⟨rfl,rfl⟩
       go_wp2_with fail
       go_ret
       rw [HG.out]
       exact ⟨⟨_,rfl,rfl⟩,HW.out⟩
      ·have d3:decide (1114111 < 16*z+d)=false:=by simpa using hbig
       have HN:=Lib.hid (show more s (16*z+d) (q+1)=more s c p from by rw [←M1.out (by omega),hb.out])
       have hb3:16*z+d≤1114111:=by omega
       clear hin hb M1 M2 hd hbd hbig
       go_wp2_with fail
       with_reducible refine KN1.out.mono ?_
       rintro e W1 ⟨rfl,hp1⟩
       have HW:=Lib.hid (HS.out.trans hp1)
       have c1:=HW.out.c1
       have f1:=HW.out.f1
       clear hp1 KN1
       go_wp2_with fail
       with_reducible refine (KD.out _).mono ?_
       rintro e W2 ⟨rfl,rfl⟩
       go_wp2_with fail
       go_roundw
       case rel=>exact ⟨q+1,16*z+d,by omega,by omega,hb3,rfl,HN,HW.out.go (q+1)⟩
       case measure=>simp [intOf];omega
    ·have d1:decide (4096≤z)=false:=by simpa using hz4
     have HG:=Lib.hid (show r=.ok (z,q) from by rw [HF.out,←hb.out,more_stop (by omega)])
     clear hb HF
     go_wp2_with fail
     go_ret
     rw [HG.out]
     exact ⟨⟨_,rfl,rfl⟩,HS.out⟩
end Go.Proofs.YtkhmjidaeliccaaGreatDoor
