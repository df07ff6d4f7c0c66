/- Texts that are merged into one file: TlKeep, TlDtx, PaParse, TlApl, TxBld. -/
import Derived.Test.YtkhmjidaeliccaaGreatDoorB04
import Derived.Test.YtkhmjidaeliccaaGreatDoorB07
import Derived.Test.YtkhmjidaeliccaaGreatDoorB12
import Derived.Test.YtkhmjidaeliccaaGreatDoorB16
import Derived.Test.YtkhmjidaeliccaaGreatDoorB17
import Derived.Test.YtkhmjidaeliccaaGreatDoorB18
import Derived.Test.YtkhmjidaeliccaaGreatDoorB19
import Derived.Test.YtkhmjidaeliccaaGreatDoorB23
import Derived.Defers
import Derived.Recover
import Derived.Shelf.Strings.BuilderK
set_option maxRecDepth 100000
set_option maxHeartbeats 51200000
namespace Go.Proofs.YtkhmjidaeliccaaGreatDoor.Tl
open Go.RowKit
def wn (k:Nat) (e:Elt):Int:=if k < 3 then rawE e k else if noneE e=true then 0 else 65535
def rw1 (es:List Elt) (k:Nat):List Int:=(es.map (wn k)).filter (fun x=>decide (x≠0))
theorem rw1_app (a b:List Elt) (k:Nat):rw1 (a++b) k=rw1 a k++rw1 b k:=by unfold rw1;rw [List.map_append,List.filter_append]
theorem rw1_flat {α:Type} (f:α→List Elt) (k:Nat) (l:List α):rw1 (l.flatMap f) k=l.flatMap (fun x=>rw1 (f x) k):=by
 induction l with
 | nil=>rfl
 | cons x l ih=>rw [List.flatMap_cons,rw1_app,ih,List.flatMap_cons]
def NN (e:Elt):Prop:=0≤e.p∧0≤e.s∧0≤e.t
theorem EOk.nn {e:Elt} (h:EOk e):NN e:=⟨h.p0,h.s0,h.t0⟩
theorem wn_nn {e:Elt} (h:NN e) (k:Nat):0≤wn k e:=by
 obtain ⟨h1,h2,h3⟩:=h
 unfold wn rawE
 repeat' split
 all_goals omega
section
variable {k l:Int} {e:Elt}
theorem wn_rs (hl:1≤l) (h:NN e) (j:Nat):wn j (rsE k l e)=if k=j+1∧j < 3 then mvd l (wn j e) else wn j e:=by
 obtain ⟨h1,h2,h3⟩:=h
 have q1:(rsE k l e).p=0 ↔ e.p=0:=by rw [rsE_p];split;(rw [mvd_zero hl];omega);exact Iff.rfl
 have q2:(rsE k l e).s=0 ↔ e.s=0:=by rw [rsE_s];split;(rw [mvd_zero hl];omega);exact Iff.rfl
 have q3:(rsE k l e).t=0 ↔ e.t=0:=by rw [rsE_t];split;(rw [mvd_zero hl];omega);exact Iff.rfl
 by_cases j3:j < 3
 ·rcases show j=0∨j=1∨j=2 by omega with rfl | rfl | rfl
  ·show (rsE k l e).p=if k=((0:Nat):Int)+1∧0 < 3 then mvd l e.p else e.p
   rw [rsE_p]
   by_cases hk:k=1
   ·rw [if_pos hk,if_pos ⟨by omega,by decide⟩]
   ·rw [if_neg hk,if_neg (by omega)]
  ·show (rsE k l e).s=if k=((1:Nat):Int)+1∧1 < 3 then mvd l e.s else e.s
   rw [rsE_s]
   by_cases hk:k=2
   ·rw [if_pos hk,if_pos ⟨by omega,by decide⟩]
   ·rw [if_neg hk,if_neg (by omega)]
  ·show (rsE k l e).t=if k=((2:Nat):Int)+1∧2 < 3 then mvd l e.t else e.t
   rw [rsE_t]
   by_cases hk:k=3
   ·rw [if_pos hk,if_pos ⟨by omega,by decide⟩]
   ·rw [if_neg hk,if_neg (by omega)]
 ·have hneg:¬(k=(j:Int)+1∧j < 3):=fun g=>j3 g.2
  have hno:noneE (rsE k l e)=noneE e:=by
   unfold noneE
   rw [show decide ((rsE k l e).p=0)=decide (e.p=0) from decide_eq_decide.2 q1,show decide ((rsE k l e).s=0)=decide (e.s=0) from decide_eq_decide.2 q2,show decide ((rsE k l e).t=0)=decide (e.t=0) from decide_eq_decide.2 q3]
  rw [if_neg hneg]
  unfold wn
  rw [if_neg j3,if_neg j3,hno]
theorem rw1_rs (hl:1≤l) {es:List Elt} (h:∀e ∈ es,NN e) (j:Nat):rw1 (es.map (rsE k l)) j=if k=j+1∧j < 3 then (rw1 es j).map (mvd l) else rw1 es j:=by
 induction es with
 | nil=>simp [rw1]
 | cons e es ih=>
  have ih:=ih (fun x hx=>h x (List.mem_cons_of_mem _ hx))
  have he:=h e (by simp)
  have hw:=wn_rs (k:=k) hl he j
  have hn:=wn_nn he j
  have e1:∀(x:Elt) (xs:List Elt),rw1 (x::xs) j=(if wn j x=0 then [] else [wn j x])++rw1 xs j:=by
   intro x xs
   unfold rw1
   rw [List.map_cons]
   by_cases q:wn j x=0
   ·rw [List.filter_cons_of_neg (by simpa using q),if_pos q];rfl
   ·rw [List.filter_cons_of_pos (by simpa using q),if_neg q];rfl
  rw [List.map_cons,e1,e1,ih,hw]
  by_cases hk:k=j+1∧j < 3
  ·rw [if_pos hk,if_pos hk,if_pos hk]
   by_cases q:wn j e=0
   ·rw [q,mvd_z hl,if_pos rfl];rfl
   ·have:1≤mvd l (wn j e):=mvd_pos (by omega)
    rw [if_neg q,if_neg (by omega)]
    simp
  ·rw [if_neg hk,if_neg hk,if_neg hk]
end
structure Rm (k l:Int) (c c1:Col):Prop where
 ok:colErr c=0
 k03:k=0∨k=1∨k=2∨k=3
 l1:1≤l
 lb:k=1→l≤c.base
 ents:c1.ents=c.ents.map fun x=>⟨x.codes,x.elems.map (rsE k l)⟩
 base:c1.base=if k=1 then mvd l c.base else c.base
 second:c1.second=if k=2 then mvd l c.second else c.second
 third:c1.third=if k=3 then mvd l c.third else c.third
section
variable {d:List Int} {kn:Bool} {es:List Elt} {c:Col} {t:Tlr} {c':Col}
def lT (t:Tlr) (es:List Elt):Int:=if t.lvl=0 then 1 else lst (atW t.lvl es) t.bef
theorem StpOk.room (h:StpOk d kn es c t c') (hk:kndT t=true) (hc:colErr c=0) (ha:AncOk c.base es):Rm t.lvl (lT t es) c (rmC t es c):=by
 unfold rmC lT
 rcases h.lv with ⟨h1,_⟩ | ⟨h1,h2,h3,h4,h5⟩
 ·rw [if_pos h1,if_pos h1,h1]
  refine ⟨hc,.inl rfl,by decide,fun q=>absurd q (by decide),?_,rfl,rfl,rfl⟩
  refine ((List.map_congr_left fun x _=>?_).trans (List.map_id _)).symm
  rw [show x.elems.map (rsE 0 1)=x.elems from (List.map_congr_left fun e _=>rsE_0 (by decide) e).trans (List.map_id _)]
  rfl
 ·rw [if_neg (by omega),if_neg (by omega)]
  obtain ⟨w1,wb⟩:=atW_pos ha h2
  have hl:=lst_cases (atW t.lvl es) t.bef
  refine ⟨hc,.inr (lvl_cases hk h1),by omega,fun q=>?_,rfl,rfl,rfl,rfl⟩
  have:=wb q
  omega
end
section
variable {k l:Int} {c c1:Col} {cl:Int→Int}
theorem Rm.last (h:Rm k l c c1) (zs:List Int):lastE c1.ents zs=(lastE c.ents zs).map (List.map (rsE k l)):=by
 rw [h.ents]
 exact last_map c.ents zs
theorem last_nn {c:Col} (h:colErr c=0) {p:List Int} {es:List Elt} (hl:lastE c.ents p=some es):∀e ∈ es,NN e∧e.p < c.base:=by
 intro e he
 obtain ⟨x,hx,_,rfl⟩:=lastE_mem hl
 have:=(ent_iff c.base x).1 (ents_all (col_ents h) x hx)
 exact ⟨(this.ev e he).nn,this.eb e he⟩
theorem Rm.part (h:Rm k l c c1) (p:List Int) (q:Bool) {j:Nat} (hj:¬(k=1∧j=0)):rw1 (Mtc.ofPart (lastE c1.ents) (impE c1) p q) j=if k=j+1∧j < 3 then (rw1 (Mtc.ofPart (lastE c.ents) (impE c) p q) j).map (mvd l) else rw1 (Mtc.ofPart (lastE c.ents) (impE c) p q) j:=by
 cases q with
 | true=>
  unfold Mtc.ofPart
  rw [if_pos rfl,if_pos rfl,h.last]
  cases hl:lastE c.ents p with
  | none=>simp [rw1]
  | some es=>
   show rw1 (es.map (rsE k l)) j=_
   exact rw1_rs h.l1 (fun e he=>(last_nn h.ok hl e he).1) j
 | false=>
  unfold Mtc.ofPart
  simp only [Bool.false_eq_true,↓reduceIte]
  generalize p.getD 0 0=z
  obtain ⟨_,g2,g3,g4,g5⟩:=col_grps h.ok
  unfold impE
  rw [h.base,h.second,h.third]
  by_cases hz:0≤z∧z≤1114111
  ·rw [if_pos hz,if_pos hz]
   have hm2:=mvd_pos (l:=l) g4.1
   have hm3:=mvd_pos (l:=l) g5.1
   have hm1:=mvd_pos (l:=l) g2
   rcases h.k03 with rfl | rfl | rfl | rfl
   ·simp [show ¬((0:Int)=(j:Int)+1) by omega]
   ·have hj0:j≠0:=fun e=>hj ⟨rfl,e⟩
    rw [if_neg (show ¬((1:Int)=(j:Int)+1∧j < 3) from fun g=>hj0 (by omega))]
    by_cases j3:j < 3
    ·rcases (show j=1∨j=2 by omega) with rfl | rfl
     ·simp [rw1,wn,rawE]
     ·simp [rw1,wn,rawE]
    ·have e1:¬(mvd l c.base+z / 32768=0):=by omega
     have e2:¬(c.base+z / 32768=0):=by omega
     unfold rw1 wn noneE
     simp [j3,e1,e2]
   ·by_cases j1:j=1
    ·subst j1
     have e2:¬c.second=0:=by omega
     have e3:¬mvd l c.second=0:=by omega
     simp [rw1,wn,rawE,e2,e3]
    ·rw [if_neg (show ¬((2:Int)=(j:Int)+1∧j < 3) from fun g=>j1 (by omega))]
     by_cases j3:j < 3
     ·rcases (show j=0∨j=2 by omega) with rfl | rfl
      ·simp [rw1,wn,rawE]
      ·simp [rw1,wn,rawE]
     ·unfold rw1 wn noneE
      have e2:¬(c.base+z / 32768=0):=by omega
      simp [j3,e2]
   ·by_cases j2:j=2
    ·subst j2
     have e2:¬c.third=0:=by omega
     have e3:¬mvd l c.third=0:=by omega
     simp [rw1,wn,rawE,e2,e3]
    ·rw [if_neg (show ¬((3:Int)=(j:Int)+1∧j < 3) from fun g=>j2 (by omega))]
     by_cases j3:j < 3
     ·rcases (show j=0∨j=1 by omega) with rfl | rfl
      ·simp [rw1,wn,rawE]
      ·simp [rw1,wn,rawE]
     ·unfold rw1 wn noneE
      have e2:¬(c.base+z / 32768=0):=by omega
      simp [j3,e2]
  ·rw [if_neg hz,if_neg hz]
   simp [rw1]
theorem Rm.rows (h:Rm k l c c1) (P:List (List Int × Bool)) {j:Nat} (hj:¬(k=1∧j=0)):rw1 (P.flatMap fun p=>Mtc.ofPart (lastE c1.ents) (impE c1) p.1 p.2) j=if k=j+1∧j < 3 then (rw1 (P.flatMap fun p=>Mtc.ofPart (lastE c.ents) (impE c) p.1 p.2) j).map (mvd l) else rw1 (P.flatMap fun p=>Mtc.ofPart (lastE c.ents) (impE c) p.1 p.2) j:=by
 rw [rw1_flat,rw1_flat]
 induction P with
 | nil=>simp
 | cons p P ih=>
  rw [List.flatMap_cons,List.flatMap_cons,ih,h.part p.1 p.2 hj]
  split
  ·rw [List.map_append]
  ·rfl
end
def freeT (d u:List Int):Prop:=∃x0 d',d=x0::d'∧¬x0 ∈ u
section
variable {d:List Int} {kn:Bool} {es:List Elt} {c:Col} {t:Tlr} {c':Col} {cl:Int→Int}
theorem StpOk.col (h:StpOk d kn es c t c'):c'.base=(rmC t es c).base∧c'.second=(rmC t es c).second∧c'.third=(rmC t es c).third:=by rw [h.eq];exact ⟨rfl,rfl,rfl⟩
theorem StpOk.imp (h:StpOk d kn es c t c'):impE c'=impE (rmC t es c):=by
 obtain ⟨h1,h2,h3⟩:=h.col
 funext z
 unfold impE
 rw [h1,h2,h3]
theorem StpOk.free (h:StpOk d kn es c t c') (hk:kndT t=true) (hc:colErr c=0) (ha:AncOk c.base es) {u:List Int} (hf:freeT d u) :
  Mtc.parts cl (lastE c.ents) u=Mtc.parts cl (lastE c'.ents) u∧Mtc.elems cl (lastE c'.ents) (impE c') u=(Mtc.parts cl (lastE c.ents) u).flatMap fun p=>Mtc.ofPart (lastE (rmC t es c).ents) (impE (rmC t es c)) p.1 p.2:=by
 obtain ⟨x0,d',hd,hx⟩:=hf
 have hrm:=h.room hk hc ha
 have hne:∀x ∈ u,∀zs,x::zs≠d:=fun x hu zs e=>by
  rw [hd] at e
  injection e with e _
  subst e
  exact hx hu
 have e1:Mtc.parts cl (lastE c.ents) u=Mtc.parts cl (lastE c'.ents) u:=Mtc.parts_congr (fun x hu zs=>by
  rw [h.found hk hc ha,if_neg (hne x hu zs),hrm.last]
  cases lastE c.ents (x::zs) <;> rfl)
 refine ⟨e1,?_⟩
 rw [Mtc.elems_parts,←e1]
 have key:∀P:List (List Int × Bool),(∀p ∈ P,p.1≠[]∧∀x ∈ p.1,x ∈ u)→P.flatMap (fun p=>Mtc.ofPart (lastE c'.ents) (impE c') p.1 p.2)=P.flatMap fun p=>Mtc.ofPart (lastE (rmC t es c).ents) (impE (rmC t es c)) p.1 p.2:=by
  intro P
  induction P with
  | nil=>intro _;rfl
  | cons p P ih=>
   intro hP
   rw [List.flatMap_cons,List.flatMap_cons,ih (fun q hq=>hP q (List.mem_cons_of_mem _ hq))]
   congr 1
   obtain ⟨h1,h2⟩:=hP p (by simp)
   have hnd:¬p.1=d:=by
    obtain ⟨p1,p2⟩:=p
    cases p1 with
    | nil=>exact absurd rfl h1
    | cons x zs=>exact hne x (h2 x (by simp)) zs
   unfold Mtc.ofPart
   rw [h.imp,h.found hk hc ha,if_neg hnd]
 exact key _ (fun p hp=>by
  have:=Mtc.parts_mem p hp
  exact ⟨this.1,this.2.1⟩)
end
end Go.Proofs.YtkhmjidaeliccaaGreatDoor.Tl
namespace Go.Proofs.YtkhmjidaeliccaaGreatDoor.Tl
open Go.RowKit
def cdp (z:Int):Prop:=0≤z∧z≤1114111
theorem full_cdp {ms:List Mp} (hc:CodesOk ms) (kd:∀m ∈ ms,m.tag.size=0→m.toq.length=1∨m.toq.length=2) {c:Int} {l:List Int} (h:Full (onM ms false) c l):l≠[]∧(cdp c→∀e ∈ l,cdp e):=by
 induction h with
 | leaf h=>exact ⟨by simp,fun h1 e he=>by simp at he;subst he;exact h1⟩
 | @node c tt vs h1 h2 _ ih=>
  have hk:tt≠[]∧∀e ∈ tt,cdp e:=by
   unfold onM at h1
   split at h1
   ·next h4=>
    injection h1 with h1
    subst h1
    refine ⟨?_,fun e he=>((decomp_kids h4).2 e he).1⟩
    unfold Hg.decomp
    rw [if_neg (by omega)]
    split <;> simp
   ·cases hf:fndM ms false c with
    | none=>rw [hf] at h1;cases h1
    | some m=>
     rw [hf] at h1
     obtain ⟨hm,_,ht⟩:=fndM_at hf
     simp only [Option.map_some,Option.some.injEq] at h1
     rw [toM_at hm] at h1
     subst h1
     refine ⟨?_,(hc m hm).2.2⟩
     have:=kd ms[m] (List.getElem_mem hm) (ht.resolve_left (by decide))
     intro e
     rw [e] at this
     simp at this
  obtain ⟨k1,k2⟩:=hk
  have hp:0 < tt.length:=List.length_pos_iff.2 k1
  refine ⟨?_,fun _ e he=>?_⟩
  ·have h0:=(ih 0 hp (by omega)).1
   intro e
   rw [List.flatten_eq_nil_iff] at e
   exact h0 (e _ (List.getElem_mem _))
  ·obtain ⟨v,hv,he⟩:=List.mem_flatten.1 he
   obtain ⟨i,hi,rfl⟩:=List.getElem_of_mem hv
   exact (ih i (by omega) hi).2 (k2 _ (List.getElem_mem (by omega))) e he
theorem dtx_cdp (x:Nrm) {t:List Int} (ht:rngT t=true):1≤(dtx x false t).length∧∀z ∈ dtx x false t,0≤z∧z≤1114111:=by
 have hN:=usN_ok x
 unfold rngT at ht
 simp only [Bool.and_eq_true,Bool.not_eq_true',List.all_eq_true,decide_eq_true_eq] at ht
 obtain ⟨h1,h2⟩:=ht
 have hf:∀c,Full (onM (usN x).dec false) c (dcM (usN x).dec false c):=fun c=>dcM_full hN.st hN.hg hN.en false c
 constructor
 ·unfold dtx
  rw [Can.srt_len]
  cases t with
  | nil=>simp at h1
  | cons c t=>
   unfold flM
   rw [List.flatMap_cons,List.length_append]
   have:=List.length_pos_iff.2 (full_cdp hN.co hN.kd (hf c)).1
   omega
 ·intro z hz
  unfold dtx at hz
  have hm:=(Can.srt_perm (flM (usN x) false t)).mem_iff.1 hz
  unfold flM at hm
  obtain ⟨c,hct,hzc⟩:=List.mem_flatMap.1 hm
  exact (full_cdp hN.co hN.kd (hf c)).2 (h2 c hct) z hzc
def stepP (x:Nrm) (c:Col) (t:Tlr):Int × Col:=
 if nErr x≠0 then (nErr x,col0)
 else if colErr c≠0 then (colErr c,col0)
 else if kndT t=false then (8,col0)
 else if rngT t.anc=false∨rngT t.cds=false then (1,col0)
 else stepB (dtx x false t.cds) (knwN x c t.anc) (elsN x c t.anc) c t
structure Chk (x:Nrm) (c:Col) (t:Tlr):Prop where
 n:nErr x=0
 c:colErr c=0
 k:kndT t=true
 a:rngT t.anc=true
 d:rngT t.cds=true
theorem stepP_chk {x:Nrm} {c:Col} {t:Tlr} (h:Chk x c t):stepP x c t=stepB (dtx x false t.cds) (knwN x c t.anc) (elsN x c t.anc) c t:=by
 unfold stepP
 rw [if_neg (by rw [h.n];simp),if_neg (by rw [h.c];simp),if_neg (by rw [h.k];simp),if_neg (by rw [h.a,h.d];simp)]
theorem stepP_ok {x:Nrm} {c:Col} {t:Tlr} {c':Col} (h:stepP x c t=(0,c')):Chk x c t∧StpOk (dtx x false t.cds) (knwN x c t.anc) (elsN x c t.anc) c t c'∧AncOk c.base (elsN x c t.anc):=by
 have hk:Chk x c t:=by
  unfold stepP at h
  split at h
  ·next g=>injection h with h;exact absurd h g
  ·next g1=>
   split at h
   ·next g=>injection h with h;exact absurd h g
   ·next g2=>
    split at h
    ·injection h with h;cases h
    ·next g3=>
     split at h
     ·injection h with h;cases h
     ·next g4=>
      refine ⟨by omega,by omega,?_,?_,?_⟩
      ·cases q:kndT t with | true=>rfl | false=>exact absurd q g3
      ·cases q:rngT t.anc with | true=>rfl | false=>exact absurd (.inl q) g4
      ·cases q:rngT t.cds with | true=>rfl | false=>exact absurd (.inr q) g4
 rw [stepP_chk hk] at h
 have hs:=stepB_ok hk.k h
 refine ⟨hk,hs,?_⟩
 have hkn:=hs.kn
 unfold knwN at hkn
 have e:colD c=c:=if_pos hk.c
 rw [e] at hkn
 unfold elsN
 rw [e]
 exact known_ok hk.c hkn
section
variable {x:Nrm} {c:Col} {t:Tlr} {c':Col}
theorem stepP_valid (h:stepP x c t=(0,c')):colErr c'=0:=by
 obtain ⟨hk,hs,ha⟩:=stepP_ok h
 obtain ⟨d1,d2⟩:=dtx_cdp x hk.d
 exact hs.valid hk.k hk.c ha d1 d2
theorem stepP_found (h:stepP x c t=(0,c')):∃l,lastE c'.ents (dtx x false t.cds)=some l∧(0 < l.length ↔ 0 < (elsN x c t.anc).length)∧l.length≤(elsN x c t.anc).length∧c'.grps.length=c.grps.length∧c'.ents.length≤c.ents.length+1:=by
 obtain ⟨hk,hs,ha⟩:=stepP_ok h
 obtain ⟨l1,l2,l3,l4⟩:=hs.lens
 exact ⟨_,by rw [hs.found hk.k hk.c ha,if_pos rfl],l1,l2,l3,l4⟩
end
end Go.Proofs.YtkhmjidaeliccaaGreatDoor.Tl
namespace Go.Proofs.YtkhmjidaeliccaaGreatDoor
open Go.RowKit Tl Pa
theorem catch_idle (p q r:Addr) (w:World) :
  CallsD Tryz.prog 57 #[.pointer (some p),.pointer (some q),.pointer (some r)] .returning w fun e u' w'=>e=.returned (.tuple #[])∧u'=.returning∧w'=w:=by
 have hnil:∀w:World,(binOp BinOp.neq 20 .nilIface .nilIface).run Tryz.prog w=.ok (.bool false) w:=fun _=>by kernel_rfl
 refine callsD_of_wpS Tryz.func57 rfl fun c₀ cs hu=>?_
 apply wpS_seq
 apply wpS_region
 simp [wpOpsS,go_sem,recoverD,hu,Tryz.ntmps57,Exit.thenS,hnil]
 refine wpS_cond (t:=false) (by simp [Act.eval,Array.replicate]) ?_
 simp only [Bool.false_eq_true,if_false]
 refine wpS_of_wp (wp_skip ?_)
 cases c₀
 simp_all [bodyPostS,results,Tryz.results57]
theorem catch_panicking (pb qb rb P:Nat) (at_:Int) (s0 z0 z1:Value) (u:TypeId) (pv:Value) (older:List PanicEntry) (w:World) (h1:w.cell? ⟨pb,0,none⟩=some (.pointer (some ⟨P,0,none⟩))) (h2:w.cell? ⟨P,1,none⟩=some (.int .i64 at_)) (h3:w.cell? ⟨qb,0,none⟩=some s0) (h4:w.cell? ⟨rb,0,none⟩=some z0) (h5:w.cell? ⟨rb,1,none⟩=some z1)
  (f3:w.frozen? ⟨qb,0,none⟩=false) (f4:w.frozen? ⟨rb,0,none⟩=false) (f5:w.frozen? ⟨rb,1,none⟩=false) (hqr:qb≠rb) :
  CallsD Tryz.prog 57 #[.pointer (some ⟨pb,0,none⟩),.pointer (some ⟨qb,0,none⟩),.pointer (some ⟨rb,0,none⟩)] (.panicking ({ v:=.iface u pv,recovered:=false }::older)) w fun e u' w'=>
   e=.returned (.tuple #[])∧u'=.panicking ({ v:=.iface u pv,recovered:=true }::older)∧w'=((w.setCell ⟨qb,0,none⟩ (.slice none 0 0)).setCell ⟨rb,0,none⟩ (.int .i64 3)).setCell ⟨rb,1,none⟩ (.int .i64 at_):=by
 have hnn:∀w:World,(binOp BinOp.neq 20 (.iface u pv) .nilIface).run Tryz.prog w=.ok (.bool true) w:=fun _=>by kernel_rfl
 refine callsD_of_wpS Tryz.func57 rfl fun c₀ cs hu=>?_
 apply wpS_seq
 apply wpS_region
 simp [wpOpsS,go_sem,recoverD,hu,Tryz.ntmps57,Exit.thenS,hnn]
 refine wpS_cond (t:=true) (by simp [Act.eval,Array.replicate]) ?_
 simp only [if_true]
 refine wpS_of_wp ?_
 go_wp2_with fail
 clear h1 h2 h3 h4 h5 f3 f4 f5 hnn
 generalize World.setCell _ _ _=w9
 cases c₀
 simp_all [bodyPostS,results,Tryz.results57]
def Tlrs (w:World) (K:Option Addr) (l:List Tlr):Prop:=∃vs:List (Option Addr × Nat × Option Addr × Nat),vs.length=l.length∧Sl w K (tlrsC vs l)∧∀i,(hi:i < l.length)→(hv:i < vs.length)→Ints w vs[i].1 l[i].anc∧Ints w vs[i].2.2.1 l[i].cds
theorem StepsAt.tlrs {w:World} {P base c:Nat} {K:Option Addr} {l:List Tlr} (h:StepsAt w P base K c l):Tlrs w K l:=by
 obtain ⟨vs,h1,h2,h3⟩:=h.ex
 exact ⟨vs,h1,Sl.of_own h2,fun i hi hv=>⟨(h3 i hi hv).a,(h3 i hi hv).b⟩⟩
def RetParse (r:List Tlr × Int × Int) (w:World) (e:Ending) (w':World):Prop:=∃K c,e=.returned (.tuple #[.slice K r.1.length c,.agg #[.int .i64 r.2.1,.int .i64 r.2.2]])∧Tlrs w' K r.1∧Below w.heap.size w w'
theorem stpN_len {s:ByteArray}:∀{n:Nat} {a:List Int} {b:Bool} {l m:List Tlr} {i j:Nat},stpN s n a b l i=.ok (m,j)→m.length+i≤l.length+j
 | 0,a,b,l,m,i,j,h=>by
  injection h with h;injection h with h h'
  subst h;subst h'
  exact Nat.le_refl _
 | n+1,a,b,l,m,i,j,h=>by
  unfold stpN at h
  split at h
  ·cases h
  ·next j1 h1=>
   have g1:=sgn_ok h1
   split at h
   ·cases h
   ·next j2 h2=>
    have g2:=lit_ok h2
    have g3:=blk_le s j1
    split at h
    ·have g4:=stpN_len h
     simp at g4
     omega
    ·injection h with h;injection h with h h'
     subst h;subst h'
     simp
     omega
theorem chn_len {s:ByteArray} {l m:List Tlr} {i j:Nat} (h:chn s l i=.ok (m,j)):m.length+i≤l.length+j:=by
 rw [chn_eq] at h
 split at h
 ·cases h
 ·next u i1 h1=>
  have g1:=(wrd_ok (by simp) h1).1
  have g2:=blk_le s i1
  simp at g1
  split at h
  ·cases h
  ·next b i2 h2=>
   have g3:=(bfr_ok h2).1
   split at h
   ·cases h
   ·next h3=>
    have g4:=lit_ok h3
    have g5:=stpN_len h
    omega
theorem chsN_more {s:ByteArray}:∀(n m:Nat) (l:List Tlr) (i:Nat),s.size - i≤n→s.size - i≤m→chsN s n l i=chsN s m l i
 | 0,0,l,i,_,_=>rfl
 | 0,m+1,l,i,h,_=>by
  have e:chsN s (m+1) l i=.ok (l,i):=by unfold chsN;rw [if_neg (by omega)]
  rw [e];rfl
 | n+1,0,l,i,_,h=>by
  have e:chsN s (n+1) l i=.ok (l,i):=by unfold chsN;rw [if_neg (by omega)]
  rw [e];rfl
 | n+1,m+1,l,i,h1,h2=>by
  unfold chsN
  by_cases h0:i < s.size
  ·rw [if_pos h0,if_pos h0]
   cases hc:chn s l i with
   | error e=>rfl
   | ok q=>
    obtain ⟨l',j⟩:=q
    have:=chn_ok hc
    dsimp only
    exact chsN_more n m l' j (by omega) (by omega)
  ·rw [if_neg h0,if_neg h0]
def chsR (s:ByteArray) (l:List Tlr) (i:Nat):Rd (List Tlr):=chsN s (s.size - i) l i
theorem chsR_stop {s:ByteArray} {l:List Tlr} {i:Nat} (h:¬i < s.size):chsR s l i=.ok (l,i):=by
 unfold chsR
 cases s.size - i with
 | zero=>rfl
 | succ n=>unfold chsN;rw [if_neg h]
theorem chsR_step {s:ByteArray} {l:List Tlr} {i:Nat} (h:i < s.size):chsR s l i=match chn s l i with | .error e=>.error e | .ok (m,j)=>chsR s m j:=by
 unfold chsR
 rw [show s.size - i=(s.size - (i+1))+1 by omega]
 conv=>lhs;unfold chsN
 rw [if_pos h]
 cases hc:chn s l i with
 | error e=>rfl
 | ok q=>
  obtain ⟨m,j⟩:=q
  have:=chn_ok hc
  dsimp only
  exact chsN_more _ _ m j (by omega) (Nat.le_refl _)
def retP (r:Rd (List Tlr)):List Tlr × Int × Int:=match r with | .error e=>([],3,e) | .ok (l,_)=>(l,0,0)
theorem parseF_small {s:ByteArray} (h:¬65536 < s.size):parseF s=retP (parse s):=by
 unfold parseF
 rw [if_neg h]
 cases parse s <;> rfl
structure PaS (w:World) (n:Nat) (s:ByteArray) (K:Option Addr) (c:Nat) (l:List Tlr) (p:Nat) (wr:World):Prop where
 bS:Box wr n 44 [.slice K l.length c]
 bF:Box wr (n+1) 47 [.int .i64 0,.int .i64 0]
 bP:PsB wr (n+1+1) s p
 bV:Box wr (n+1+1+1) 100 [.pointer (some ⟨n+1+1,0,none⟩)]
 st:StepsAt wr (n+1+1) (n+1+1+1+1) K c l
 bel:Below n w wr
 sz:n+1+1+1+1≤wr.heap.size
section
variable {w wr W:World} {n c p j c':Nat} {s:ByteArray} {K K':Option Addr} {l l':List Tlr}
theorem PaS.below (h:PaS w n s K c l p wr) (hb:Below wr.heap.size wr W):PaS w n s K c l p W:=by
 have:=h.sz
 exact ⟨h.bS.below hb h.bS.lt,h.bF.below hb h.bF.lt,h.bP.below hb h.bP.lt,h.bV.below hb h.bV.lt,h.st.below hb,h.bel.trans (hb.mono (by omega)),by have:=hb.size;omega⟩
theorem PaS.low (h:PaS w n s K c l p wr) (hp:PsL (n+1+1) (n+1+1+1+1) s wr j W):Box W n 44 [.slice K l.length c]∧Box W (n+1) 47 [.int .i64 0,.int .i64 0]∧PsB W (n+1+1) s j∧Box W (n+1+1+1) 100 [.pointer (some ⟨n+1+1,0,none⟩)]∧Below n w W:=
 ⟨(hp.low n (by omega) (by omega)).trans h.bS,(hp.low _ (by omega) (by omega)).trans h.bF,hp.box,(hp.low _ (by omega) (by omega)).trans h.bV,h.bel.trans ⟨hp.os,hp.tape,hp.output,hp.size,fun q hq=>hp.low q (by omega) (by omega)⟩⟩
theorem StepsAt.set {P base q o:Nat} (h:StepsAt wr P base K c l) (hq:q < base) (v:Value):StepsAt (wr.setCell ⟨q,o,none⟩ v) P base K c l:=by
 obtain ⟨vs,h1,h2,h3⟩:=h.ex
 exact ⟨vs,h1,own_ps h2 (grown_set wr ⟨q,o,none⟩ v) hq,fun i hi hv=>(h3 i hi hv).kept (grown_set wr ⟨q,o,none⟩ v) (.inl ⟨q,rfl,hq⟩)⟩
theorem PaS.next (h:PaS w n s K c l p wr) (hp:PsL (n+1+1) (n+1+1+1+1) s wr j W) (hs:StepsAt W (n+1+1) (n+1+1+1+1) K' c' l'):PaS w n s K' c' l' j (W.setCell ⟨n,0,none⟩ (.slice K' l'.length c')):=by
 obtain ⟨b1,b2,b3,b4,b5⟩:=h.low hp
 have hz:=h.sz
 refine ⟨b1.set 0 _,b2.grown (grown_set W ⟨n,0,none⟩ _) (by simp),b3.grown (grown_set W ⟨n,0,none⟩ _) (by simp;omega),b4.grown (grown_set W ⟨n,0,none⟩ _) (by simp;omega),hs.set (by omega) _,b5.setCell (Nat.le_refl _) _,?_⟩
 have:=hp.size
 simp
 omega
end
theorem parse_any (s:ByteArray) (w:World) (hs:s.size≤9223372036854775806):Calls Tryz.prog 19 #[.string s] w (RetParse (parseF s) w):=by
 have hmf:∀(fn:Fn) (first cap:Array Value) (w:World),(Instr.makeFunc fn first cap).run Tryz.prog w=.ok (.func fn first cap) w:=fun _ _ _ _=>rfl
 by_cases hbig:65536 < s.size
 ·have d1:decide ((65536:Int) < (s.size:Int))=true:=by simp;omega
  have hr:parseF s=([],2,0):=by unfold parseF;rw [if_pos hbig]
  rw [hr]
  go_enter_defers Tryz.func19,Tryz.ntmps19
  go_wp2_with fail
  refine ⟨.tuple #[.slice none 0 0,.agg #[.int .i64 2,.int .i64 0]],by simp [results,Tryz.results19,go_sem],?_⟩
  exact ⟨none,0,rfl,⟨[],rfl,fun h=>absurd rfl h,fun i hi _=>absurd hi (by simp)⟩,((Below.refl _ _).alloc (Nat.le_refl _) _).alloc (by simp) _⟩
 ·have d1:decide ((65536:Int) < (s.size:Int))=false:=by simp;omega
  have hsz:s.size≤65536:=by omega
  obtain ⟨r,hr⟩:∃r,parse s=r:=⟨_,rfl⟩
  have HPF:=Lib.hid (show parseF s=retP r from by rw [←hr];exact parseF_small hbig)
  have HR0:=Lib.hid (show r=chsR s [] (skp s 0) from hr.symm)
  have hb0:=blk_sz (s:=s) (i:=0) (Nat.zero_le _)
  generalize parseF s=pf at *
  have B0:Below w.heap.size w ((((w.alloc (.cells #[.slice none 0 0] 44)).alloc (.cells #[.int .i64 0,.int .i64 0] 47)).alloc (.cells #[.string s,.int .i64 0] 102)).alloc (.cells #[.pointer (some ⟨w.heap.size+1+1,0,none⟩)] 100)):=((((Below.refl _ _).alloc (Nat.le_refl _) _).alloc (by simp) _).alloc (by simp <;> omega) _).alloc (by simp <;> omega) _
  have XS:Box ((((w.alloc (.cells #[.slice none 0 0] 44)).alloc (.cells #[.int .i64 0,.int .i64 0] 47)).alloc (.cells #[.string s,.int .i64 0] 102)).alloc (.cells #[.pointer (some ⟨w.heap.size+1+1,0,none⟩)] 100)) w.heap.size 44 [.slice none 0 0]:=(((Box.new w 44 [.slice none 0 0] rfl).below (B:=w.heap.size+1) ((Below.refl _ _).alloc (by simp) _) (by omega)).below (B:=w.heap.size+1) ((Below.refl _ _).alloc (by simp <;> omega) _) (by omega)).below (B:=w.heap.size+1) ((Below.refl _ _).alloc (by simp <;> omega) _) (by omega)
  have XF:Box ((((w.alloc (.cells #[.slice none 0 0] 44)).alloc (.cells #[.int .i64 0,.int .i64 0] 47)).alloc (.cells #[.string s,.int .i64 0] 102)).alloc (.cells #[.pointer (some ⟨w.heap.size+1+1,0,none⟩)] 100)) (w.heap.size+1) 47 [.int .i64 0,.int .i64 0]:=((Box.new _ 47 [.int .i64 0,.int .i64 0] (by simp)).below (B:=w.heap.size+1+1) ((Below.refl _ _).alloc (by simp) _) (by omega)).below (B:=w.heap.size+1+1) ((Below.refl _ _).alloc (by simp <;> omega) _) (by omega)
  have XP:Box ((((w.alloc (.cells #[.slice none 0 0] 44)).alloc (.cells #[.int .i64 0,.int .i64 0] 47)).alloc (.cells #[.string s,.int .i64 0] 102)).alloc (.cells #[.pointer (some ⟨w.heap.size+1+1,0,none⟩)] 100)) (w.heap.size+1+1) 102 [.string s,.int .i64 0]:=(Box.new _ 102 [.string s,.int .i64 0] (by simp)).below (B:=w.heap.size+1+1+1) ((Below.refl _ _).alloc (by simp) _) (by omega)
  have XV:Box ((((w.alloc (.cells #[.slice none 0 0] 44)).alloc (.cells #[.int .i64 0,.int .i64 0] 47)).alloc (.cells #[.string s,.int .i64 0] 102)).alloc (.cells #[.pointer (some ⟨w.heap.size+1+1,0,none⟩)] 100)) (w.heap.size+1+1+1) 100 [.pointer (some ⟨w.heap.size+1+1,0,none⟩)]:=Box.new _ _ _ (by simp)
  have HZ:w.heap.size+1+1+1+1≤(((((w.alloc (.cells #[.slice none 0 0] 44)).alloc (.cells #[.int .i64 0,.int .i64 0] 47)).alloc (.cells #[.string s,.int .i64 0] 102)).alloc (.cells #[.pointer (some ⟨w.heap.size+1+1,0,none⟩)] 100))).heap.size:=by simp
  have W0E:∃W0,((((w.alloc (.cells #[.slice none 0 0] 44)).alloc (.cells #[.int .i64 0,.int .i64 0] 47)).alloc (.cells #[.string s,.int .i64 0] 102)).alloc (.cells #[.pointer (some ⟨w.heap.size+1+1,0,none⟩)] 100))=W0:=⟨_,rfl⟩
  clear hbig hr
  go_enter_defers Tryz.func19,Tryz.ntmps19
  go_wp2_with fail
  obtain ⟨W0,hW0⟩:=W0E
  try rw [hW0] at B0 XS XF XP XV HZ ⊢
  clear hW0
  have H0:=Lib.hid (show PaS w w.heap.size s none 0 [] 0 W0 from ⟨XS,XF,XP,XV,StepsAt.nil _ _ _,B0,HZ⟩)
  have KB:=Lib.hid (blanks_any (w.heap.size+1+1) s 0 W0 XP (Nat.zero_le _) (by omega))
  clear XS XF XP XV HZ B0
  generalize hn:w.heap.size=n at *
  have HN:=Lib.hid hn
  clear hn
  generalize skp s 0=p0 at *
  with_reducible refine KB.out.mono ?_
  rintro e W1 ⟨rfl,hp1⟩
  have H1:=Lib.hid (show PaS w n s none 0 [] p0 W1 from by
   have hz:=H0.out.sz
   have hg:=hp1.gr
   have q:∀b,b < n+1+1+1+1→b≠n+1+1→W1.heap[b]?=W0.heap[b]?:=fun b hb hne=>hg.block b (by omega) (fun e=>hne (by first | (injection e) | (injection e with e;exact e.symm)))
   exact ⟨(q n (by omega) (by omega)).trans H0.out.bS,(q _ (by omega) (by omega)).trans H0.out.bF,hp1.box,(q _ (by omega) (by omega)).trans H0.out.bV,StepsAt.nil _ _ _,H0.out.bel.trans ⟨hg.os,hg.tape,hg.output,hg.size,fun k hk=>q k (by omega) (by omega)⟩,Nat.le_trans hz hg.size⟩)
  clear hp1 KB H0
  go_wp2_with fail
  go_loopw [] (fun wr=>∃(K:Option Addr) (c:Nat) (l:List Tlr) (p:Nat),p≤s.size∧l.length≤p∧Hid (r=chsR s l p)∧PaS w n s K c l p wr) (fun wr=>s.size - psAt (n+1+1) wr)
  case atStart=>exact ⟨none,0,[],p0,hb0,Nat.zero_le _,HR0,H1.out⟩
  case round=>
   obtain ⟨K,c,l,p,hp,hlp,hb,hpa⟩:=hrel
   have HP:=Lib.hid hpa
   have c1:=hpa.bP.cell (i:=1) rfl
   have c0:=hpa.bP.cell (i:=0) rfl
   have cv:=hpa.bV.cell (i:=0) rfl
   clear hpa H1 HR0
   by_cases hlt:p < s.size
   ·have d2:decide ((p:Int) < (s.size:Int))=true:=by simp;omega
    have HST:=Lib.hid (hb.out.trans (chsR_step hlt))
    have HAT:=Lib.hid (show psAt (n+1+1) wr=p from by unfold psAt;rw [c1];rfl)
    have hok:=fun m j=>chn_ok (s:=s) (l:=l) (m:=m) (i:=p) (j:=j)
    have hln:=fun m j=>chn_len (s:=s) (l:=l) (m:=m) (i:=p) (j:=j)
    have KC:=Lib.hid (fun (W:World) (h:PaS w n s K c l p W)=>pchain_any (n+1+1) (n+1+1+1+1) s p K c l W h.bP (by omega) h.sz h.st hp hsz hlp)
    unfold RdL at KC
    go_wp2_with fail
    go_quiet (fail)
    have HP1:=Lib.hid (HP.out.below (below_of_drewN wr nq))
    clear c0 c1 cv HP hb
    generalize World.drewN wr nq=w2 at *
    have KC1:=Lib.hid (KC.out w2 HP1.out)
    have cv:=HP1.out.bV.cell (i:=0) rfl
    have cs:=HP1.out.bS.cell (i:=0) rfl
    clear KC
    cases hc:chn s l p with
    | error f=>
     rw [hc] at HST KC1
     have HF:=Lib.hid (show r=.error f from HST.out)
     clear hc HST
     go_wp2_with fail
     with_reducible refine KC1.out.mono ?_
     rintro e W3 ⟨⟨u,pv,rfl⟩,hp3⟩
     have HL:=Lib.hid (HP1.out.low hp3)
     clear hp3 KC1
     go_wp2_with fail
     obtain ⟨q1,q2,q3,q4,q5⟩:=HL.out
     have cs3:=q1.cell (i:=0) rfl
     have cf0:=q2.cell (i:=0) rfl
     have cf1:=q2.cell (i:=1) rfl
     refine leaves_cons (f:=57) (args:=#[.pointer (some ⟨n+1+1+1,0,none⟩),.pointer (some ⟨n,0,none⟩),.pointer (some ⟨n+1,0,none⟩)]) (by simp) (by simp [go_sem]) ?_
     refine (catch_panicking (n+1+1+1) n (n+1) (n+1+1) f _ _ _ u pv [] W3 (q4.cell (i:=0) rfl) (q3.cell (i:=1) rfl) cs3 cf0 cf1 (q1.free 0) (q2.free 0) (q2.free 1) (by omega)).mono ?_
     rintro e u' w'' ⟨rfl,rfl,rfl⟩
     refine ⟨.tuple #[.slice none 0 0,.agg #[.int .i64 3,.int .i64 f]],by simp [results,Tryz.results19,go_sem,cs3,cf0,cf1],?_⟩
     rw [HPF.out,HF.out]
     refine ⟨none,0,rfl,⟨[],rfl,fun h=>absurd rfl h,fun i hi _=>absurd hi (by simp [retP])⟩,?_⟩
     rw [HN.out]
     exact ((q5.setCell (Nat.le_refl _) _).setCell (by simp) _).setCell (by simp) _
    | ok q=>
     obtain ⟨m,j⟩:=q
     have hj:=hok m j hc
     have hm:=hln m j hc
     rw [hc] at HST KC1
     dsimp only at HST KC1
     clear hc hok hln
     unfold chainV at KC1
     go_wp2_with fail
     with_reducible refine KC1.out.mono ?_
     rintro e W3 ⟨⟨v,rfl,K',c',rfl,hst⟩,hp3⟩
     have HN3:=Lib.hid (HP1.out.next hp3 hst)
     have HL:=Lib.hid (HP1.out.low hp3)
     have cs3:=HL.out.1.cell (i:=0) rfl
     have fs3:=HL.out.1.free 0
     clear hst hp3 KC1 cv cs
     go_wp2_with fail
     go_roundw
     case rel=>exact ⟨K',c',m,j,hj.2,by omega,HST,HN3.out⟩
     case measure=>
      have q1:psAt (n+1+1) (W3.setCell ⟨n,0,none⟩ (.slice K' m.length c'))=j:=by
       unfold psAt
       rw [HN3.out.bP.cell (i:=1) rfl]
       rfl
      rw [q1,HAT.out]
      omega
   ·have d2:decide ((p:Int) < (s.size:Int))=false:=by simp;omega
    have HF:=Lib.hid (hb.out.trans (chsR_stop hlt))
    go_wp2_with fail
    go_quiet (fail)
    have HP1:=Lib.hid (HP.out.below (below_of_drewN wr nq))
    clear c0 c1 cv HP hb
    generalize World.drewN wr nq=w2 at *
    have cs:=HP1.out.bS.cell (i:=0) rfl
    have fs:=HP1.out.bS.free 0
    have cf0:=HP1.out.bF.cell (i:=0) rfl
    have cf1:=HP1.out.bF.cell (i:=1) rfl
    have ff0:=HP1.out.bF.free 0
    have ff1:=HP1.out.bF.free 1
    go_wp2_with fail
    refine leaves_cons (f:=57) (args:=#[.pointer (some ⟨n+1+1+1,0,none⟩),.pointer (some ⟨n,0,none⟩),.pointer (some ⟨n+1,0,none⟩)]) (by simp) (by simp [go_sem]) ?_
    refine (catch_idle _ _ _ _).mono ?_
    rintro e u' w'' ⟨rfl,rfl,rfl⟩
    refine ⟨.tuple #[.slice K l.length c,.agg #[.int .i64 0,.int .i64 0]],by simp [results,Tryz.results19,go_sem,cs,cf0,cf1],?_⟩
    rw [HPF.out,HF.out]
    refine ⟨K,c,rfl,(((HP1.out.st.set (by omega) _).set (by omega) _).set (by omega) _).tlrs,?_⟩
    rw [HN.out]
    exact ((HP1.out.bel.setCell (Nat.le_refl _) _).setCell (by simp) _).setCell (by simp) _
end Go.Proofs.YtkhmjidaeliccaaGreatDoor
namespace Go.Proofs.YtkhmjidaeliccaaGreatDoor
open Go.RowKit Go.Maps Go.WideMaps Tl
theorem stpV_eq (x:Nrm) (c:Col) (t:Tlr):stpV x c t=stepP x c t:=by
 unfold stpV stepP chkV
 by_cases h1:nErr x≠0
 ·rw [if_pos h1,if_pos h1,if_pos h1]
 ·rw [if_neg h1,if_neg h1]
  by_cases h2:colErr c≠0
  ·rw [if_pos h2,if_pos h2,if_pos h2]
  ·rw [if_neg h2,if_neg h2]
   cases h3:kndT t with
   | false=>simp
   | true=>
    cases h4:rngT t.anc with
    | false=>simp
    | true=>
     cases h5:rngT t.cds with
     | false=>simp
     | true=>simp
theorem col_sz {c:Col} (h:colErr c=0) (hn:c.ents.length≤1048576) (hm:c.grps.length≤1048576):ColSz c:=by
 refine ⟨fun i hi=>?_,hn,hm⟩
 have:=(ent_iff c.base _).1 (ents_all (col_ents h) _ (List.getElem_mem hi))
 have h1:=this.c8
 have h2:=this.e16
 omega
theorem stp_sz {x:Nrm} {c:Col} {t:Tlr} (h:(stpV x c t).1=0):(stpV x c t).2.ents.length≤c.ents.length+1∧(stpV x c t).2.grps.length=c.grps.length∧colErr (stpV x c t).2=0:=by
 rw [stpV_eq] at h ⊢
 have he:stepP x c t=(0,(stepP x c t).2):=by rw [←h]
 have h1:=stepP_valid he
 obtain ⟨l,-,-,-,h4,h5⟩:=stepP_found he
 exact ⟨h5,h4,h1⟩
def applyF (x:Nrm):Col→List Tlr→Nat→Int × Int × Col
 | c,[],_=>(0,0,c)
 | c,t::l,i=>if (stpV x c t).1≠0 then ((stpV x c t).1,i,col0) else applyF x (stpV x c t).2 l (i+1)
theorem applyF_step {x:Nrm} {c:Col} {l:List Tlr} {i:Nat} (hi:i < l.length):applyF x c (l.drop i) i=if (stpV x c l[i]).1≠0 then ((stpV x c l[i]).1,(i:Int),col0) else applyF x (stpV x c l[i]).2 (l.drop (i+1)) (i+1):=by
 rw [List.drop_eq_getElem_cons hi]
 rfl
theorem applyF_end {x:Nrm} {c:Col} {l:List Tlr}:applyF x c (l.drop l.length) l.length=(0,0,c):=by
 rw [List.drop_length]
 rfl
theorem Tlrs.below {w w':World} {K:Option Addr} {l:List Tlr} (h:Tlrs w K l) (hb:Below w.heap.size w w'):Tlrs w' K l:=by
 obtain ⟨vs,h1,h2,h3⟩:=h
 exact ⟨vs,h1,h2.below hb,fun i hi hv=>⟨(h3 i hi hv).1.below hb,(h3 i hi hv).2.below hb⟩⟩
theorem tlrsC_get:∀{vs:List (Option Addr × Nat × Option Addr × Nat)} {l:List Tlr} (i f:Nat) (hl:vs.length=l.length) (hi:i < l.length) (_:f < 4),(tlrsC vs l)[i*4+f]?=(tlrC (vs[i]'(by omega)) l[i])[f]?
 | v::vs,t::l,0,f,_,_,hf=>by
  show (tlrC v t++tlrsC vs l)[0*4+f]?=_
  rw [List.getElem?_append_left (by simp [tlrC];omega)]
  simp
 | v::vs,t::l,i+1,f,hl,hi,hf=>by
  have e:(tlrsC (v::vs) (t::l))=tlrC v t++tlrsC vs l:=rfl
  rw [e,List.getElem?_append_right (by simp [tlrC];omega)]
  have h2:(i+1)*4+f - (tlrC v t).length=i*4+f:=by simp [tlrC];omega
  rw [h2,tlrsC_get i f (by simpa using hl) (by simpa using hi) hf]
  rfl
 | [],t::l,_,_,hl,_,_=>by simp at hl
 | _,[],_,_,_,hi,_=>by simp at hi
theorem tlrsC_len:∀{vs:List (Option Addr × Nat × Option Addr × Nat)} {l:List Tlr},vs.length=l.length→(tlrsC vs l).length=l.length*4
 | [],[],_=>rfl
 | v::vs,t::l,h=>by
  show (tlrC v t++tlrsC vs l).length=_
  rw [List.length_append,tlrsC_len (by simpa using h)]
  simp [tlrC]
  omega
 | [],_::_,h=>by simp at h
 | _::_,[],h=>by simp at h
theorem Tlrs.at {w:World} {K:Option Addr} {l:List Tlr} (h:Tlrs w K l) {m:Nat} (hm:m < l.length):∃b o,K=some ⟨b,o,none⟩∧b < w.heap.size∧∀i,(hi:i < l.length)→∃P p Q q,w.cell? ⟨b,o+i*4,none⟩=some (.slice P l[i].anc.length p)∧w.cell? ⟨b,o+i*4+1,none⟩=some (.slice Q l[i].cds.length q)∧w.cell? ⟨b,o+i*4+2,none⟩=some (.int .i64 l[i].lvl)∧w.cell? ⟨b,o+i*4+3,none⟩=some (.bool l[i].bef)∧Ints w P l[i].anc∧Ints w Q l[i].cds:=by
 obtain ⟨vs,h1,h2,h3⟩:=h
 have hne:tlrsC vs l≠[]:=fun e=>by
  have:=tlrsC_len h1
  rw [e] at this
  simp only [List.length_nil] at this
  omega
 obtain ⟨b,o,rfl,hc⟩:=h2 hne
 refine ⟨b,o,rfl,sl_lt h2 hne rfl,fun i hi=>?_⟩
 have hv:i < vs.length:=by omega
 have gt:=fun f (hf:f < 4) u hu=>hc (i*4+f) u ((tlrsC_get i f h1 hi hf).trans hu)
 obtain ⟨a1,a2⟩:=h3 i hi hv
 refine ⟨vs[i].1,vs[i].2.1,vs[i].2.2.1,vs[i].2.2.2,?_,?_,?_,?_,a1,a2⟩
 ·have:=gt 0 (by omega) _ rfl;simpa using this
 ·have:=gt 1 (by omega) _ rfl;simpa [Nat.add_assoc] using this
 ·have:=gt 2 (by omega) _ rfl;simpa [Nat.add_assoc] using this
 ·have:=gt 3 (by omega) _ rfl;simpa [Nat.add_assoc] using this
def ColFr (N:Nat) (w:World) (A B:Option Addr) (c:Col):Prop:=∀Z W',Chg Z w W'→(∀q,Z q→q < N)→ColAt W' A c.ents.length B c.grps.length c
theorem ColFr.here {N:Nat} {w:World} {A B:Option Addr} {c:Col} (h:ColFr N w A B c):ColAt w A c.ents.length B c.grps.length c:=h (fun _=>False) w (Chg.refl _ _) (fun _ e=>e.elim)
theorem ColFr.chg {N:Nat} {Z:Nat→Prop} {w w':World} {A B:Option Addr} {c:Col} (h:ColFr N w A B c) (hc:Chg Z w w') (hZ:∀q,Z q→q < N):ColFr N w' A B c:=fun _ W' hc' hZ'=>
 h (fun q=>q < N) W' ((hc.mono (fun q _ z=>hZ q z)).trans (hc'.mono (fun q _ z=>hZ' q z))) (fun _ z=>z)
theorem ColFr.low {N M:Nat} {w:World} {A B:Option Addr} {c:Col} (h:ColFr N w A B c) (hm:M≤N):ColFr M w A B c:=fun Z W' hc hZ=>h Z W' hc (fun q z=>Nat.lt_of_lt_of_le (hZ q z) hm)
theorem ColFr.below {N:Nat} {w w':World} {A B:Option Addr} {c:Col} (h:ColFr N w A B c) (hb:Below w.heap.size w w'):ColFr N w' A B c:=h.chg (Chg.of_below (S:=fun _=>False) hb) (fun _ e=>e.elim)
theorem cp_fresh {w w':World} {c:Col} {A:Option Addr} {a:Nat} {B:Option Addr} {b base z top:Nat} (hcp:CpE w' base z A a c.ents c.ents.length top) (hgr:w'.ownsRow w.heap.size 98 3 (.slice B c.grps.length b) c.grps.length (flatK Grp.cells c.grps)) (hz1:w.heap.size≤z) (hz2:z < base) (hs:∀g ∈ c.grps,g.name.size≤9223372036854775807):ColFr w.heap.size w' A B c:=by
 intro Z W' hc hZ
 obtain ⟨vs,m,hop⟩:=hcp.open
 refine ⟨⟨vs,hop.len,Sl.of_own (own_chg hop.row hc (fun q hq z=>by have:=(own_blk hop.row hq).1;have:=hZ q z;omega)),fun i hi hv=>hop.hdr2 (grownR_refl w' _) hc (fun q z=>by have:=hZ q z;omega) i hi hv⟩,Sl.of_own (own_chg hgr hc (fun q hq z=>by have:=(own_blk hgr hq).1;have:=hZ q z;omega)),rfl,rfl,hs⟩
end Go.Proofs.YtkhmjidaeliccaaGreatDoor
namespace Go.Proofs.YtkhmjidaeliccaaGreatDoor
open Go.RowKit Go.Maps Go.WideMaps Go.Shelf Tl Pa
def Bld (B b:Nat) (r:List Int) (w:World):Prop:=Lib.IsBuilderF 125 5 B b (Lib.byteCells (byt r)) w
theorem Bld.new (w:World) (n:Nat) (h:w.heap.size=n):Bld n n [] (w.alloc (.cells #[.pointer none,.slice none 0 0] 125)):=by
 subst h
 exact .inl ⟨Nat.le_refl _,.slice none 0 0,heap_alloc_new w _,⟨rfl,.inl ⟨rfl,rfl⟩⟩,fun e=>by cases e⟩
theorem Bld.below {B b:Nat} {r:List Int} {w w':World} (h:Bld B b r w) (hb:Below w.heap.size w w'):Bld B b r w':=by
 have key:∀p,Lib.BuilderAtF 125 5 B b p (Lib.byteCells (byt r)) w→Lib.BuilderAtF 125 5 B b p (Lib.byteCells (byt r)) w':=fun p hp=>by
  have hl:=hp.lt
  obtain ⟨h1,v,h2,h3,h4⟩:=hp
  refine ⟨h1,v,(hb.block b hl).trans h2,h3.kept (row:=none) ⟨hb.os,hb.tape,hb.output,hb.size,fun k hk _=>hb.block k hk⟩ ?_,h4⟩
  cases v.ownBlock with
  | none=>exact .inl rfl
  | some q=>exact .inr (fun e=>by cases e)
 exact h.elim (fun x=>.inl (key _ x)) (fun x=>.inr (key _ x))
theorem Bld.lt {B b:Nat} {r:List Int} {w:World} (h:Bld B b r w):b < w.heap.size:=h.elim (fun x=>x.lt) (fun x=>x.lt)
theorem byteCells_app (a b:List Int):Lib.byteCells (byt (a++b))=Lib.byteCells (byt a)++Lib.strCells (strOfNums b):=by
 rw [byt_app]
 unfold Lib.byteCells Lib.strCells
 rw [List.map_append]
 rfl
theorem ws_any (B b:Nat) (r s:List Int) (x:ByteArray) (w:World) (h:Bld B b r w) (hx:x=strOfNums s) (hl:r.length+s.length≤140737488355328) (hB:B≤w.heap.size) :
  Calls Tryz.prog 75 #[.pointer (some ⟨b,0,none⟩),.string x] w (fun e w'=>(∃v,e=.returned v)∧Bld B b (r++s) w'∧Below B w w'∧Lib.OthersKept 5 (some b) w w'):=by
 subst hx
 have L:Lays.n166 Tryz.prog layJ_ren:={ layJ with }
 refine (show Calls Tryz.prog 75 _ w _ from Any.Builder_WriteString_k L layJX B b (Lib.byteCells (byt r)) (strOfNums s) w h ?_ hB).mono ?_
 ·unfold Lib.byteCells byt
  rw [strOfNums_size,List.length_map,List.length_map]
  exact hl
 ·rintro e w' ⟨rfl,h1,h2,h3⟩
  refine ⟨⟨_,rfl⟩,.inr ?_,h2,h3⟩
  rw [byteCells_app]
  exact h1
theorem bs_any (B b:Nat) (r:List Int) (w:World) (h:Bld B b r w) (hB:B≤w.heap.size) :
  Calls Tryz.prog 77 #[.pointer (some ⟨b,0,none⟩)] w (fun e w'=>e=.returned (.string (strOfNums r))∧Below B w w'):=by
 have L:Lays.n169 Tryz.prog layJ_ren:={ layJ with }
 refine (show Calls Tryz.prog 77 _ w _ from Any.Builder_String_any_k L layJX B b (byt r) w h hB).mono ?_
 rintro e w' ⟨rfl,-,h2,-⟩
 exact ⟨rfl,h2⟩
theorem Box.kept {w w':World} {b n:Nat} {t:TypeId} {cs:List Value} (h:Box w n t cs) (hk:Lib.OthersKept 5 (some b) w w') (hn:n≠b) (ht:t≠5):Box w' n t cs:=
 hk n _ h (fun e=>hn (Option.some.inj e)) (fun c fz e=>by injection e with e1 e2 e3;exact ht e2)
theorem txtI_snoc {l:List Tlr} {i:Nat} (hi:i < l.length):txtI (l.take (i+1))=txtI (l.take i)++stpI l[i]:=by
 unfold txtI
 rw [List.take_add_one,List.getElem?_eq_getElem hi,List.flatMap_append]
 simp
theorem txtI_le {l:List Tlr} (h:∀t ∈ l,t.anc.length≤65536∧t.cds.length≤65536):∀i,(txtI (l.take i)).length≤i*917525:=by
 intro i
 induction i with
 | zero=>simp [txtI]
 | succ i ih=>
  by_cases hi:i < l.length
  ·rw [txtI_snoc hi,List.length_append]
   have:=stpI_len l[i]
   have:=h _ (List.getElem_mem hi)
   omega
  ·have e1:l.take (i+1)=l:=List.take_of_length_le (by omega)
   have e2:l.take i=l:=List.take_of_length_le (by omega)
   rw [e2] at ih
   rw [e1]
   exact Nat.le_trans ih (Nat.mul_le_mul_right _ (Nat.le_succ i))
theorem sgnI_le (k:Int):(sgnI k).length≤3:=by unfold sgnI;split;simp;split;simp;split <;> simp
end Go.Proofs.YtkhmjidaeliccaaGreatDoor
