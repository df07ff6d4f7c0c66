/- Texts that are merged into one file: SetPlain, Norm, MapCk, RefMap, Once, MapI. -/
import Derived.Test.YtkhmjidaeliccaaGreatDoorB02
import Derived.Test.YtkhmjidaeliccaaGreatDoorB03
import Derived.Test.YtkhmjidaeliccaaGreatDoorB05
import Derived.Test.YtkhmjidaeliccaaGreatDoorB07
import Derived.Test.YtkhmjidaeliccaaGreatDoorB08
import Derived.Test.YtkhmjidaeliccaaGreatDoorProg
set_option maxRecDepth 100000
set_option maxHeartbeats 51200000
namespace Go.Proofs.YtkhmjidaeliccaaGreatDoor
open Go.RowKit
def anyR (rs:List Rg) (c:Int):Bool:=rs.any (fun r=>inR r.lo r.hi c)
theorem hasR_any {rs:List Rg} {c:Int} (h1:0≤c) (h2:c≤1114111):hasR rs c=anyR rs c:=by unfold hasR anyR;rw [inR_true h1 h2,Bool.true_and]
theorem anyR_iff {rs:List Rg} {c:Int}:anyR rs c=true ↔ ∃r ∈ rs,r.lo≤c∧c≤r.hi:=by
 unfold anyR
 rw [List.any_eq_true]
 constructor
 ·rintro ⟨r,hr,h⟩;exact ⟨r,hr,inR_iff.1 h⟩
 ·rintro ⟨r,hr,h⟩;exact ⟨r,hr,inR_iff.2 h⟩
def okR (rs:List Rg):Prop:=(∀r ∈ rs,clipOk r)∧rs.Pairwise (fun a b=>a.hi+1 < b.lo)
theorem okR.nil:okR []:=⟨fun _ h=>(by cases h),List.Pairwise.nil⟩
theorem okR_unique:∀{xs ys:List Rg},okR xs→okR ys→(∀c,0≤c→c≤1114111→(anyR xs c=true ↔ anyR ys c=true))→xs=ys
 | [],[],_,_,_=>rfl
 | [],y::s,_,hy,h=>by
  have hc:=hy.1 y (by simp)
  unfold clipOk at hc
  have:=(h y.lo hc.1 (by omega)).2 (anyR_iff.2 ⟨y,by simp,by omega,hc.2.1⟩)
  obtain ⟨r,hr,_⟩:=anyR_iff.1 this
  cases hr
 | x::r,[],hx,_,h=>by
  have hc:=hx.1 x (by simp)
  unfold clipOk at hc
  have:=(h x.lo hc.1 (by omega)).1 (anyR_iff.2 ⟨x,by simp,by omega,hc.2.1⟩)
  obtain ⟨r,hr,_⟩:=anyR_iff.1 this
  cases hr
 | x::r,y::s,hx,hy,h=>by
  have cx:=hx.1 x (by simp)
  have cy:=hy.1 y (by simp)
  obtain ⟨px,qx⟩:=List.pairwise_cons.1 hx.2
  obtain ⟨py,qy⟩:=List.pairwise_cons.1 hy.2
  unfold clipOk at cx cy
  have lo:x.lo=y.lo:=by
   rcases Int.lt_trichotomy x.lo y.lo with g | g | g
   ·have:=(h x.lo cx.1 (by omega)).1 (anyR_iff.2 ⟨x,by simp,by omega,cx.2.1⟩)
    obtain ⟨t,ht,t1,t2⟩:=anyR_iff.1 this
    rcases List.mem_cons.1 ht with rfl | ht
    ·omega
    ·have:=py t ht;omega
   ·exact g
   ·have:=(h y.lo cy.1 (by omega)).2 (anyR_iff.2 ⟨y,by simp,by omega,cy.2.1⟩)
    obtain ⟨t,ht,t1,t2⟩:=anyR_iff.1 this
    rcases List.mem_cons.1 ht with rfl | ht
    ·omega
    ·have:=px t ht;omega
  have hi:x.hi=y.hi:=by
   rcases Int.lt_trichotomy x.hi y.hi with g | g | g
   ·have:=(h (x.hi+1) (by omega) (by omega)).2 (anyR_iff.2 ⟨y,by simp,by omega,by omega⟩)
    obtain ⟨t,ht,t1,t2⟩:=anyR_iff.1 this
    rcases List.mem_cons.1 ht with rfl | ht
    ·omega
    ·have:=px t ht;omega
   ·exact g
   ·have:=(h (y.hi+1) (by omega) (by omega)).1 (anyR_iff.2 ⟨x,by simp,by omega,by omega⟩)
    obtain ⟨t,ht,t1,t2⟩:=anyR_iff.1 this
    rcases List.mem_cons.1 ht with rfl | ht
    ·omega
    ·have:=py t ht;omega
  have e:x=y:=by cases x;cases y;simp_all
  subst e
  rw [okR_unique (xs:=r) (ys:=s) ⟨fun t ht=>hx.1 t (by simp [ht]),qx⟩ ⟨fun t ht=>hy.1 t (by simp [ht]),qy⟩ (fun c c0 c1=>?_)]
  constructor
  ·intro g
   obtain ⟨t,ht,t1,t2⟩:=anyR_iff.1 g
   have:=px t ht
   obtain ⟨u,hu,u1,u2⟩:=anyR_iff.1 ((h c c0 c1).1 (anyR_iff.2 ⟨t,by simp [ht],t1,t2⟩))
   rcases List.mem_cons.1 hu with rfl | hu
   ·omega
   ·exact anyR_iff.2 ⟨u,hu,u1,u2⟩
  ·intro g
   obtain ⟨t,ht,t1,t2⟩:=anyR_iff.1 g
   have:=py t ht
   obtain ⟨u,hu,u1,u2⟩:=anyR_iff.1 ((h c c0 c1).2 (anyR_iff.2 ⟨t,by simp [ht],t1,t2⟩))
   rcases List.mem_cons.1 hu with rfl | hu
   ·omega
   ·exact anyR_iff.2 ⟨u,hu,u1,u2⟩
def clip1 (r:Rg):Rg:=⟨max r.lo 0,min r.hi 1114111⟩
def clipL (rs:List Rg):List Rg:=(rs.map clip1).filter (fun r=>decide (r.lo≤r.hi))
theorem clipL_take {rs:List Rg} {i:Nat} (hi:i < rs.length):clipL (rs.take (i+1))=clipL (rs.take i)++(if (clip1 rs[i]).lo≤(clip1 rs[i]).hi then [clip1 rs[i]] else []):=by
 unfold clipL
 rw [List.take_succ_eq_append_getElem hi,List.map_append,List.filter_append]
 congr 1
 by_cases h:(clip1 rs[i]).lo≤(clip1 rs[i]).hi <;> simp [h]
theorem clipL_len (rs:List Rg):(clipL rs).length≤rs.length:=by
 unfold clipL
 have:=List.length_filter_le (fun r:Rg=>decide (r.lo≤r.hi)) (rs.map clip1)
 rw [List.length_map] at this
 exact this
theorem clipL_ok (rs:List Rg):∀r ∈ clipL rs,clipOk r:=by
 intro r hr
 unfold clipL at hr
 rw [List.mem_filter,List.mem_map] at hr
 obtain ⟨⟨q,_,rfl⟩,h⟩:=hr
 simp at h
 unfold clipOk
 unfold clip1 at *
 dsimp only at *
 omega
theorem clipL_any {rs:List Rg} {c:Int} (h1:0≤c) (h2:c≤1114111):anyR (clipL rs) c=true ↔ anyR rs c=true:=by
 rw [anyR_iff,anyR_iff]
 constructor
 ·rintro ⟨r,hr,a,b⟩
  unfold clipL at hr
  rw [List.mem_filter,List.mem_map] at hr
  obtain ⟨⟨q,hq,rfl⟩,_⟩:=hr
  unfold clip1 at a b
  dsimp only at a b
  exact ⟨q,hq,by omega,by omega⟩
 ·rintro ⟨q,hq,a,b⟩
  refine ⟨clip1 q,?_,?_,?_⟩
  ·unfold clipL
   rw [List.mem_filter,List.mem_map]
   refine ⟨⟨q,hq,rfl⟩,?_⟩
   unfold clip1
   simp
   omega
  ·unfold clip1;dsimp only;omega
  ·unfold clip1;dsimp only;omega
def growL:List Rg→Int→List Rg
 | [],_=>[]
 | [x],h=>[⟨x.lo,max x.hi h⟩]
 | x::y::r,h=>x::growL (y::r) h
theorem growL_len:∀(l:List Rg) (h:Int),(growL l h).length=l.length
 | [],_=>rfl
 | [_],_=>rfl
 | x::y::r,h=>by simp only [growL,List.length_cons,growL_len (y::r) h]
theorem growL_set:∀{l:List Rg} {n:Nat} (hn:l.length=n+1) (h:Int),growL l h=l.set n ⟨(l[n]'(by omega)).lo,max (l[n]'(by omega)).hi h⟩
 | [x],0,_,h=>rfl
 | x::y::r,n+1,hn,h=>by
  have:=growL_set (l:=y::r) (n:=n) (by simpa using hn) h
  simp only [growL,List.set_cons_succ,this,List.getElem_cons_succ]
def mrg (out:List Rg) (r:Rg):List Rg:=match out.getLast? with | some l=>if r.lo≤l.hi+1 then growL out r.hi else out++[r] | none=>[r]
structure Mg (ps out:List Rg) (b:Int):Prop where
 ok:okR out
 any:∀c,anyR out c=true ↔ anyR ps c=true
 lo:∀r ∈ out,r.lo≤b
theorem Mg.nil (b:Int):Mg [] [] b:=⟨okR.nil,fun _=>Iff.rfl,fun _ h=>(by cases h)⟩
theorem growL_mem:∀{l:List Rg} {h:Int} {r:Rg},r ∈ growL l h→∃q ∈ l,q.lo=r.lo∧(r.hi=q.hi∨(l.getLast?=some q∧r.hi=max q.hi h))
 | [x],h,r,hr=>by
  simp only [growL,List.mem_singleton] at hr
  subst hr
  exact ⟨x,by simp,rfl,.inr ⟨rfl,rfl⟩⟩
 | x::y::l,h,r,hr=>by
  simp only [growL,List.mem_cons] at hr
  rcases hr with rfl | hr
  ·exact ⟨r,by simp,rfl,.inl rfl⟩
  ·obtain ⟨q,hq,h1,h2⟩:=growL_mem hr
   exact ⟨q,by simp [hq],h1,h2.imp id (fun ⟨a,b⟩=>⟨by rw [List.getLast?_cons_cons];exact a,b⟩)⟩
theorem growL_any:∀{l:List Rg} {x q:Rg} {c:Int},l.getLast?=some x→x.lo≤q.lo→q.lo≤x.hi+1→x.lo≤x.hi→(anyR (growL l q.hi) c=true ↔ (anyR l c=true∨(q.lo≤c∧c≤q.hi)))
 | [y],x,q,c,hl,h1,h2,h3=>by
  simp at hl
  subst hl
  rw [anyR_iff,anyR_iff]
  simp only [growL,List.mem_singleton]
  constructor
  ·rintro ⟨_,rfl,a,b⟩
   dsimp only at a b
   by_cases g:c≤y.hi
   ·exact .inl ⟨y,rfl,a,g⟩
   ·exact .inr (by omega)
  ·rintro (⟨_,rfl,a,b⟩ | ⟨a,b⟩)
   ·exact ⟨_,rfl,a,by dsimp only;omega⟩
   ·exact ⟨_,rfl,by dsimp only;omega,by dsimp only;omega⟩
 | z::y::r,x,q,c,hl,h1,h2,h3=>by
  rw [List.getLast?_cons_cons] at hl
  have ih:=growL_any (l:=y::r) (x:=x) (q:=q) (c:=c) hl h1 h2 h3
  simp only [growL]
  have e:∀(s:List Rg),anyR (z::s) c=true ↔ (inR z.lo z.hi c=true∨anyR s c=true):=fun s=>by unfold anyR;rw [List.any_cons,Bool.or_eq_true]
  rw [e,e,ih,or_assoc]
theorem growL_pw:∀{l:List Rg} {h:Int},l.Pairwise (fun a b=>a.hi+1 < b.lo)→(growL l h).Pairwise (fun a b=>a.hi+1 < b.lo)
 | [],_,_=>List.Pairwise.nil
 | [x],_,_=>List.pairwise_singleton _ _
 | x::y::r,h,hp=>by
  obtain ⟨p1,p2⟩:=List.pairwise_cons.1 hp
  simp only [growL]
  refine List.pairwise_cons.2 ⟨fun t ht=>?_,growL_pw p2⟩
  obtain ⟨q,hq,h1,_⟩:=growL_mem ht
  have:=p1 q hq
  omega
theorem anyR_append {xs ys:List Rg} {c:Int}:anyR (xs++ys) c=true ↔ (anyR xs c=true∨anyR ys c=true):=by unfold anyR;rw [List.any_append,Bool.or_eq_true]
theorem anyR_one {q:Rg} {c:Int}:anyR [q] c=true ↔ (q.lo≤c∧c≤q.hi):=by unfold anyR;simp [inR_iff]
theorem last_max:∀{l:List Rg} {x:Rg},(∀r ∈ l,clipOk r)→l.Pairwise (fun a b=>a.hi+1 < b.lo)→l.getLast?=some x→∀r ∈ l,r.hi≤x.hi
 | [],_,_,_,h,_,_=>by cases h
 | [y],x,_,_,h,r,hr=>by simp at h hr;subst h;subst hr;exact Int.le_refl _
 | z::y::l,x,hc,hp,h,r,hr=>by
  rw [List.getLast?_cons_cons] at h
  obtain ⟨p1,p2⟩:=List.pairwise_cons.1 hp
  have ih:=last_max (l:=y::l) (fun t ht=>hc t (by simp [ht])) p2 h
  rcases List.mem_cons.1 hr with rfl | hr
  ·have h1:=p1 y (by simp)
   have h2:=hc y (by simp)
   have h3:=ih y (by simp)
   unfold clipOk at h2
   omega
  ·exact ih r hr
theorem Mg.step {ps out:List Rg} {b:Int} {q:Rg} (h:Mg ps out b) (hb:b≤q.lo) (hq:clipOk q):Mg (ps++[q]) (mrg out q) q.lo:=by
 obtain ⟨⟨o1,o2⟩,ha,hl⟩:=h
 unfold clipOk at hq
 unfold mrg
 cases hx:out.getLast? with
 | none=>
  have:out=[]:=List.getLast?_eq_none_iff.1 hx
  subst this
  refine ⟨⟨fun r hr=>?_,List.pairwise_singleton _ _⟩,fun c=>?_,fun r hr=>?_⟩
  ·simp at hr;subst hr;exact hq
  ·rw [anyR_append,←ha c]
   have:¬anyR [] c=true:=by unfold anyR;simp
   simp [this]
  ·simp at hr;subst hr;exact Int.le_refl _
 | some x=>
  have hxm:x ∈ out:=List.mem_of_getLast? hx
  have hxo:=o1 x hxm
  have hxl:=hl x hxm
  unfold clipOk at hxo
  simp only
  split
  ·next g=>
   refine ⟨⟨fun r hr=>?_,growL_pw o2⟩,fun c=>?_,fun r hr=>?_⟩
   ·obtain ⟨t,ht,h1,h2⟩:=growL_mem hr
    have:=o1 t ht
    unfold clipOk at this ⊢
    rcases h2 with h2 | ⟨_,h2⟩ <;> omega
   ·rw [growL_any hx (by omega) g (by omega),anyR_append,ha c,anyR_one]
   ·obtain ⟨t,ht,h1,_⟩:=growL_mem hr
    have:=hl t ht
    omega
  ·next g=>
   have hm:=last_max o1 o2 hx
   refine ⟨⟨fun r hr=>?_,?_⟩,fun c=>?_,fun r hr=>?_⟩
   ·rcases List.mem_append.1 hr with hr | hr
    ·exact o1 r hr
    ·simp at hr;subst hr;exact hq
   ·rw [List.pairwise_append]
    refine ⟨o2,List.pairwise_singleton _ _,fun a ha' t ht=>?_⟩
    simp at ht
    subst ht
    have:=hm a ha'
    omega
   ·rw [anyR_append,anyR_append,ha c]
   ·rcases List.mem_append.1 hr with hr | hr
    ·have:=hl r hr;omega
    ·simp at hr;subst hr;exact Int.le_refl _
def placeL:List Int→Int→List Int
 | [],n=>[n]
 | x::r,n=>if n≤x then (if n < x then n::x::r else x::r) else x::placeL r n
theorem placeL_mem:∀{l:List Int} {n x:Int},x ∈ placeL l n ↔ (x=n∨x ∈ l)
 | [],n,x=>by simp [placeL]
 | y::r,n,x=>by
  simp only [placeL]
  split
  ·split
   ·simp
   ·have:n=y:=by omega
    subst this
    simp
  ·rw [List.mem_cons,placeL_mem,List.mem_cons]
   constructor
   ·rintro (h | h | h)
    ·exact .inr (.inl h)
    ·exact .inl h
    ·exact .inr (.inr h)
   ·rintro (h | h | h)
    ·exact .inr (.inl h)
    ·exact .inl h
    ·exact .inr (.inr h)
theorem placeL_asc:∀{l:List Int} {n:Int},l.Pairwise (· < ·)→(placeL l n).Pairwise (· < ·)
 | [],n,_=>List.pairwise_singleton _ _
 | y::r,n,h=>by
  obtain ⟨h1,h2⟩:=List.pairwise_cons.1 h
  simp only [placeL]
  split
  ·split
   ·refine List.pairwise_cons.2 ⟨fun t ht=>?_,h⟩
    rcases List.mem_cons.1 ht with rfl | ht
    ·assumption
    ·have:=h1 t ht;omega
   ·exact h
  ·refine List.pairwise_cons.2 ⟨fun t ht=>?_,placeL_asc h2⟩
   rcases placeL_mem.1 ht with rfl | ht
   ·omega
   ·exact h1 t ht
def cut1 (l:List Int) (r:Rg):List Int:=
 let l1:=if inR 0 1114111 r.lo=true then placeL l r.lo else l
 if 0≤r.hi∧r.hi < 1114111 then placeL l1 (r.hi+1) else l1
def cutsL (l:List Int) (rs:List Rg):List Int:=placeL (rs.foldl cut1 l) 0
structure Ct (rs:List Rg) (l:List Int):Prop where
 asc:l.Pairwise (· < ·)
 bd:∀x ∈ l,0≤x∧x≤1114111
 lo:∀r ∈ rs,0≤r.lo→r.lo≤1114111→r.lo ∈ l
 hi:∀r ∈ rs,0≤r.hi→r.hi < 1114111→r.hi+1 ∈ l
theorem Ct.nil:Ct [] []:=⟨List.Pairwise.nil,fun _ h=>(by cases h),fun _ h=>(by cases h),fun _ h=>(by cases h)⟩
theorem Ct.place {rs:List Rg} {l:List Int} (h:Ct rs l) {n:Int} (h1:0≤n) (h2:n≤1114111):Ct rs (placeL l n):=
 ⟨placeL_asc h.asc,fun x hx=>by rcases placeL_mem.1 hx with rfl | hx;exact ⟨h1,h2⟩;exact h.bd x hx,fun r hr a b=>placeL_mem.2 (.inr (h.lo r hr a b)),fun r hr a b=>placeL_mem.2 (.inr (h.hi r hr a b))⟩
theorem Ct.step {rs:List Rg} {l:List Int} (h:Ct rs l) (r:Rg):Ct (rs++[r]) (cut1 l r):=by
 unfold cut1
 have h1:∃l1,(if inR 0 1114111 r.lo=true then placeL l r.lo else l)=l1∧Ct rs l1∧(0≤r.lo→r.lo≤1114111→r.lo ∈ l1):=by
  by_cases g:inR 0 1114111 r.lo=true
  ·have gg:=inR_iff.1 g
   exact ⟨_,rfl,by rw [if_pos g];exact h.place gg.1 gg.2,fun _ _=>by rw [if_pos g];exact placeL_mem.2 (.inl rfl)⟩
  ·refine ⟨_,rfl,by rw [if_neg g];exact h,fun a b=>absurd (inR_true a b) g⟩
 obtain ⟨l1,e,c1,c2⟩:=h1
 dsimp only
 rw [e]
 have h2:∃l2,(if 0≤r.hi∧r.hi < 1114111 then placeL l1 (r.hi+1) else l1)=l2∧Ct rs l2∧(0≤r.lo→r.lo≤1114111→r.lo ∈ l2)∧(0≤r.hi→r.hi < 1114111→r.hi+1 ∈ l2):=by
  by_cases g:0≤r.hi∧r.hi < 1114111
  ·exact ⟨_,rfl,by rw [if_pos g];exact c1.place (by omega) (by omega),fun a b=>by rw [if_pos g];exact placeL_mem.2 (.inr (c2 a b)),fun _ _=>by rw [if_pos g];exact placeL_mem.2 (.inl rfl)⟩
  ·exact ⟨_,rfl,by rw [if_neg g];exact c1,fun a b=>by rw [if_neg g];exact c2 a b,fun a b=>absurd ⟨a,b⟩ g⟩
 obtain ⟨l2,e2,d1,d2,d3⟩:=h2
 rw [e2]
 refine ⟨d1.asc,d1.bd,fun t ht a b=>?_,fun t ht a b=>?_⟩
 ·rcases List.mem_append.1 ht with ht | ht
  ·exact d1.lo t ht a b
  ·simp at ht;subst ht;exact d2 a b
 ·rcases List.mem_append.1 ht with ht | ht
  ·exact d1.hi t ht a b
  ·simp at ht;subst ht;exact d3 a b
theorem Ct.fold:∀(rs:List Rg) {qs:List Rg} {l:List Int},Ct qs l→Ct (qs++rs) (rs.foldl cut1 l)
 | [],qs,l,h=>by simpa using h
 | r::rs,qs,l,h=>by
  have:=Ct.fold rs (h.step r)
  rw [List.append_assoc] at this
  exact this
theorem Ct.cuts {rs qs:List Rg} {l:List Int} (h:Ct qs l):Ct (qs++rs) (cutsL l rs)∧0 ∈ cutsL l rs:=
 ⟨(Ct.fold rs h).place (by omega) (by omega),placeL_mem.2 (.inl rfl)⟩
def nxt (cs:List Int) (k:Nat):Int:=(cs[k]?).getD 1114112
def bld (p:Int→Bool) (cs:List Int):Nat→List Rg × Bool
 | 0=>([],false)
 | k+1=>
  let s:=bld p cs k
  let c:=nxt cs k
  let h:=nxt cs (k+1) - 1
  if p c=true then (if s.2=true then growL s.1 h else s.1++[⟨c,h⟩],true) else (s.1,false)
def canR (rs:List Rg):List Rg:=(bld (hasR rs) (cutsL (cutsL [] rs) []) (cutsL (cutsL [] rs) []).length).1
structure Bd (p:Int→Bool) (out:List Rg) (o:Bool) (n:Int):Prop where
 ok:okR out
 any:∀c,0≤c→c < n→(anyR out c=true ↔ p c=true)
 hi:∀r ∈ out,r.hi < n
 yes:o=true→∃x,out.getLast?=some x∧x.hi=n - 1
 no:o=false→∀r ∈ out,r.hi+1 < n
theorem Bd.step {p:Int→Bool} {out:List Rg} {o:Bool} {n m:Int} (h:Bd p out o n) (h0:0≤n) (hm:n < m) (hmx:m≤1114112) (hc:∀c,n≤c→c < m→p c=p n) :
  Bd p (if p n=true then (if o=true then growL out (m - 1) else out++[⟨n,m - 1⟩],true) else (out,false)).1 (if p n=true then (if o=true then growL out (m - 1) else out++[⟨n,m - 1⟩],true) else (out,false)).2 m:=by
 obtain ⟨⟨o1,o2⟩,ha,hh,hy,hn⟩:=h
 by_cases hp:p n=true
 ·rw [if_pos hp]
  dsimp only
  cases o with
  | true=>
   rw [if_pos rfl]
   obtain ⟨x,hx,hxh⟩:=hy rfl
   have hxm:=List.mem_of_getLast? hx
   have hxo:=o1 x hxm
   unfold clipOk at hxo
   refine ⟨⟨fun r hr=>?_,growL_pw o2⟩,fun c c0 c1=>?_,fun r hr=>?_,fun _=>?_,fun e=>by cases e⟩
   ·obtain ⟨t,ht,h1,h2⟩:=growL_mem hr
    have:=o1 t ht
    unfold clipOk at this ⊢
    rcases h2 with h2 | ⟨_,h2⟩ <;> omega
   ·rw [growL_any (q:=⟨n,m - 1⟩) hx (by dsimp only;omega) (by dsimp only;omega) (by omega)]
    dsimp only
    by_cases g:c < n
    ·rw [ha c c0 g]
     constructor
     ·rintro (h | h)
      ·exact h
      ·omega
     ·exact .inl
    ·rw [hc c (by omega) c1]
     exact ⟨fun _=>hp,fun _=>.inr (by omega)⟩
   ·obtain ⟨t,ht,h1,h2⟩:=growL_mem hr
    have:=hh t ht
    rcases h2 with h2 | ⟨_,h2⟩ <;> omega
   ·have hne:out≠[]:=by rintro rfl;cases hx
    obtain ⟨k,hk⟩:∃k,out.length=k+1:=⟨out.length - 1,by have:=List.length_pos_iff.2 hne;omega⟩
    rw [growL_set hk]
    have hxk:out[k]'(by omega)=x:=by
     rw [List.getLast?_eq_getElem?,hk] at hx
     simp at hx
     exact (List.getElem?_eq_some_iff.1 hx).2
    rw [hxk]
    refine ⟨⟨x.lo,max x.hi (m - 1)⟩,?_,by dsimp only;omega⟩
    rw [List.getLast?_eq_getElem?,List.length_set,hk]
    simp [hk]
  | false=>
   rw [if_neg (by simp)]
   have hn':=hn rfl
   refine ⟨⟨fun r hr=>?_,?_⟩,fun c c0 c1=>?_,fun r hr=>?_,fun _=>⟨⟨n,m - 1⟩,by simp,rfl⟩,fun e=>by cases e⟩
   ·rcases List.mem_append.1 hr with hr | hr
    ·exact o1 r hr
    ·simp at hr;subst hr;unfold clipOk;dsimp only;omega
   ·rw [List.pairwise_append]
    refine ⟨o2,List.pairwise_singleton _ _,fun a ha' t ht=>?_⟩
    simp at ht
    subst ht
    exact hn' a ha'
   ·rw [anyR_append,anyR_one]
    dsimp only
    by_cases g:c < n
    ·rw [ha c c0 g]
     constructor
     ·rintro (h | h)
      ·exact h
      ·omega
     ·exact .inl
    ·rw [hc c (by omega) c1]
     exact ⟨fun _=>hp,fun _=>.inr (by omega)⟩
   ·rcases List.mem_append.1 hr with hr | hr
    ·have:=hh r hr;omega
    ·simp at hr;subst hr;dsimp only;omega
 ·rw [if_neg hp]
  dsimp only
  refine ⟨⟨o1,o2⟩,fun c c0 c1=>?_,(fun r hr=>by have:=hh r hr;omega),(fun e=>by cases e),(fun _ r hr=>by have:=hh r hr;omega)⟩
  by_cases g:c < n
  ·exact ha c c0 g
  ·rw [hc c (by omega) c1]
   constructor
   ·intro h
    obtain ⟨r,hr,a,b⟩:=anyR_iff.1 h
    have:=hh r hr
    omega
   ·intro h;exact absurd h hp
theorem asc_none {cs:List Int} (h:cs.Pairwise (· < ·)) {k:Nat} (hk:k < cs.length) {x:Int} (hx:x ∈ cs) (h1:cs[k] < x):nxt cs (k+1)≤x:=by
 obtain ⟨j,hj,rfl⟩:=List.getElem_of_mem hx
 have hjk:k < j:=by
  rcases Nat.lt_trichotomy j k with g | g | g
  ·have:=List.pairwise_iff_getElem.1 h j k hj hk g;omega
  ·subst g;omega
  ·exact g
 unfold nxt
 rcases Nat.lt_or_ge (k+1) cs.length with g | g
 ·rw [List.getElem?_eq_getElem g]
  simp only [Option.getD_some]
  rcases Nat.lt_or_ge (k+1) j with g2 | g2
  ·have:=List.pairwise_iff_getElem.1 h (k+1) j g hj g2;omega
  ·have:j=k+1:=by omega
   subst this;exact Int.le_refl _
 ·omega
theorem hasR_const {rs:List Rg} {cs:List Int} (h:Ct rs cs) {k:Nat} (hk:k < cs.length) {c:Int} (h1:cs[k]≤c) (h2:c < nxt cs (k+1)) (h3:c≤1114111):hasR rs c=hasR rs cs[k]:=by
 have hb:=h.bd _ (List.getElem_mem hk)
 rw [hasR_any (by omega) h3,hasR_any hb.1 hb.2,Bool.eq_iff_iff,anyR_iff,anyR_iff]
 constructor
 ·rintro ⟨r,hr,a,b⟩
  refine ⟨r,hr,?_,by omega⟩
  apply Int.not_lt.1
  intro g
  have:=asc_none h.asc hk (h.lo r hr (by omega) (by omega)) g
  omega
 ·rintro ⟨r,hr,a,b⟩
  refine ⟨r,hr,by omega,?_⟩
  apply Int.not_lt.1
  intro g
  have:=asc_none h.asc hk (h.hi r hr (by omega) (by omega)) (by omega)
  omega
theorem nxt_bd {rs:List Rg} {cs:List Int} (h:Ct rs cs) (k:Nat):0≤nxt cs k∧nxt cs k≤1114112:=by
 unfold nxt
 rcases Nat.lt_or_ge k cs.length with g | g
 ·rw [List.getElem?_eq_getElem g]
  have:=h.bd _ (List.getElem_mem g)
  simp;omega
 ·rw [List.getElem?_eq_none g];simp
theorem bld_ok {rs:List Rg} {cs:List Int} (h:Ct rs cs) (h0:0 ∈ cs):∀k,k≤cs.length→Bd (hasR rs) (bld (hasR rs) cs k).1 (bld (hasR rs) cs k).2 (nxt cs k)
 | 0,_=>by
  have e:nxt cs 0=0:=by
   obtain ⟨j,hj,he⟩:=List.getElem_of_mem h0
   have h1:0 < cs.length:=by omega
   have hb:=h.bd _ (List.getElem_mem h1)
   unfold nxt
   rw [List.getElem?_eq_getElem h1]
   simp only [Option.getD_some]
   rcases Nat.eq_zero_or_pos j with g | g
   ·subst g;exact he
   ·have:=List.pairwise_iff_getElem.1 h.asc 0 j h1 hj g;omega
  rw [e]
  exact ⟨okR.nil,fun c a b=>by omega,fun _ hr=>(by cases hr),fun e=>(by cases e),fun _ _ hr=>(by cases hr)⟩
 | k+1,hk=>by
  have ih:=bld_ok h h0 k (by omega)
  have hn:=nxt_bd h k
  have hn':=nxt_bd h (k+1)
  have e:nxt cs k=cs[k]:=by unfold nxt;rw [List.getElem?_eq_getElem (by omega)];rfl
  have hb:=h.bd _ (List.getElem_mem (show k < cs.length by omega))
  have hlt:nxt cs k < nxt cs (k+1):=by
   rcases Nat.lt_or_ge (k+1) cs.length with g | g
   ·have:=List.pairwise_iff_getElem.1 h.asc k (k+1) (by omega) g (by omega)
    rw [e]
    unfold nxt
    rw [List.getElem?_eq_getElem g]
    exact this
   ·rw [e]
    unfold nxt
    rw [List.getElem?_eq_none g]
    simp;omega
  have:=ih.step hn.1 hlt hn'.2 (fun c c0 c1=>by rw [e] at c0 ⊢;exact hasR_const h (by omega) c0 c1 (by omega))
  exact this
theorem canR_spec (rs:List Rg):okR (canR rs)∧∀c,0≤c→c≤1114111→(anyR (canR rs) c=true ↔ anyR rs c=true):=by
 have h1:=(Ct.nil).cuts (rs:=rs)
 have h2:=h1.1.cuts (rs:=[])
 rw [List.append_nil,List.nil_append] at h2
 have hb:=bld_ok h2.1 h2.2 (cutsL (cutsL [] rs) []).length (Nat.le_refl _)
 have e:nxt (cutsL (cutsL [] rs) []) (cutsL (cutsL [] rs) []).length=1114112:=by unfold nxt;rw [List.getElem?_eq_none (Nat.le_refl _)];rfl
 rw [e] at hb
 refine ⟨hb.ok,fun c c0 c1=>?_⟩
 unfold canR
 rw [hb.any c c0 (by omega),hasR_any c0 c1]
theorem canR_unique {rs out:List Rg} (h:okR out) (ha:∀c,0≤c→c≤1114111→(anyR out c=true ↔ anyR rs c=true)):out=canR rs:=
 okR_unique h (canR_spec rs).1 (fun c c0 c1=>(ha c c0 c1).trans ((canR_spec rs).2 c c0 c1).symm)
def setOk (rs:List Rg):Bool:=decide (canR rs=rs)
end Go.Proofs.YtkhmjidaeliccaaGreatDoor
namespace Go.Proofs.YtkhmjidaeliccaaGreatDoor
open Go.RowKit
structure Nrm where
 cls:List Spn
 dec:List Mp
 exc:List Rg
def mp0:Mp:=⟨0,[],.empty⟩
def fndM (ms:List Mp) (compat:Bool) (e:Int):Option Nat:=ms.findIdx? (fun m=>decide (m.frm=e)&&(compat || decide (m.tag.size=0)))
def frmM (ms:List Mp) (i:Nat):Int:=(ms.getD i mp0).frm
def toM (ms:List Mp) (i:Nat):List Int:=(ms.getD i mp0).toq
def skipM (ms:List Mp) (compat:Bool) (i:Nat):Bool:=!compat&&decide (¬(ms.getD i mp0).tag.size=0)
def dlM (e:Int):Int:=(Hg.decomp e).length
def onM (ms:List Mp) (compat:Bool) (c:Int):Option (List Int):=
 if 4≤Hg.kind c then some (Hg.decomp c) else (fndM ms compat c).map (toM ms)
def mxE:Int:=64
def capE:Int:=65
end Go.Proofs.YtkhmjidaeliccaaGreatDoor
namespace Go.Proofs.YtkhmjidaeliccaaGreatDoor
open Go.RowKit Go.Maps Go.WideMaps
section
variable {ms:List Mp}
theorem parts1 {k:Nat} (hk:k < ms.length) (h:mpBad ms[k]=true):partsErr ms=1:=by unfold partsErr;rw [if_pos (anyT hk h)]
theorem parts2 (h1:∀t,(ht:t < ms.length)→mpBad ms[t]=false) {k:Nat} (hk:k < ms.length) (h:64 < ms[k].toq.length):partsErr ms=2:=by
 unfold partsErr;rw [if_neg (by rw [anyF h1];simp),if_pos (anyT hk (by simpa using h))]
theorem parts6 (h1:∀t,(ht:t < ms.length)→mpBad ms[t]=false) (h2:∀t,(ht:t < ms.length)→¬64 < ms[t].toq.length) {k:Nat} (hk:k < ms.length) (h:tagBad ms[k]=true):partsErr ms=6:=by
 unfold partsErr;rw [if_neg (by rw [anyF h1];simp),if_neg (by rw [anyF (fun t ht=>by simpa using h2 t ht)];simp),if_pos (anyT hk h)]
theorem parts0 (h1:∀t,(ht:t < ms.length)→mpBad ms[t]=false) (h2:∀t,(ht:t < ms.length)→¬64 < ms[t].toq.length) (h3:∀t,(ht:t < ms.length)→tagBad ms[t]=false):partsErr ms=0:=by
 unfold partsErr;rw [if_neg (by rw [anyF h1];simp),if_neg (by rw [anyF (fun t ht=>by simpa using h2 t ht)];simp),if_neg (by rw [anyF h3];simp)]
theorem parts_ok (h:partsErr ms=0):∀m ∈ ms,mpBad m=false∧m.toq.length≤64∧tagBad m=false:=by
 unfold partsErr at h
 split at h
 ·cases h
 ·next h1=>
  split at h
  ·cases h
  ·next h2=>
   split at h
   ·cases h
   ·next h3=>
    intro m hm
    simp only [Bool.not_eq_true,List.any_eq_false] at h1 h2 h3
    have a:=h1 m hm
    have b:=h2 m hm
    have c:=h3 m hm
    refine ⟨by simpa using a,?_,by simpa using c⟩
    simp at b
    exact b
end
theorem mpBad_from {m:Mp} (h:inR 0 1114111 m.frm=false):mpBad m=true:=by unfold mpBad;rw [h];rfl
theorem mpBad_to {m:Mp} {k:Nat} (hk:k < m.toq.length) (h:inR 0 1114111 m.toq[k]=false):mpBad m=true:=by
 unfold mpBad
 rw [Bool.or_eq_true]
 right
 exact anyT hk (by rw [h];rfl)
theorem mpBad_no {m:Mp} (h0:inR 0 1114111 m.frm=true) (h:∀t,(ht:t < m.toq.length)→inR 0 1114111 m.toq[t]=true):mpBad m=false:=by
 unfold mpBad
 rw [h0,anyF (fun t ht=>by rw [h t ht];rfl)]
 rfl
theorem mpBad_facts {m:Mp} (h:mpBad m=false):(0≤m.frm∧m.frm≤1114111)∧∀z ∈ m.toq,0≤z∧z≤1114111:=by
 unfold mpBad at h
 rw [Bool.or_eq_false_iff] at h
 refine ⟨inR_iff.1 (by simpa using h.1),fun z hz=>?_⟩
 have:=List.any_eq_false.1 h.2 z hz
 exact inR_iff.1 (by simpa using this)
theorem tagBad_facts {m:Mp} (h:tagBad m=false):m.tag.size≤32:=by
 unfold tagBad at h
 by_cases h0:m.tag.size=0
 ·omega
 ·have:nameOk m.tag=true:=by simpa [h0] using h
  unfold nameOk at this
  simp at this
  omega
theorem tagBad_empty {m:Mp} (h:m.tag.size=0):tagBad m=false:=by unfold tagBad;simp [h]
theorem tagBad_name {m:Mp} (h:¬m.tag.size=0):tagBad m=!nameOk m.tag:=by unfold tagBad;simp [h]
theorem parts_any (A:Option Addr) (n a:Nat) (ms:List Mp) (w:World) (hA:Mps w A ms) (hn:ms.length=n) (hz:MpsSz ms) :
  Calls Tryz.prog 176 #[.slice A n a] w (RetInt (partsErr ms) w):=by
 subst hn
 have HA:=Lib.hid hA
 have hnz:=hz.n
 have HZ:=Lib.hid hz.e
 have P1:=Lib.hid (fun k hk h=>parts1 (ms:=ms) (k:=k) hk h)
 have P2:=Lib.hid (fun h1 k hk h=>parts2 (ms:=ms) h1 (k:=k) hk h)
 have P6:=Lib.hid (fun h1 h2 k hk h=>parts6 (ms:=ms) h1 h2 (k:=k) hk h)
 have P0:=Lib.hid (parts0 (ms:=ms))
 clear hA hz
 generalize partsErr ms=R at *
 go_enter Tryz.func176,Tryz.ntmps176
 go_wp2_with fail
 go_loopw [13] (fun u wr=>∃i:Nat,i≤ms.length∧u=.int .i64 i∧(∀t,(ht:t < ms.length)→t < i→mpBad ms[t]=false)∧Below w.heap.size w wr) (fun u _=>ms.length - (intOf u).toNat)
 case atStart=>exact ⟨0,Nat.zero_le _,rfl,fun t _ h=>by omega,Below.refl _ _⟩
 case round=>
  obtain ⟨i,hi,rfl,hno,hbr⟩:=hrel
  have HNO:=Lib.hid hno
  clear hno
  by_cases hlt:i < ms.length
  ·obtain ⟨b1,o1,rfl,hbl,hcell⟩:=(HA.out.below hbr).at hlt
   obtain ⟨C,cc,c0,c1,c2,hcc,hC⟩:=hcell i hlt
   obtain ⟨z1,z2⟩:=HZ.out i hlt
   have HB:=Lib.hid (fun h=>P1.out i hlt h)
   have HN:=Lib.hid (fun h=>all_up (P:=fun m=>mpBad m=false) hlt HNO.out h)
   clear hcell
   generalize ms[i]=mi at *
   have M0:=Lib.hid (mpBad_from (m:=mi))
   have M1:=Lib.hid (fun k hk h=>mpBad_to (m:=mi) (k:=k) hk h)
   have M2:=Lib.hid (mpBad_no (m:=mi))
   generalize mpBad mi=bd at *
   obtain ⟨mf,mt,mg⟩:=mi
   dsimp only at *
   have Ba:Below wr.heap.size wr (wr.alloc (.cells #[.int .i64 mf,.slice C mt.length cc,.string mg] 154)):=(Below.refl _ _).alloc (Nat.le_refl _) _
   have HCa:=Lib.hid (hC.below Ba)
   have hb2:=hbr.trans (Ba.mono hbr.size)
   have e1:(wr.alloc (.cells #[.int .i64 mf,.slice C mt.length cc,.string mg] 154)).cell? ⟨wr.heap.size,1,none⟩=some (.slice C mt.length cc):=by simp
   have E1:=Lib.hid e1
   have WaE:∃Wa,(wr.alloc (.cells #[.int .i64 mf,.slice C mt.length cc,.string mg] 154))=Wa:=⟨_,rfl⟩
   clear hC e1
   cases hv:inR 0 1114111 mf with
   | false=>
    obtain rfl:=M0.out hv
    have HR:=Lib.hid (HB.out rfl)
    go_wp2_with (go_at_call 129;refine (cpValid_any mf _).mono ?_;rw [hv];rintro e w' ⟨rfl,rfl⟩)
    go_ret
    exact ⟨ret_int HR.out.symm,hb2⟩
   | true=>
    go_wp2_with (go_at_call 129;refine (cpValid_any mf _).mono ?_;rw [hv];rintro e w' ⟨rfl,rfl⟩)
    obtain ⟨Wa,hWa⟩:=WaE
    rw [hWa] at Ba HCa hb2 E1 ⊢
    clear hWa c0 c1 c2
    obtain ⟨wr0,rfl⟩:∃wr0:World,wr0=wr:=⟨_,rfl⟩
    go_loop [24] (fun u=>∃k:Nat,k≤mt.length∧u=.int .i64 k∧(∀t,(ht:t < mt.length)→t < k→inR 0 1114111 mt[t]=true)) (fun u=>mt.length - (intOf u).toNat)
    case atStart=>exact ⟨0,Nat.zero_le _,rfl,fun t _ h=>by omega⟩
    case round=>
     obtain ⟨k,hk,rfl,hok⟩:=hrel
     have HOK:=Lib.hid hok
     clear hok
     by_cases hltk:k < mt.length
     ·obtain ⟨b2,o2,rfl,hc2⟩:=HCa.out.at hltk
      have d0:=hc2 k hltk
      have HBK:=Lib.hid (fun h=>M1.out k hltk h)
      have HNK:=Lib.hid (fun h=>all_up (P:=fun z=>inR 0 1114111 z=true) hltk HOK.out h)
      clear hc2
      generalize mt[k]=z at *
      cases hvz:inR 0 1114111 z with
      | false=>
       obtain rfl:=HBK.out hvz
       have HR:=Lib.hid (HB.out rfl)
       go_wp2_with (go_at_call 129;refine (cpValid_any z _).mono ?_;rw [hvz];rintro e w' ⟨rfl,rfl⟩)
       go_ret
       exact ⟨ret_int HR.out.symm,hb2⟩
      | true=>
       have HQ:=Lib.hid (HNK.out hvz)
       go_wp2_with (go_at_call 129;refine (cpValid_any z _).mono ?_;rw [hvz];rintro e w' ⟨rfl,rfl⟩)
       go_round
       case rel=>exact ⟨k+1,by omega,by go_num,HQ.out⟩
       case measure=>simp [intOf];omega
     ·obtain rfl:=M2.out hv (fun t ht=>HOK.out t ht (by omega))
      have HQ:=Lib.hid (HN.out rfl)
      go_wp2_with fail
      go_roundw
      case rel=>exact ⟨i+1,by omega,by go_num,HQ.out,hb2⟩
      case measure=>simp [intOf];omega
  ·have H1:=Lib.hid (fun t (ht:t < ms.length)=>HNO.out t ht (by omega))
   clear HNO P1
   go_wp2_with fail
   go_loopw [35] (fun u wr=>∃i:Nat,i≤ms.length∧u=.int .i64 i∧(∀t,(ht:t < ms.length)→t < i→¬64 < ms[t].toq.length)∧Below w.heap.size w wr) (fun u _=>ms.length - (intOf u).toNat)
   case atStart=>exact ⟨0,Nat.zero_le _,rfl,fun t _ h=>by omega,hbr⟩
   case round=>
    obtain ⟨i,hi,rfl,hno,hbr⟩:=hrel
    have HNO:=Lib.hid hno
    clear hno
    by_cases hlt:i < ms.length
    ·obtain ⟨b1,o1,rfl,hbl,hcell⟩:=(HA.out.below hbr).at hlt
     obtain ⟨C,cc,c0,c1,c2,hcc,hC⟩:=hcell i hlt
     obtain ⟨z1,z2⟩:=HZ.out i hlt
     have HB:=Lib.hid (fun h=>P2.out H1.out i hlt h)
     have HN:=Lib.hid (fun h=>all_up (P:=fun m:Mp=>¬64 < m.toq.length) hlt HNO.out h)
     clear hcell hC
     generalize ms[i]=mi at *
     obtain ⟨mf,mt,mg⟩:=mi
     dsimp only at *
     have hb2:=hbr.trans (((Below.refl wr.heap.size wr).alloc (Nat.le_refl _) (.cells #[.int .i64 mf,.slice C mt.length cc,.string mg] 154)).mono hbr.size)
     by_cases h64:64 < mt.length
     ·have q1:decide ((64:Int) < (mt.length:Int))=true:=by simp;omega
      obtain rfl:=HB.out h64
      go_wp2_with fail
      go_ret
      exact ⟨rfl,hb2⟩
     ·have q1:decide ((64:Int) < (mt.length:Int))=false:=by simp;omega
      have HQ:=Lib.hid (HN.out h64)
      go_wp2_with fail
      go_roundw
      case rel=>exact ⟨i+1,by omega,by go_num,HQ.out,hb2⟩
      case measure=>simp [intOf];omega
    ·have H2:=Lib.hid (fun t (ht:t < ms.length)=>HNO.out t ht (by omega))
     clear HNO P2
     go_wp2_with fail
     go_loopw [46] (fun u wr=>∃i:Nat,i≤ms.length∧u=.int .i64 i∧(∀t,(ht:t < ms.length)→t < i→tagBad ms[t]=false)∧Below w.heap.size w wr) (fun u _=>ms.length - (intOf u).toNat)
     case atStart=>exact ⟨0,Nat.zero_le _,rfl,fun t _ h=>by omega,hbr⟩
     case round=>
      obtain ⟨i,hi,rfl,hno,hbr⟩:=hrel
      have HNO:=Lib.hid hno
      clear hno
      by_cases hlt:i < ms.length
      ·obtain ⟨b1,o1,rfl,hbl,hcell⟩:=(HA.out.below hbr).at hlt
       obtain ⟨C,cc,c0,c1,c2,hcc,hC⟩:=hcell i hlt
       obtain ⟨z1,z2⟩:=HZ.out i hlt
       have HB:=Lib.hid (fun h=>P6.out H1.out H2.out i hlt h)
       have HN:=Lib.hid (fun h=>all_up (P:=fun m:Mp=>tagBad m=false) hlt HNO.out h)
       clear hcell hC
       generalize ms[i]=mi at *
       have T0:=Lib.hid (tagBad_empty (m:=mi))
       have T1:=Lib.hid (tagBad_name (m:=mi))
       generalize tagBad mi=tb at *
       obtain ⟨mf,mt,mg⟩:=mi
       dsimp only at *
       have hb2:=hbr.trans (((Below.refl wr.heap.size wr).alloc (Nat.le_refl _) (.cells #[.int .i64 mf,.slice C mt.length cc,.string mg] 154)).mono hbr.size)
       by_cases hg:mg.size=0
       ·have g0:mg.toList=[]:=str_nil hg
        have HQ:=Lib.hid (HN.out (T0.out hg))
        clear T0 T1 HB HN
        go_wp2_with fail
        go_roundw
        case rel=>exact ⟨i+1,by omega,by go_num,HQ.out,hb2⟩
        case measure=>simp [intOf];omega
       ·have g0:¬mg.toList=[]:=str_cons hg
        have g1:mg.toList.isEmpty=false:=by simpa using g0
        have hT:=T1.out hg
        cases hnm:nameOk mg with
        | true=>
         rw [hnm] at hT
         have HQ:=Lib.hid (HN.out hT)
         clear hT T0 T1 HB HN
         go_wp2_with (go_at_call 194;refine (mapName_any mg _ z2).mono ?_;rw [hnm];rintro e w' ⟨rfl,rfl⟩)
         go_roundw
         case rel=>exact ⟨i+1,by omega,by go_num,HQ.out,hb2⟩
         case measure=>simp [intOf];omega
        | false=>
         rw [hnm] at hT
         obtain rfl:=HB.out hT
         clear hT T0 T1 HB HN
         go_wp2_with (go_at_call 194;refine (mapName_any mg _ z2).mono ?_;rw [hnm];rintro e w' ⟨rfl,rfl⟩)
         go_ret
         exact ⟨rfl,hb2⟩
      ·obtain rfl:=P0.out H1.out H2.out (fun t ht=>HNO.out t ht (by omega))
       go_wp2_with fail
       go_ret
       exact ⟨rfl,hbr⟩
theorem ascM_take {ms:List Mp} {i:Nat} (h1:1≤i) (hi:i < ms.length):ascM (ms.take (i+1))=(ascM (ms.take i)&&decide (cmpM (ms[i - 1]'(by omega)) ms[i] < 0)):=by
 induction ms generalizing i with
 | nil=>simp at hi
 | cons a r ih=>
  cases r with
  | nil=>simp at hi;omega
  | cons b r=>
   by_cases e:i=1
   ·subst e;simp [ascM]
   ·obtain ⟨j,rfl⟩:∃j,i=j+2:=⟨i - 2,by omega⟩
    have:=ih (i:=j+1) (by omega) (by simpa using hi)
    simp only [List.take_succ_cons,ascM] at this ⊢
    rw [this,Bool.and_assoc]
    simp
theorem ascM_one {ms:List Mp} {i:Nat} (h:i≤1):ascM (ms.take i)=true:=by
 match i,ms with
 | 0,_=>rfl
 | 1,[]=>rfl
 | 1,_::_=>rfl
section
variable {ms:List Mp}
theorem mapP (h:partsErr ms≠0):mapErr ms=partsErr ms:=by unfold mapErr;rw [if_pos h]
theorem map0 (h:partsErr ms=0) (ha:ascM ms=true):mapErr ms=0:=by unfold mapErr;rw [if_neg (by simpa using h),if_pos ha]
theorem map5 (h:partsErr ms=0) (ha:ascM ms=false) (hd:¬(ms.map keyM).Nodup):mapErr ms=5:=by unfold mapErr;rw [if_neg (by simpa using h),if_neg (by simp [ha]),if_neg hd]
theorem map4 (h:partsErr ms=0) (ha:ascM ms=false) (hd:(ms.map keyM).Nodup):mapErr ms=4:=by unfold mapErr;rw [if_neg (by simpa using h),if_neg (by simp [ha]),if_pos hd]
def kms (ms:List Mp) (k:Nat):List (Int × ByteArray):=(ms.take k).map keyM
theorem kms_succ {k:Nat} (hk:k < ms.length):kms ms (k+1)=kms ms k++[keyM ms[k]]:=by
 unfold kms;rw [List.take_succ_eq_append_getElem hk,List.map_append];rfl
theorem kms_dup {k:Nat} (hk:k < ms.length) (h:keyM ms[k] ∈ kms ms k):¬(ms.map keyM).Nodup:=by
 intro hn
 have hs:(kms ms (k+1)).Sublist (ms.map keyM):=by unfold kms;exact (List.take_sublist _ _).map _
 have h1:=hn.sublist hs
 rw [kms_succ hk,List.nodup_append] at h1
 exact h1.2.2 _ h _ (List.mem_singleton.2 rfl) rfl
theorem kms_nodup {k:Nat} (hk:k < ms.length) (hn:(kms ms k).Nodup) (h:keyM ms[k] ∉ kms ms k):(kms ms (k+1)).Nodup:=by
 rw [kms_succ hk,List.nodup_append]
 refine ⟨hn,by simp,fun a ha b hb e=>?_⟩
 rw [List.mem_singleton] at hb
 subst hb;subst e
 exact h ha
theorem key_mok {m:Mp} (h1:mpBad m=false) (h2:tagBad m=false):mok (keyM m):=by
 have a:=(mpBad_facts h1).1
 have b:=tagBad_facts h2
 refine ⟨?_,by unfold maxLen;show m.tag.size≤_;omega⟩
 exact wf_small (by show _≤m.frm;omega) (by show m.frm≤_;omega)
end
theorem mapCheck_any (A:Option Addr) (n a:Nat) (ms:List Mp) (w:World) (hA:Mps w A ms) (hn:ms.length=n) (hz:MpsSz ms) :
  Calls Tryz.prog 140 #[.slice A n a] w (RetInt (mapErr ms) w):=by
 subst hn
 have PC:=Lib.hid (parts_any A ms.length a ms w hA rfl hz)
 have HA:=Lib.hid hA
 have hnz:=hz.n
 have EP:=Lib.hid (mapP (ms:=ms))
 have E0:=Lib.hid (map0 (ms:=ms))
 have E4:=Lib.hid (map4 (ms:=ms))
 have E5:=Lib.hid (map5 (ms:=ms))
 have OKS:=Lib.hid (parts_ok (ms:=ms))
 have hmm:=@run_makeMap Tryz.prog
 clear hA hz
 generalize mapErr ms=R at *
 generalize partsErr ms=pe at *
 go_enter Tryz.func140,Tryz.ntmps140
 go_wp2_with fail
 with_reducible refine PC.out.mono ?_
 rintro e W1 ⟨rfl,hb1⟩
 clear PC
 by_cases hpe:pe=0
 rotate_left
 ·have q1:(pe != 0)=true:=by simpa using hpe
  obtain rfl:=EP.out hpe
  clear hpe EP E0 E4 E5
  go_wp2_with fail
  go_ret
  exact ⟨rfl,hb1⟩
 have q1:(pe != 0)=false:=by simpa using hpe
 have E0':=Lib.hid (E0.out hpe)
 have E4':=Lib.hid (E4.out hpe)
 have E5':=Lib.hid (E5.out hpe)
 have OK:=Lib.hid (fun i (hi:i < ms.length)=>OKS.out hpe ms[i] (List.getElem_mem hi))
 have A1:=Lib.hid (ascM_one (ms:=ms) (i:=1) (by omega))
 clear EP E0 E4 E5 OKS hpe
 go_wp2_with fail
 go_loopw [4,5] (fun v u wr=>∃i:Nat,1≤i∧(i≤ms.length∨i=1)∧u=.int .i64 i∧v=.bool (ascM (ms.take i))∧Below w.heap.size w wr) (fun _ u _=>ms.length - (intOf u).toNat)
 case atStart=>exact ⟨1,by omega,.inr rfl,rfl,by rw [A1.out],hb1⟩
 case round=>
  obtain ⟨i,hi1,hi2,rfl,rfl,hbr⟩:=hrel
  by_cases hlt:i < ms.length
  ·obtain ⟨b1,o1,rfl,hbl,hcell⟩:=(HA.out.below hbr).at hlt
   obtain ⟨C,cc,c0,c1,c2,_,_⟩:=hcell i hlt
   obtain ⟨D,dd,d0,d1,d2,_,_⟩:=hcell (i - 1) (by omega)
   have HT:=Lib.hid (ascM_take hi1 hlt)
   have MC:=Lib.hid (fun W=>mapCompare_any (ms[i - 1]'(by omega)) ms[i] (.slice D (ms[i - 1]'(by omega)).toq.length dd) (.slice C ms[i].toq.length cc) W)
   clear hcell
   generalize cmpM (ms[i - 1]'(by omega)) ms[i]=cv at *
   generalize (ms[i - 1]'(by omega))=ma at *
   generalize ms[i]=mb at *
   obtain ⟨af,al',ag⟩:=ma
   obtain ⟨bf,bl'',bg⟩:=mb
   dsimp only at *
   generalize al'.length=al at *
   generalize bl''.length=bl' at *
   have i1:(0:Int)≤(i:Int) - 1:=by omega
   have i2:(i:Int) - 1 < (ms.length:Int):=by omega
   have i3:((i:Int) - 1).toNat=i - 1:=by omega
   have i4:(i:Int) < (ms.length:Int):=by omega
   have i5:(0:Int)≤(i:Int):=by omega
   have i6:(1:Int)≤(i:Int):=by omega
   have w1:IntKind.i64.wrap ((i:Int) - 1)=(i:Int) - 1:=IntWalk.i64_in _ (by omega)
   have KS:=Lib.hid (show ∀W',Below wr.heap.size wr W'→W'.cell? ⟨b1,o1+(i - 1)*3,none⟩=some (.int .i64 af)∧W'.cell? ⟨b1,o1+(i - 1)*3+1,none⟩=some (.slice D al dd)∧W'.cell? ⟨b1,o1+(i - 1)*3+2,none⟩=some (.string ag)∧W'.cell? ⟨b1,o1+i*3,none⟩=some (.int .i64 bf)∧W'.cell? ⟨b1,o1+i*3+1,none⟩=some (.slice C bl' cc)∧W'.cell? ⟨b1,o1+i*3+2,none⟩=some (.string bg)∧Below wr.heap.size wr W' from fun W' hb=>⟨(hb.cell (p:=⟨b1,o1+(i - 1)*3,none⟩) hbl).trans d0,(hb.cell (p:=⟨b1,o1+(i - 1)*3+1,none⟩) hbl).trans d1,(hb.cell (p:=⟨b1,o1+(i - 1)*3+2,none⟩) hbl).trans d2,(hb.cell (p:=⟨b1,o1+i*3,none⟩) hbl).trans c0,(hb.cell (p:=⟨b1,o1+i*3+1,none⟩) hbl).trans c1,(hb.cell (p:=⟨b1,o1+i*3+2,none⟩) hbl).trans c2,hb⟩)
   have MC1:=Lib.hid (fun W' (hb:Below wr.heap.size wr W')=>(MC.out W').mono (R':=fun e W'=>e=.returned (.int .i64 cv)∧(W'.cell? ⟨b1,o1+(i - 1)*3,none⟩=some (.int .i64 af)∧W'.cell? ⟨b1,o1+(i - 1)*3+1,none⟩=some (.slice D al dd)∧W'.cell? ⟨b1,o1+(i - 1)*3+2,none⟩=some (.string ag)∧W'.cell? ⟨b1,o1+i*3,none⟩=some (.int .i64 bf)∧W'.cell? ⟨b1,o1+i*3+1,none⟩=some (.slice C bl' cc)∧W'.cell? ⟨b1,o1+i*3+2,none⟩=some (.string bg)∧Below wr.heap.size wr W')) (fun e w' ⟨he,hb'⟩=>⟨he,KS.out w' (hb.trans (hb'.mono hb.size))⟩))
   go_wp2_with fail
   refine wp_region_held_drew (S:=fun W'=>W'.cell? ⟨b1,o1+(i - 1)*3,none⟩=some (.int .i64 af)∧W'.cell? ⟨b1,o1+(i - 1)*3+1,none⟩=some (.slice D al dd)∧W'.cell? ⟨b1,o1+(i - 1)*3+2,none⟩=some (.string ag)∧W'.cell? ⟨b1,o1+i*3,none⟩=some (.int .i64 bf)∧W'.cell? ⟨b1,o1+i*3+1,none⟩=some (.slice C bl' cc)∧W'.cell? ⟨b1,o1+i*3+2,none⟩=some (.string bg)∧Below wr.heap.size wr W') (by kernel_rfl) (KS.out _ (Below.refl _ _).drew) (fun hHeld=>?_)
   refine tK 0 20 ?_
   refine tK 1 21 ?_
   refine tK 2 22 ?_
   refine tK 3 23 ?_
   refine tK 4 24 ?_
   refine tK 5 25 ?_
   refine tK 6 26 ?_
   refine tK 7 27 ?_
   refine tK 8 28 ?_
   refine qK 9 29 (MC1.out _ hHeld.2.2.2.2.2.2) ?_
   clear hHeld
   intro W3 hHeld
   refine tK 10 30 ?_
   refine wpAnyH_done (by kernel_rfl) ?_ _
   have Bp:=hHeld.2.2.2.2.2.2
   have hb2:=hbr.trans (Bp.mono hbr.size)
   clear hHeld c0 c1 c2 d0 d1 d2 KS MC MC1 i1 i2 i3 i4 i5 i6 w1
   by_cases hcv:0≤cv
   ·have q9:decide (0≤cv)=true:=by simpa using hcv
    have ht:=HT.out
    rw [show decide (cv < 0)=false by simp;omega,Bool.and_false] at ht
    have HF:=Lib.hid ht
    clear ht HT
    go_wp2_with fail
    go_roundw
    case rel=>exact ⟨i+1,by omega,.inl (by omega),by go_num,by rw [HF.out],hb2⟩
    case measure=>simp [intOf];omega
   ·have q9:decide (0≤cv)=false:=by simpa using hcv
    have ht:=HT.out
    rw [show decide (cv < 0)=true by simp;omega,Bool.and_true] at ht
    have HF:=Lib.hid ht
    clear ht HT
    go_wp2_with fail
    go_roundw
    case rel=>exact ⟨i+1,by omega,.inl (by omega),by go_num,by rw [HF.out],hb2⟩
    case measure=>simp [intOf];omega
  ·have hlen:ms.length≤i:=by omega
   rw [List.take_of_length_le hlen]
   cases hasc:ascM ms with
   | true=>
    obtain rfl:=E0'.out hasc
    clear E4' E5' hasc
    go_wp2_with fail
    go_ret
    exact ⟨rfl,hbr⟩
   | false=>
    have E4'':=Lib.hid (E4'.out hasc)
    have E5'':=Lib.hid (E5'.out hasc)
    clear E0' E4' E5' hasc hlen
    have B2:Below wr.heap.size wr (wr.alloc (.map #[] 0)):=(Below.refl _ _).alloc (Nat.le_refl _) _
    have M2:=MapIs.made Tryz.prog 226 mlit mok wr
    have s2:(wr.alloc (.map #[] 0)).heap.size=wr.heap.size+1:=by simp
    have W2E:∃W2,wr.alloc (.map #[] 0)=W2:=⟨_,rfl⟩
    have HAW:=Lib.hid (HA.out.below hbr)
    obtain ⟨W5,rfl⟩:∃W5:World,W5=wr:=⟨_,rfl⟩
    go_wp2_with fail
    obtain ⟨W2,hW2⟩:=W2E
    rw [hW2] at B2 M2 s2 ⊢
    clear hW2
    have HM2:=Lib.hid M2
    clear M2
    go_loopw [35] (fun u wr=>∃i:Nat,i≤ms.length∧u=.int .i64 i∧(kms ms i).Nodup∧MapIs Tryz.prog 226 mlit mok wr W5.heap.size i (setM (kms ms i))∧Below W5.heap.size W5 wr∧W5.heap.size < wr.heap.size) (fun u _=>ms.length - (intOf u).toNat)
    case atStart=>exact ⟨0,Nat.zero_le _,rfl,by simp [kms],HM2.out.ext (fun x _=>by simp [kms,setM]),B2,by omega⟩
    case round=>
     obtain ⟨i,hi,rfl,hnd,hM,hb6,hs6⟩:=hrel
     have HND:=Lib.hid hnd;have HM:=Lib.hid hM
     clear hnd hM HM2
     by_cases hlt:i < ms.length
     ·obtain ⟨b1,o1,rfl,hbl,hcell⟩:=(HAW.out.below hb6).at hlt
      obtain ⟨C,cc,c0,c1,c2,_,_⟩:=hcell i hlt
      obtain ⟨ok1,_,ok3⟩:=OK.out i hlt
      have HKK:=Lib.hid (key_mok ok1 ok3)
      have HD:=Lib.hid (fun h=>E5''.out (kms_dup hlt h))
      have HN:=Lib.hid (fun h=>kms_nodup hlt HND.out h)
      have HE:=Lib.hid (kms_succ hlt)
      have KO:=Lib.hid (fun W=>mapKeyOf_any ms[i] (.slice C ms[i].toq.length cc) W)
      clear hcell ok1 ok3
      generalize keyM ms[i]=kx at *
      generalize ms[i]=mi at *
      obtain ⟨mf,mt,mg⟩:=mi
      dsimp only at *
      have Ba:Below wr.heap.size wr (wr.alloc (.cells #[.int .i64 mf,.slice C mt.length cc,.string mg] 154)):=(Below.refl _ _).alloc (Nat.le_refl _) _
      have x0:(wr.alloc (.cells #[.int .i64 mf,.slice C mt.length cc,.string mg] 154)).cell? ⟨wr.heap.size,0,none⟩=some (.int .i64 mf):=by simp
      have x1:(wr.alloc (.cells #[.int .i64 mf,.slice C mt.length cc,.string mg] 154)).cell? ⟨wr.heap.size,1,none⟩=some (.slice C mt.length cc):=by simp
      have x2:(wr.alloc (.cells #[.int .i64 mf,.slice C mt.length cc,.string mg] 154)).cell? ⟨wr.heap.size,2,none⟩=some (.string mg):=by simp
      have sa:(wr.alloc (.cells #[.int .i64 mf,.slice C mt.length cc,.string mg] 154)).heap.size=wr.heap.size+1:=by simp
      have WaE:∃Wa,(wr.alloc (.cells #[.int .i64 mf,.slice C mt.length cc,.string mg] 154))=Wa:=⟨_,rfl⟩
      go_wp2_with fail
      obtain ⟨Wa,hWa⟩:=WaE
      rw [hWa] at Ba x0 x1 x2 sa ⊢
      clear hWa c0 c1 c2
      with_reducible refine (KO.out Wa).mono ?_
      rintro e Wb ⟨rfl,hbb⟩
      have hxa:wr.heap.size < Wa.heap.size:=by omega
      have y0:=(hbb.cell (p:=⟨wr.heap.size,0,none⟩) hxa).trans x0
      have y1:=(hbb.cell (p:=⟨wr.heap.size,1,none⟩) hxa).trans x1
      have y2:=(hbb.cell (p:=⟨wr.heap.size,2,none⟩) hxa).trans x2
      have sb:=hbb.size
      have Bw:=Ba.trans (hbb.mono Ba.size)
      have HMB:=Lib.hid (HM.out.below Bw)
      have hb7:=hb6.trans (Bw.mono hb6.size)
      clear x0 x1 x2
      by_cases hin:kx ∈ kms ms i
      ·have HV:=Lib.hid (setM_yes hin)
       obtain rfl:=HD.out hin
       clear HN HD hin
       go_wp2_with (at_lookup;refine wpList_look rfl _ _ 224 rfl HMB.out law_mkey Tryz.underlying224 (zero_boolM _) rfl rfl HKK.out (mkey_some HKK.out) ?_;rw [HV.out])
       go_ret
       exact ⟨rfl,hbr.trans (hb7.mono hbr.size)⟩
      ·have HV:=Lib.hid (setM_no hin)
       have HP:=Lib.hid (fun x=>setM_put (kms ms i) kx x)
       have HQ:=Lib.hid (HN.out hin)
       clear HN HD hin
       go_wp2_with (at_lookup;refine wpList_look rfl _ _ 224 rfl HMB.out law_mkey Tryz.underlying224 (zero_boolM _) rfl rfl HKK.out (mkey_some HKK.out) ?_;rw [HV.out])
       with_reducible refine (KO.out Wb).mono ?_
       rintro e Wc ⟨rfl,hbc⟩
       have HMC:=Lib.hid (HMB.out.below hbc)
       have hb8:=hb7.trans (hbc.mono hb7.size)
       have sc:=hbc.size
       clear y0 y1 y2 HMB
       go_wp2_with (at_mapUpdate;refine wpList_mput rfl _ _ _ 224 rfl HMC.out law_mkey Tryz.underlying224 (by unfold maxLen;omega) rfl rfl rfl HKK.out (mkey_some HKK.out) (fun y hy e=>mlit_inj hy HKK.out e) ?_;intro w9 hM9 hg9;have HM9:=Lib.hid hM9;have HG9:=Lib.hid hg9;have sg:=hg9.size;clear hM9 hg9)
       go_roundw
       case rel=>exact ⟨i+1,by omega,by go_num,HQ.out,by rw [HE.out];exact HM9.out.ext (fun x _=>HP.out x),below_grown hb8 HG9.out (Nat.le_refl _) hb8.size,by omega⟩
       case measure=>simp [intOf];omega
     ·have hnd:=HND.out
      unfold kms at hnd
      rw [List.take_of_length_le (show ms.length≤i by omega)] at hnd
      obtain rfl:=E4''.out hnd
      clear hnd HND
      go_wp2_with fail
      go_ret
      exact ⟨rfl,hbr.trans (hb6.mono hbr.size)⟩
end Go.Proofs.YtkhmjidaeliccaaGreatDoor
namespace Go.Proofs.YtkhmjidaeliccaaGreatDoor
open Go.RowKit Go.Maps Go.WideMaps
section
variable {ms:List Mp}
end
section
variable {ms:List Mp}
end
section
variable {ms:List Mp}
end
def RetGet (r:Option (List Int)) (w:World) (e:Ending) (w':World):Prop:=∃E d,e=.returned (.tuple #[.slice E (r.getD []).length d,.bool r.isSome])∧(r.getD []).length≤d∧Ints w' E (r.getD [])∧Below w.heap.size w w'
end Go.Proofs.YtkhmjidaeliccaaGreatDoor
namespace Go.Proofs.YtkhmjidaeliccaaGreatDoor
open Go.RowKit
def StF (ms:List Mp):Prop:=∀i j,(hi:i < ms.length)→(hj:j < ms.length)→i < j→ms[i].frm < ms[j].frm
theorem onceF_any (f:Int) (va:Value) (t:ByteArray) (c:Int) (w:World):Calls Tryz.prog 165 #[.agg #[.int .i64 f,va,.string t],.int .i64 c] w (RetInt (cmpI f c) w):=by
 have C:=Lib.hid (fun W=>cmpCompare_any f c W)
 generalize cmpI f c=r at *
 go_enter Tryz.func165,Tryz.ntmps165
 go_wp2_with fail
 with_reducible refine (C.out _).mono ?_
 rintro e w1 ⟨rfl,rfl⟩
 go_wp2_with fail
 go_ret
 exact ⟨rfl,(Below.refl _ _).alloc (Nat.le_refl _) _⟩
structure SrchM (ms:List Mp) (c:Int) (i:Nat) (f:Bool):Prop where
 le:i≤ms.length
 lo:∀t,(ht:t < ms.length)→t < i→ms[t].frm < c
 hi:∀t,(ht:t < ms.length)→i≤t→c≤ms[t].frm
 fd:f=decide (∃h:i < ms.length,ms[i].frm=c)
def RetSrchM (ms:List Mp) (c:Int) (w:World) (e:Ending) (w':World):Prop:=∃(i:Nat) (f:Bool),e=.returned (.tuple #[.int .i64 i,.bool f])∧SrchM ms c i f∧Below w.heap.size w w'
theorem bsearchM_any (A:Option Addr) (n k:Nat) (ms:List Mp) (c:Int) (w:World) (hA:Mps w A ms) (hn:ms.length=n) (hbig:n≤1048576) (hasc:StF ms) :
  Calls Tryz.prog 164 #[.slice A n k,.int .i64 c,.func (.func 165) #[] #[]] w (RetSrchM ms c w):=by
 subst hn
 have HS:=Lib.hid hasc;clear hasc
 go_enter Tryz.func164,Tryz.ntmps164
 go_wp2
 go_loopw [9,10] (fun u v wr=>∃i j:Nat,i≤j∧j≤ms.length∧u=.int .i64 i∧v=.int .i64 j∧(∀t,(ht:t < ms.length)→t < i→ms[t].frm < c)∧(∀t,(ht:t < ms.length)→j≤t→c≤ms[t].frm)∧Below w.heap.size w wr)
  (fun u v _=>(intOf v).toNat - (intOf u).toNat)
 case atStart=>exact ⟨0,ms.length,Nat.zero_le _,Nat.le_refl _,rfl,rfl,fun t _ h=>by omega,fun t h1 h2=>by omega,Below.refl _ _⟩
 case round=>
  obtain ⟨i,j,hij,hj,rfl,rfl,hlo,hhi,hbel⟩:=hrel
  have HLO:=Lib.hid hlo;have HHI:=Lib.hid hhi;clear hlo hhi
  by_cases hlt:i < j
  ·obtain ⟨h,hh,h1,h2,h3⟩:∃h:Nat,((i:Int)+(j:Int)) / 2=(h:Int)∧i≤h∧h < j∧h < ms.length:=⟨(i+j) / 2,by omega,by omega,by omega,by omega⟩
   obtain ⟨b,o,rfl,_,hcell⟩:=(hA.below hbel).at h3
   obtain ⟨D,d,c1,c2,c3,_,_⟩:=hcell h h3
   clear hcell
   have HO:=Lib.hid (fun t (ht:t < ms.length) (hth:t < h)=>HS.out t h ht h3 hth)
   have HO2:=Lib.hid (fun t (ht:t < ms.length) (hth:h < t)=>HS.out h t h3 ht hth)
   generalize hf:ms[h].frm=f at *
   generalize ms[h].toq.length=tl at *
   generalize ms[h].tag=tg at *
   have E2:=Lib.hid hf
   have C:=Lib.hid (fun W=>onceF_any f (.slice D tl d) tg c W)
   clear hf
   by_cases hk:f < c
   ·have hsc:cmpI f c=-1:=by unfold cmpI;rw [if_pos hk]
    rw [hsc] at C;clear hsc
    go_wp2_with (go_at_call 165;refine (C.out _).mono ?_;rintro e w1 ⟨rfl,hb1⟩)
    go_roundw
    case rel=>
     refine ⟨h+1,j,by omega,hj,by go_num,rfl,fun t ht g=>?_,HHI.out,hbel.trans (hb1.mono hbel.size)⟩
     by_cases e:t=h
     ·subst e;rw [E2.out];exact hk
     ·have a1:=HO.out t ht (by omega)
      omega
    case measure=>simp [intOf];omega
   ·have hsc:0≤cmpI f c:=by unfold cmpI;rw [if_neg hk];split <;> omega
    generalize cmpI f c=sc at *
    go_wp2_with (go_at_call 165;refine (C.out _).mono ?_;rintro e w1 ⟨rfl,hb1⟩)
    go_roundw
    case rel=>
     refine ⟨i,h,h1,by omega,rfl,rfl,HLO.out,fun t ht g=>?_,hbel.trans (hb1.mono hbel.size)⟩
     by_cases e:t=h
     ·subst e;rw [E2.out];omega
     ·have a1:=HO2.out t ht (by omega)
      omega
    case measure=>simp [intOf];omega
  ·obtain rfl:i=j:=by omega
   by_cases hend:i < ms.length
   ·obtain ⟨b,o,rfl,_,hcell⟩:=(hA.below hbel).at hend
    obtain ⟨D,d,c1,c2,c3,_,_⟩:=hcell i hend
    clear hcell
    have hci:=HHI.out i hend (Nat.le_refl _)
    have HF:=Lib.hid (show decide (∃h:i < ms.length,ms[i].frm=c)=(cmpI ms[i].frm c==0) by
     rw [Bool.eq_iff_iff];simp only [decide_eq_true_eq,beq_iff_eq];unfold cmpI;rw [if_neg (by omega)];split
     ·constructor
      ·rintro ⟨_,h⟩;omega
      ·intro h;omega
     ·exact ⟨fun _=>rfl,fun _=>⟨hend,by omega⟩⟩)
    clear hci
    generalize ms[i].frm=f at *
    generalize ms[i].toq.length=tl at *
    generalize ms[i].tag=tg at *
    have C:=Lib.hid (fun W=>onceF_any f (.slice D tl d) tg c W)
    generalize cmpI f c=sc at *
    go_wp2_with (go_at_call 165;refine (C.out _).mono ?_;rintro e w1 ⟨rfl,hb1⟩)
    go_ret2
    refine ⟨i,_,rfl,⟨hj,HLO.out,HHI.out,?_⟩,hbel.trans (hb1.mono hbel.size)⟩
    exact HF.out.symm
   ·go_wp2_with fail
    go_ret2
    refine ⟨i,_,rfl,⟨hj,HLO.out,HHI.out,?_⟩,hbel⟩
    simp [hend]
theorem fndM_some {ms:List Mp} {compat:Bool} {c:Int} {i:Nat} (hs:StF ms) (hi:i < ms.length) (h:ms[i].frm=c):fndM ms compat c=if compat=true∨ms[i].tag.size=0 then some i else none:=by
 by_cases e:compat=true∨ms[i].tag.size=0
 ·rw [if_pos e]
  unfold fndM
  rw [List.findIdx?_eq_some_iff_getElem]
  refine ⟨hi,by simpa [h] using e,fun j hj=>?_⟩
  have:=hs j i (by omega) hi hj
  simp
  intro he
  omega
 ·rw [if_neg e]
  unfold fndM
  rw [List.findIdx?_eq_none_iff]
  intro x hx
  obtain ⟨j,hj,rfl⟩:=List.getElem_of_mem hx
  by_cases g:j=i
  ·subst g;simpa [h] using e
  ·have:¬ms[j].frm=c:=fun he=>by
    rcases Nat.lt_or_gt_of_ne g with g | g
    ·have:=hs j i hj hi g;omega
    ·have:=hs i j hi hj g;omega
   simp [this]
theorem fndM_none {ms:List Mp} {compat:Bool} {c:Int} (h:∀i,(hi:i < ms.length)→¬ms[i].frm=c):fndM ms compat c=none:=by
 unfold fndM
 rw [List.findIdx?_eq_none_iff]
 intro x hx
 obtain ⟨j,hj,rfl⟩:=List.getElem_of_mem hx
 simp [h j hj]
theorem SrchM.no {ms:List Mp} {c:Int} {i:Nat} {compat:Bool} (hs:StF ms) (h:SrchM ms c i false):fndM ms compat c=none:=by
 refine fndM_none fun t ht e=>?_
 have hf:=h.fd
 have hn:¬∃g:i < ms.length,ms[i].frm=c:=by simpa using hf.symm
 by_cases g:t < i
 ·have:=h.lo t ht g;omega
 ·by_cases g2:t=i
  ·subst g2;exact hn ⟨ht,e⟩
  ·have h1:=h.hi i (by omega) (Nat.le_refl _)
   have h2:=hs i t (by omega) ht (by omega)
   omega
theorem once_any (A0:Option Addr) (n0 k0:Nat) (A1:Option Addr) (n1 k1:Nat) (A2:Option Addr) (n2 k2:Nat) (ms:List Mp) (c:Int) (compat:Bool) (w:World) (hA:Mps w A1 ms) (hn:ms.length=n1) (hbig:n1≤1048576) (hasc:StF ms) :
  Calls Tryz.prog 119 #[.agg #[.slice A0 n0 k0,.slice A1 n1 k1,.slice A2 n2 k2],.int .i64 c,.bool compat] w (RetGet (onM ms compat c) w):=by
 subst hn
 have K:=Lib.hid (fun W=>Kind_any c W)
 have D:=Lib.hid (fun W=>Decompose_any c W)
 have S:=Lib.hid (fun W (hb:Below w.heap.size w W)=>bsearchM_any A1 ms.length k1 ms c W (hA.below hb) rfl hbig hasc)
 have HS:=Lib.hid hasc
 clear hasc
 have R4:=Lib.hid (fun (h:4≤Hg.kind c)=>show onM ms compat c=some (Hg.decomp c) from if_pos h)
 have R0:=Lib.hid (fun (h:¬4≤Hg.kind c)=>show onM ms compat c=(fndM ms compat c).map (toM ms) from if_neg h)
 generalize onM ms compat c=R at *
 generalize Hg.kind c=kc at *
 have B0:Below w.heap.size w (w.alloc (.cells #[.slice A0 n0 k0,.slice A1 ms.length k1,.slice A2 n2 k2] 28)):=(Below.refl _ _).alloc (Nat.le_refl _) _
 have s0:(w.alloc (.cells #[.slice A0 n0 k0,.slice A1 ms.length k1,.slice A2 n2 k2] 28)).heap.size=w.heap.size+1:=by simp
 have q0:(w.alloc (.cells #[.slice A0 n0 k0,.slice A1 ms.length k1,.slice A2 n2 k2] 28)).cell? ⟨w.heap.size,1,none⟩=some (.slice A1 ms.length k1):=by simp
 have W0E:∃W0,(w.alloc (.cells #[.slice A0 n0 k0,.slice A1 ms.length k1,.slice A2 n2 k2] 28))=W0:=⟨_,rfl⟩
 go_enter Tryz.func119,Tryz.ntmps119
 go_wp2_with fail
 obtain ⟨W0,hW0⟩:=W0E
 rw [hW0] at B0 s0 q0 ⊢
 clear hW0
 with_reducible refine (K.out _).mono ?_
 rintro e w1 ⟨rfl,rfl⟩
 by_cases h4:4≤kc
 ·obtain rfl:=R4.out h4
  clear R4 R0
  generalize Hg.decomp c=zs at *
  go_wp2_with fail
  with_reducible refine (D.out _).mono ?_
  rintro e w1 ⟨E,d,rfl,hd,hE,hb⟩
  go_wp2_with fail
  go_ret2
  exact ⟨E,d,rfl,hd,hE,B0.trans (hb.mono B0.size)⟩
 ·have HR:=Lib.hid (R0.out (by omega))
  clear R4 R0
  go_wp2_with fail
  with_reducible refine (S.out _ B0).mono ?_
  rintro e W1 ⟨i,f,rfl,hs,hb1⟩
  have hb:=B0.trans (hb1.mono B0.size)
  have q1:W1.cell? ⟨w.heap.size,1,none⟩=some (.slice A1 ms.length k1):=(hb1.cell (show w.heap.size < W0.heap.size by omega)).trans q0
  cases f with
  | false=>
   obtain rfl:R=none:=by rw [HR.out,hs.no HS.out];rfl
   clear hs
   go_wp2_with fail
   go_ret2
   exact ⟨.none,0,rfl,Nat.le_refl _,Sl.nil _ _,hb⟩
  | true=>
   obtain ⟨hi,hfr⟩:∃h:i < ms.length,ms[i].frm=c:=by simpa using hs.fd.symm
   have hfd:=fndM_some (compat:=compat) HS.out hi hfr
   have hto:toM ms i=ms[i].toq:=by simp [toM,List.getD,hi]
   obtain ⟨b,o,rfl,_,hcell⟩:=(hA.below hb).at hi
   obtain ⟨E,d,c1,c2,c3,c4,c5⟩:=hcell i hi
   clear hcell hs
   have HR2:=Lib.hid (HR.out.trans (by rw [hfd]))
   clear hfd HR
   generalize hto2:ms[i].toq=toq at *
   generalize ms[i].tag=tg at *
   clear hto2
   by_cases ht:tg.size=0
   ·have g0:tg.toList=[]:=str_nil ht
    obtain rfl:R=some toq:=by rw [HR2.out,if_pos (.inr ht),Option.map_some,hto]
    clear hto HR2
    go_wp2_with fail
    go_ret2
    exact ⟨E,d,rfl,c4,c5,hb⟩
   ·have g0:¬tg.toList=[]:=str_cons ht
    have g1:tg.toList.isEmpty=false:=by simpa using g0
    cases compat with
    | true=>
     obtain rfl:R=some toq:=by rw [HR2.out,if_pos (.inl rfl),Option.map_some,hto]
     clear hto HR2
     go_wp2_with fail
     go_ret2
     exact ⟨E,d,rfl,c4,c5,hb⟩
    | false=>
     obtain rfl:R=none:=by rw [HR2.out,if_neg (by simp [ht]),Option.map_none]
     clear hto HR2
     go_wp2_with fail
     go_ret2
     exact ⟨.none,0,rfl,Nat.le_refl _,Sl.nil _ _,hb⟩
end Go.Proofs.YtkhmjidaeliccaaGreatDoor
namespace Go.Proofs.YtkhmjidaeliccaaGreatDoor
open Go.RowKit Go.Maps Go.WideMaps
def iok (z:Int):Prop:=(Lit.int .i64 z).wf=true
def ikey (z:Int):Lit:=.int .i64 z
theorem ikey_inj {y z:Int} (h:ikey y=ikey z):y=z:=by injection h
theorem law_int:Keyed Tryz.prog 3:=int_keyed Tryz.underlying3
theorem key_int {z:Int} (h:iok z):keyOf Tryz.prog 3 (.int .i64 z)=some (ikey z):=keyOf_int_mk Tryz.underlying3 h
abbrev MapI (w:World) (b n:Nat) (f:Int→Option Value):Prop:=MapIs Tryz.prog 3 ikey iok w b n f
end Go.Proofs.YtkhmjidaeliccaaGreatDoor
