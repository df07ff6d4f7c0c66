/- Texts that are merged into one file: DfsPlain, MapA, SetA. -/
import Derived.Test.YtkhmjidaeliccaaGreatDoorB02
import Derived.Test.YtkhmjidaeliccaaGreatDoorB03
import Derived.Test.YtkhmjidaeliccaaGreatDoorB07
import Derived.WalkKit
import Derived.WalkLawsBesides
import Derived.DeepKeys4
import Derived.RegionTactic
import Derived.BigRegion
import Derived.StillTailTactics
import Derived.Deep.RegionWith
import Derived.Outline
import Derived.IntWalk
set_option maxRecDepth 100000
set_option maxHeartbeats 51200000
namespace Go.Proofs.YtkhmjidaeliccaaGreatDoor
section
variable (on:Int→Option (List Int)) (cap:Int)
def capSum (vs:List Int):Int:=vs.foldl (fun s v=>min (s+v) cap) 0
theorem capSum_snoc (vs:List Int) (v:Int):capSum cap (vs++[v])=min (capSum cap vs+v) cap:=by simp [capSum,List.foldl_append]
inductive Sz:Int→Int→Prop
 | leaf {c:Int}:on c=none∨on c=some []→Sz c 1
 | node {c:Int} {toq vs:List Int}:on c=some toq→toq≠[]→vs.length=toq.length→(∀i,(hi:i < toq.length)→(hv:i < vs.length)→Sz toq[i] vs[i])→Sz c (capSum cap vs)
def Edge (c d:Int):Prop:=∃toq,on c=some toq∧d ∈ toq
inductive Path:Int→Int→Prop
 | one {c d:Int}:Edge on c d→Path c d
 | more {c d e:Int}:Path c d→Edge on d e→Path c e
end
section
variable {on:Int→Option (List Int)} {cap:Int}
theorem Path.front {c d e:Int} (h:Edge on c d) (p:Path on d e):Path on c e:=by
 induction p with
 | one h2=>exact .more (.one h) h2
 | more _ h2 ih=>exact .more ih h2
theorem Path.head {c e:Int} (p:Path on c e):Edge on c e∨∃d,Edge on c d∧Path on d e:=by
 induction p with
 | one h=>exact .inl h
 | more p h ih=>
  rcases ih with h1 | ⟨x,h1,h2⟩
  ·exact .inr ⟨_,h1,.one h⟩
  ·exact .inr ⟨x,h1,.more h2 h⟩
theorem Sz.func {c v:Int} (h:Sz on cap c v):∀{v'},Sz on cap c v'→v=v':=by
 induction h with
 | leaf h=>
  intro v' h'
  cases h' with
  | leaf _=>rfl
  | node h1 h2 _ _=>
   rcases h with h | h
   ·rw [h] at h1;cases h1
   ·rw [h] at h1;injection h1 with h1;exact absurd h1.symm h2
 | node h1 h2 h3 _ ih=>
  intro v' h'
  cases h' with
  | leaf h=>
   rcases h with h | h
   ·rw [h] at h1;cases h1
   ·rw [h] at h1;injection h1 with h1;exact absurd h1.symm h2
  | @node _ toq vs' g1 g2 g3 g4=>
   rw [h1] at g1
   injection g1 with g1
   subst g1
   congr 1
   refine List.ext_getElem (by omega) fun i hi hi'=>?_
   exact ih i (by omega) hi (g4 i (by omega) hi')
theorem Sz.succ {c d v:Int} (h:Sz on cap c v) (e:Edge on c d):∃u,Sz on cap d u:=by
 obtain ⟨toq,h1,h2⟩:=e
 cases h with
 | leaf h=>
  rcases h with h | h
  ·rw [h] at h1;cases h1
  ·rw [h] at h1;injection h1 with h1;subst h1;cases h2
 | @node _ to' vs g1 g2 g3 g4=>
  rw [h1] at g1
  injection g1 with g1
  subst g1
  obtain ⟨i,hi,rfl⟩:=List.getElem_of_mem h2
  exact ⟨_,g4 i hi (by omega)⟩
theorem Sz.noway {c v:Int} (h:Sz on cap c v):¬Path on c c:=by
 have key:∀{c v:Int},Sz on cap c v→∀d,Path on c d→¬Path on d c:=by
  intro c v h
  induction h with
  | leaf h=>
   intro d p _
   rcases p.head with ⟨toq,h1,h2⟩ | ⟨x,⟨toq,h1,h2⟩,_⟩
   all_goals
    rcases h with h | h
    ·rw [h] at h1;cases h1
    ·rw [h] at h1;injection h1 with h1;subst h1;cases h2
  | @node c toq vs h1 h2 h3 _ ih=>
   intro d p q
   have step:∀x,Edge on c x→∀y,Path on x y→¬Path on y x:=fun x ⟨to',g1,g2⟩ y=>by
    rw [h1] at g1
    injection g1 with g1
    subst g1
    obtain ⟨i,hi,rfl⟩:=List.getElem_of_mem g2
    exact ih i hi (by omega) y
   rcases p.head with e | ⟨x,e,p2⟩
   ·rcases q.head with e2 | ⟨y,e2,q2⟩
    ·exact step d e c (.one e2) (.one e)
    ·exact step d e c q (.one e)
   ·have q3:Path on d x:=by
     rcases q.head with e2 | ⟨y,e2,q2⟩
     ·exact .front e2 (.one e)
     ·exact .more q e
    exact step x e d p2 q3
 exact fun p=>key h c p p
theorem capSum_pos {vs:List Int} (hc:1≤cap) (h:∀v ∈ vs,1≤v) (hne:vs≠[]):1≤capSum cap vs∧capSum cap vs≤cap:=by
 have:∀(l:List Int) (s:Int),(∀v ∈ l,1≤v)→0≤s→s≤cap→(l≠[]∨1≤s)→1≤l.foldl (fun s v=>min (s+v) cap) s∧l.foldl (fun s v=>min (s+v) cap) s≤cap:=by
  intro l
  induction l with
  | nil=>intro s _ h0 h1 h2;rcases h2 with h2 | h2;exact absurd rfl h2;exact ⟨h2,h1⟩
  | cons x l ih=>
   intro s hl h0 h1 _
   have hx:=hl x (by simp)
   exact ih _ (fun v hv=>hl v (by simp [hv])) (by dsimp only;omega) (by dsimp only;omega) (.inr (by dsimp only;omega))
 exact this vs 0 h (by omega) (by omega) (.inl hne)
theorem Sz.bd {c v:Int} (hc:1≤cap) (h:Sz on cap c v):1≤v∧v≤cap:=by
 induction h with
 | leaf _=>exact ⟨by omega,hc⟩
 | node h1 h2 h3 _ ih=>
  refine capSum_pos hc (fun v hv=>?_) (by rintro rfl;simp at h3;exact h2 (List.eq_nil_of_length_eq_zero h3.symm))
  obtain ⟨i,hi,rfl⟩:=List.getElem_of_mem hv
  exact (ih i (by omega) hi).1
end
section
variable (n:Nat) (frm:Nat→Int) (toq:Nat→List Int) (fnd:Int→Option Nat) (dl:Int→Int) (cap:Int)
def endE (T:List Bool) (i:Nat):Bool:=(toq i).all (fun e=>match fnd e with | none=>true | some m=>T.getD m false)
def endStep (T:List Bool) (i:Nat):List Bool:=T.set i (endE toq fnd T i)
def lenE (L:List Int) (e:Int):Int:=match fnd e with | none=>dl e | some m=>L.getD m 0
def lenV (L:List Int) (i:Nat):Int:=min (max ((toq i).map (lenE fnd dl L)).sum 1) cap
def lenStep (skip:Nat→Bool) (L:List Int) (i:Nat):List Int:=L.set i (if skip i=true then 1 else lenV toq fnd dl cap L i)
end
section
variable {n:Nat} {frm:Nat→Int} {toq:Nat→List Int} {fnd fnd':Int→Option Nat} {dl:Int→Int} {cap:Int} {on on':Int→Option (List Int)} {skip:Nat→Bool}
theorem capSum_eq {vs:List Int} (h:∀v ∈ vs,0≤v) (hc:0≤cap):capSum cap vs=min vs.sum cap:=by
 have:∀(l:List Int) (s:Int),(∀v ∈ l,0≤v)→0≤s→s≤cap→l.foldl (fun s v=>min (s+v) cap) s=min (s+l.sum) cap:=by
  intro l
  induction l with
  | nil=>intro s _ _ h;simp;omega
  | cons x l ih=>
   intro s hl h0 h1
   have hx:=hl x (by simp)
   have hp:0≤l.sum:=by
    clear ih
    have hl':∀v ∈ l,0≤v:=fun v hv=>hl v (by simp [hv])
    clear hl
    induction l with
    | nil=>simp
    | cons y l ih=>rw [List.sum_cons];have:=hl' y (by simp);have:=ih (fun v hv=>hl' v (by simp [hv]));omega
   rw [List.foldl_cons,ih _ (fun v hv=>hl v (by simp [hv])) (by omega) (by omega),List.sum_cons]
   omega
 have:=this vs 0 h (by omega) hc
 simpa [capSum] using this
theorem sum_nonneg {l:List Int} (h:∀v ∈ l,0≤v):0≤l.sum:=by
 induction l with
 | nil=>simp
 | cons y l ih=>rw [List.sum_cons];have:=h y (by simp);have:=ih (fun v hv=>h v (by simp [hv]));omega
theorem sum_pos {l:List Int} (h:∀v ∈ l,1≤v) (hne:l≠[]):1≤l.sum:=by
 cases l with
 | nil=>exact absurd rfl hne
 | cons y l=>rw [List.sum_cons];have:=h y (by simp);have:=sum_nonneg (l:=l) (fun v hv=>by have:=h v (by simp [hv]);omega);omega
structure Maps1 (n:Nat) (frm:Nat→Int) (toq:Nat→List Int) (fnd:Int→Option Nat) (dl:Int→Int) (cap:Int) (on:Int→Option (List Int)) (skip:Nat→Bool):Prop where
 cap1:1≤cap
 at_:∀i,i < n→skip i=false→on (frm i)=some (toq i)
 sk:∀i,i < n→skip i=true→on (frm i)=none
 fd:∀e m,fnd e=some m→m < n∧frm m=e
 no:∀e,fnd e=none→Sz on cap e (dl e)
theorem rounds_sound (M:Maps1 n frm toq fnd dl cap on skip) (hsub:∀e m,fnd e=some m→fnd' e=some m) (s:List Nat) (hs:∀i ∈ s,i < n) :
  ∀i,i < n→(s.foldl (endStep toq fnd') (List.replicate n false)).getD i false=true→∃v,Sz on cap (frm i) v∧(s.foldl (lenStep toq fnd dl cap skip) (List.replicate n 0)).getD i 0=v:=by
 have hlenE:∀s:List Nat,(s.foldl (endStep toq fnd') (List.replicate n false)).length=n:=by
  intro s
  have:∀(s:List Nat) (T:List Bool),T.length=n→(s.foldl (endStep toq fnd') T).length=n:=by
   intro s
   induction s with
   | nil=>intro T h;exact h
   | cons x s ih=>intro T h;exact ih _ (by simp [endStep,h])
  exact this s _ (by simp)
 have hlenL:∀s:List Nat,(s.foldl (lenStep toq fnd dl cap skip) (List.replicate n 0)).length=n:=by
  intro s
  have:∀(s:List Nat) (T:List Int),T.length=n→(s.foldl (lenStep toq fnd dl cap skip) T).length=n:=by
   intro s
   induction s with
   | nil=>intro T h;exact h
   | cons x s ih=>intro T h;exact ih _ (by simp [lenStep,h])
  exact this s _ (by simp)
 have key:∀k (s:List Nat),s.length=k→(∀i ∈ s,i < n)→∀i,i < n→(s.foldl (endStep toq fnd') (List.replicate n false)).getD i false=true→∃v,Sz on cap (frm i) v∧(s.foldl (lenStep toq fnd dl cap skip) (List.replicate n 0)).getD i 0=v:=by
  intro k
  induction k with
  | zero=>
   intro s hk _ i hi h
   have:s=[]:=List.eq_nil_of_length_eq_zero hk
   subst this
   simp [List.getD,hi] at h
  | succ k ih=>
   intro s hk hs i hi h
   obtain ⟨s',x,rfl⟩:∃s' x,s=s'++[x]:=⟨s.dropLast,s.getLast (by rintro rfl;simp at hk),(List.dropLast_concat_getLast _).symm⟩
   have hs':∀i ∈ s',i < n:=fun j hj=>hs j (by simp [hj])
   have hx:x < n:=hs x (by simp)
   have IH:=ih s' (by simpa using hk) hs'
   rw [List.foldl_append] at h ⊢
   simp only [List.foldl_cons,List.foldl_nil] at h ⊢
   have l1:=hlenE s'
   have l2:=hlenL s'
   generalize s'.foldl (endStep toq fnd') (List.replicate n false)=T at *
   generalize s'.foldl (lenStep toq fnd dl cap skip) (List.replicate n 0)=L at *
   by_cases e:x=i
   ·subst e
    have hT:endE toq fnd' T x=true:=by
     simpa [endStep,List.getD,l1,hi] using h
    have hL:(lenStep toq fnd dl cap skip L x).getD x 0=if skip x=true then 1 else lenV toq fnd dl cap L x:=by
     simp [lenStep,List.getD,l2,hi]
    rw [hL]
    cases hsk:skip x with
    | true=>exact ⟨1,.leaf (.inl (M.sk x hi hsk)),by simp⟩
    | false=>
     simp only [Bool.false_eq_true,if_false]
     have hch:∀e ∈ toq x,Sz on cap e (lenE fnd dl L e):=fun e he=>by
      unfold lenE
      cases hf:fnd e with
      | none=>exact M.no e hf
      | some m=>
       obtain ⟨hm,hfm⟩:=M.fd e m hf
       have:=List.all_eq_true.1 hT e he
       rw [hsub e m hf] at this
       obtain ⟨v,h1,h2⟩:=IH m hm this
       rw [hfm] at h1
       rw [←h2] at h1
       exact h1
     by_cases hto:toq x=[]
     ·refine ⟨1,.leaf (.inr (by rw [M.at_ x hi hsk,hto])),?_⟩
      unfold lenV
      rw [hto]
      have:=M.cap1
      simp
      omega
     ·refine ⟨capSum cap ((toq x).map (lenE fnd dl L)),.node (M.at_ x hi hsk) hto (by simp) (fun j hj hv=>?_),?_⟩
      ·simp only [List.getElem_map]
       exact hch _ (List.getElem_mem hj)
      ·have hpos:∀v ∈ (toq x).map (lenE fnd dl L),1≤v:=fun v hv=>by
        obtain ⟨e,he,rfl⟩:=List.mem_map.1 hv
        exact ((hch e he).bd M.cap1).1
       have h1:=sum_pos hpos (by simpa using hto)
       rw [capSum_eq (fun v hv=>by have:=hpos v hv;omega) (by have:=M.cap1;omega)]
       unfold lenV
       rw [Int.max_eq_left h1]
   ·have hT:T.getD i false=true:=by
     simpa [endStep,List.getD,List.getElem?_set,e] using h
    obtain ⟨v,h1,h2⟩:=IH i hi hT
    refine ⟨v,h1,?_⟩
    rw [←h2]
    simp [lenStep,List.getD,e]
 exact key s.length s rfl hs
end
section
variable {n:Nat} {toq:Nat→List Int} {fnd:Int→Option Nat}
def Closed (toq:Nat→List Int) (fnd:Int→Option Nat) (T:List Bool):Prop:=∀i,T.getD i false=true→endE toq fnd T i=true
def LeB (T T':List Bool):Prop:=T.length=T'.length∧∀i,T.getD i false=true→T'.getD i false=true
theorem LeB.refl (T:List Bool):LeB T T:=⟨rfl,fun _ h=>h⟩
theorem LeB.trans {a b c:List Bool} (h:LeB a b) (k:LeB b c):LeB a c:=⟨h.1.trans k.1,fun i hi=>k.2 i (h.2 i hi)⟩
theorem LeB.antisymm {a b:List Bool} (h:LeB a b) (k:LeB b a):a=b:=by
 refine List.ext_getElem h.1 fun i h1 h2=>?_
 have e1:a.getD i false=a[i]:=by simp [List.getD,List.getElem?_eq_getElem h1]
 have e2:b.getD i false=b[i]:=by simp [List.getD,List.getElem?_eq_getElem h2]
 have p:=h.2 i
 have q:=k.2 i
 rw [e1,e2] at p q
 cases ha:a[i] <;> cases hb:b[i] <;> simp_all
theorem endE_mono {T T':List Bool} (h:LeB T T') (i:Nat) (hi:endE toq fnd T i=true):endE toq fnd T' i=true:=by
 unfold endE at *
 rw [List.all_eq_true] at *
 intro e he
 have:=hi e he
 cases hf:fnd e with
 | none=>rfl
 | some m=>rw [hf] at this;exact h.2 m this
theorem getD_set {T:List Bool} {i j:Nat} {x:Bool} (hi:i < T.length):(T.set i x).getD j false=if i=j then x else T.getD j false:=by
 by_cases e:i=j
 ·subst e;simp [List.getD,hi]
 ·simp [List.getD,e]
theorem endStep_le {T:List Bool} (hc:Closed toq fnd T) {i:Nat} (hi:i < T.length):LeB T (endStep toq fnd T i)∧Closed toq fnd (endStep toq fnd T i):=by
 have hle:LeB T (endStep toq fnd T i):=by
  refine ⟨by simp [endStep],fun j hj=>?_⟩
  unfold endStep
  rw [getD_set hi]
  split
  ·next e=>subst e;exact hc i hj
  ·exact hj
 refine ⟨hle,fun j hj=>endE_mono hle j ?_⟩
 unfold endStep at hj
 rw [getD_set hi] at hj
 split at hj
 ·next e=>subst e;exact hj
 ·exact hc j hj
theorem fold_le {s:List Nat}:∀{T:List Bool},Closed toq fnd T→(∀i ∈ s,i < T.length)→LeB T (s.foldl (endStep toq fnd) T)∧Closed toq fnd (s.foldl (endStep toq fnd) T):=by
 induction s with
 | nil=>intro T hc _;exact ⟨LeB.refl _,hc⟩
 | cons x s ih=>
  intro T hc hs
  obtain ⟨h1,h2⟩:=endStep_le hc (hs x (by simp))
  obtain ⟨h3,h4⟩:=ih h2 (fun i hi=>by rw [←h1.1];exact hs i (by simp [hi]))
  exact ⟨h1.trans h3,h4⟩
theorem fix_of_eq {T:List Bool} (hc:Closed toq fnd T) (hl:T.length=n) (he:(List.range n).foldl (endStep toq fnd) T=T) {i:Nat} (hi:i < n):T.getD i false=endE toq fnd T i:=by
 have hsp:List.range n=List.range i++i::(List.range n).drop (i+1):=by
  have h1:(List.range n).take i=List.range i:=by rw [List.take_range];congr 1;omega
  have h2:(List.range n).drop i=i::(List.range n).drop (i+1):=by
   rw [List.drop_eq_getElem_cons (by simpa using hi)]
   simp
  rw [←h1,←h2,List.take_append_drop]
 have hlt:∀j ∈ List.range n,j < T.length:=fun j hj=>by rw [hl];exact List.mem_range.1 hj
 rw [hsp,List.foldl_append,List.foldl_cons] at he
 obtain ⟨a1,a2⟩:=fold_le (s:=List.range i) hc (fun j hj=>by rw [hl];have:=List.mem_range.1 hj;omega)
 have hi1:i < ((List.range i).foldl (endStep toq fnd) T).length:=by rw [←a1.1,hl];exact hi
 obtain ⟨b1,b2⟩:=endStep_le a2 hi1
 obtain ⟨c1,c2⟩:=fold_le (s:=(List.range n).drop (i+1)) b2 (fun j hj=>by rw [←b1.1,←a1.1];exact hlt j (List.mem_of_mem_drop hj))
 rw [he] at c1
 have e1:(List.range i).foldl (endStep toq fnd) T=T:=LeB.antisymm (b1.trans c1) a1
 rw [e1] at b1 c1 hi1
 have e2:endStep toq fnd T i=T:=LeB.antisymm c1 b1
 have:=congrArg (fun l:List Bool=>l.getD i false) e2
 unfold endStep at this
 rw [getD_set hi1,if_pos rfl] at this
 exact this.symm
theorem count_lt {T T':List Bool} (h:LeB T T') (hne:¬T=T'):T.count true < T'.count true:=by
 induction T generalizing T' with
 | nil=>
  have:=h.1
  cases T' with
  | nil=>exact absurd rfl hne
  | cons _ _=>simp at this
 | cons x T ih=>
  cases T' with
  | nil=>have:=h.1;simp at this
  | cons y T'=>
   have hl:LeB T T':=⟨by have:=h.1;simpa using this,fun i hi=>by have:=h.2 (i+1);simpa [List.getD] using this (by simpa [List.getD] using hi)⟩
   have h0:=h.2 0
   simp only [List.getD,List.getElem?_cons_zero,Option.getD_some] at h0
   have hcle:T.count true≤T'.count true:=by
    by_cases e:T=T'
    ·rw [e];exact Nat.le_refl _
    ·exact Nat.le_of_lt (ih hl e)
   rw [List.count_cons,List.count_cons]
   cases x with
   | true=>
    rw [h0 rfl]
    have hne':¬T=T':=fun e=>hne (by rw [e,h0 rfl])
    have:=ih hl hne'
    simp
    omega
   | false=>
    cases y with
    | true=>simp;omega
    | false=>
     have hne':¬T=T':=fun e=>hne (by rw [e])
     have:=ih hl hne'
     simp
     omega
def rnds (n:Nat) (toq:Nat→List Int) (fnd:Int→Option Nat):Nat→List Bool
 | 0=>List.replicate n false
 | r+1=>(List.range n).foldl (endStep toq fnd) (rnds n toq fnd r)
theorem rnds_ok (n:Nat) (toq:Nat→List Int) (fnd:Int→Option Nat) (r:Nat):(rnds n toq fnd r).length=n∧Closed toq fnd (rnds n toq fnd r):=by
 induction r with
 | zero=>exact ⟨by simp [rnds],fun i hi=>by
   by_cases h:i < n
   ·simp [rnds,List.getD,h] at hi
   ·simp [rnds,List.getD,h] at hi⟩
 | succ r ih=>
  obtain ⟨h1,h2⟩:=fold_le (s:=List.range n) ih.2 (fun j hj=>by rw [ih.1];exact List.mem_range.1 hj)
  exact ⟨h1.1.symm.trans ih.1,h2⟩
theorem rnds_fix (n:Nat) (toq:Nat→List Int) (fnd:Int→Option Nat):(List.range n).foldl (endStep toq fnd) (rnds n toq fnd n)=rnds n toq fnd n:=by
 have key:∀r,(List.range n).foldl (endStep toq fnd) (rnds n toq fnd r)=rnds n toq fnd r∨r≤(rnds n toq fnd r).count true:=by
  intro r
  induction r with
  | zero=>exact .inr (Nat.zero_le _)
  | succ r ih=>
   rcases ih with ih | ih
   ·left
    show (List.range n).foldl (endStep toq fnd) ((List.range n).foldl (endStep toq fnd) (rnds n toq fnd r))=(List.range n).foldl (endStep toq fnd) (rnds n toq fnd r)
    rw [ih,ih]
   ·obtain ⟨l1,c1⟩:=rnds_ok n toq fnd r
    obtain ⟨h1,_⟩:=fold_le (s:=List.range n) c1 (fun j hj=>by rw [l1];exact List.mem_range.1 hj)
    by_cases e:rnds n toq fnd r=(List.range n).foldl (endStep toq fnd) (rnds n toq fnd r)
    ·left
     show (List.range n).foldl (endStep toq fnd) ((List.range n).foldl (endStep toq fnd) (rnds n toq fnd r))=(List.range n).foldl (endStep toq fnd) (rnds n toq fnd r)
     rw [←e,←e]
    ·right
     have:=count_lt h1 e
     show r+1≤((List.range n).foldl (endStep toq fnd) (rnds n toq fnd r)).count true
     omega
 rcases key n with h | h
 ·exact h
 ·obtain ⟨l1,c1⟩:=rnds_ok n toq fnd n
  obtain ⟨h1,_⟩:=fold_le (s:=List.range n) c1 (fun j hj=>by rw [l1];exact List.mem_range.1 hj)
  by_cases e:rnds n toq fnd n=(List.range n).foldl (endStep toq fnd) (rnds n toq fnd n)
  ·exact e.symm
  ·have h2:=count_lt h1 e
   have h3:=List.count_le_length (a:=true) (l:=(List.range n).foldl (endStep toq fnd) (rnds n toq fnd n))
   rw [←h1.1,l1] at h3
   omega
theorem rnds_all {frm:Nat→Int} {on:Int→Option (List Int)} {cap:Int} (hat:∀i,i < n→on (frm i)=some (toq i)) (hfd:∀e m,fnd e=some m→m < n∧frm m=e) (hall:∀i,i < n→∃v,Sz on cap (frm i) v) :
  ∀i,i < n→(rnds n toq fnd n).getD i false=true:=by
 obtain ⟨l1,c1⟩:=rnds_ok n toq fnd n
 have hfix:=fun i (hi:i < n)=>fix_of_eq c1 l1 (rnds_fix n toq fnd) hi
 have key:∀{c v:Int},Sz on cap c v→∀i,i < n→frm i=c→(rnds n toq fnd n).getD i false=true:=by
  intro c v h
  induction h with
  | leaf h=>
   intro i hi hc
   subst hc
   rw [hfix i hi]
   rcases h with h | h
   ·rw [hat i hi] at h;cases h
   ·rw [hat i hi] at h
    injection h with h
    unfold endE
    rw [h]
    rfl
  | @node c to' vs h1 h2 h3 h4 ih=>
   intro i hi hc
   subst hc
   rw [hat i hi] at h1
   injection h1 with h1
   rw [hfix i hi]
   unfold endE
   rw [List.all_eq_true]
   intro e he
   cases hf:fnd e with
   | none=>rfl
   | some m=>
    obtain ⟨hm,hfm⟩:=hfd e m hf
    rw [h1] at he
    obtain ⟨j,hj,rfl⟩:=List.getElem_of_mem he
    exact ih j hj (by omega) m hm hfm
 intro i hi
 obtain ⟨v,h⟩:=hall i hi
 exact key h i hi rfl
end
section
structure DInv (on:Int→Option (List Int)) (cap mx:Int) (mk:Int→Option Int) (cyc lng:Bool):Prop where
 bd:∀c k,mk c=some k→-1≤k∧k≤cap
 fin:cyc=false→∀c k,mk c=some k→k≠-1→Sz on cap c k
 cy:cyc=true→∃x,Path on x x
 lg1:lng=true→∃c k,mk c=some k∧mx < k
 lg2:∀c k,mk c=some k→mx < k→lng=true
 nd:∀c k,mk c=some k→∃toq,on c=some toq∧toq≠[]
structure DExt (mk mk':Int→Option Int):Prop where
 old:∀c k,mk c=some k→mk' c=some k
 new:∀c,mk c=none→mk' c≠some (-1)
variable {on:Int→Option (List Int)} {cap mx:Int} {mk mk' mk'':Int→Option Int} {cyc lng cyc':Bool}
theorem DExt.refl (mk:Int→Option Int):DExt mk mk:=⟨fun _ _ h=>h,fun c h e=>by rw [h] at e;cases e⟩
theorem DExt.trans (h:DExt mk mk') (k:DExt mk' mk''):DExt mk mk'':=by
 refine ⟨fun c v e=>k.old c v (h.old c v e),fun c e e'=>?_⟩
 cases hm:mk' c with
 | none=>exact k.new c hm e'
 | some v=>
  have:=k.old c v hm
  rw [e'] at this
  injection this with this
  subst this
  exact h.new c e hm
def putM (mk:Int→Option Int) (c k:Int):Int→Option Int:=fun x=>if x=c then some k else mk x
theorem putM_same (mk:Int→Option Int) (c k:Int):putM mk c k c=some k:=by simp [putM]
theorem putM_other (mk:Int→Option Int) {c x:Int} (k:Int) (h:¬x=c):putM mk c k x=mk x:=by simp [putM,h]
theorem DInv.begin (h:DInv on cap mx mk cyc lng) {c:Int} {toq:List Int} (hc:on c=some toq) (ht:toq≠[]) (hn:mk c=none) (hcap:1≤cap) (hmx:0≤mx):DInv on cap mx (putM mk c (-1)) cyc lng:=by
 refine ⟨fun x k hx=>?_,fun hf x k hx hk=>?_,h.cy,fun hl=>?_,fun x k hx hk=>?_,fun x k hx=>?_⟩
 ·by_cases e:x=c
  ·subst e;rw [putM_same] at hx;injection hx with hx;omega
  ·rw [putM_other mk _ e] at hx;exact h.bd x k hx
 ·by_cases e:x=c
  ·subst e;rw [putM_same] at hx;injection hx with hx;exact absurd hx.symm hk
  ·rw [putM_other mk _ e] at hx;exact h.fin hf x k hx hk
 ·obtain ⟨x,k,h1,h2⟩:=h.lg1 hl
  refine ⟨x,k,?_,h2⟩
  rw [putM_other mk _ (fun e=>by rw [e,hn] at h1;cases h1)]
  exact h1
 ·by_cases e:x=c
  ·subst e;rw [putM_same] at hx;injection hx with hx;omega
  ·rw [putM_other mk _ e] at hx;exact h.lg2 x k hx hk
 ·by_cases e:x=c
  ·subst e;exact ⟨toq,hc,ht⟩
  ·rw [putM_other mk _ e] at hx;exact h.nd x k hx
theorem DInv.finish (h:DInv on cap mx mk cyc lng) {c s:Int} {toq:List Int} (hc:on c=some toq) (ht:toq≠[]) (hm:mk c=some (-1)) (hs:1≤s∧s≤cap) (hz:cyc=false→Sz on cap c s) (hmx:0≤mx) :
  DInv on cap mx (putM mk c s) cyc (lng || decide (mx < s)):=by
 refine ⟨fun x k hx=>?_,fun hf x k hx hk=>?_,h.cy,fun hl=>?_,fun x k hx hk=>?_,fun x k hx=>?_⟩
 ·by_cases e:x=c
  ·subst e;rw [putM_same] at hx;injection hx with hx;omega
  ·rw [putM_other mk _ e] at hx;exact h.bd x k hx
 ·by_cases e:x=c
  ·subst e;rw [putM_same] at hx;injection hx with hx;subst hx;exact hz hf
  ·rw [putM_other mk _ e] at hx;exact h.fin hf x k hx hk
 ·rw [Bool.or_eq_true,decide_eq_true_eq] at hl
  rcases hl with hl | hl
  ·obtain ⟨x,k,h1,h2⟩:=h.lg1 hl
   refine ⟨x,k,?_,h2⟩
   rw [putM_other mk _ (fun e=>by rw [e,hm] at h1;injection h1 with h1;omega)]
   exact h1
  ·exact ⟨c,s,putM_same mk c s,hl⟩
 ·rw [Bool.or_eq_true,decide_eq_true_eq]
  by_cases e:x=c
  ·subst e;rw [putM_same] at hx;injection hx with hx;right;omega
  ·rw [putM_other mk _ e] at hx;exact .inl (h.lg2 x k hx hk)
 ·by_cases e:x=c
  ·subst e;exact ⟨toq,hc,ht⟩
  ·rw [putM_other mk _ e] at hx;exact h.nd x k hx
theorem DInv.meet (h:DInv on cap mx mk cyc lng) {c k:Int} (hm:mk c=some k) (hp:mk c=some (-1)→Path on c c):DInv on cap mx mk (cyc || (k==-1)) lng:=by
 refine ⟨h.bd,fun hf=>h.fin (by simp at hf;exact hf.1),fun hc=>?_,h.lg1,h.lg2,h.nd⟩
 rw [Bool.or_eq_true] at hc
 rcases hc with hc | hc
 ·exact h.cy hc
 ·simp at hc;subst hc;exact ⟨c,hp hm⟩
def unmarked (fs:List Int) (mk:Int→Option Int):Nat:=(fs.filter (fun f=>(mk f).isNone)).length
theorem unmarked_le {fs:List Int} (h:∀c,mk' c=none→mk c=none):unmarked fs mk'≤unmarked fs mk:=by
 unfold unmarked
 induction fs with
 | nil=>simp
 | cons f fs ih=>
  rw [List.filter_cons,List.filter_cons]
  by_cases h1:mk' f=none
  ·rw [if_pos (by simp [h1]),if_pos (by simp [h f h1])];simpa using ih
  ·rw [if_neg (by simpa using h1)]
   split
   ·simp;omega
   ·exact ih
theorem DExt.unmarked (h:DExt mk mk') (fs:List Int):Go.Proofs.YtkhmjidaeliccaaGreatDoor.unmarked fs mk'≤Go.Proofs.YtkhmjidaeliccaaGreatDoor.unmarked fs mk:=unmarked_le fun c e=>by
 cases hm:mk c with
 | none=>rfl
 | some v=>rw [h.old c v hm] at e;cases e
theorem unmarked_put {fs:List Int} {c k:Int} (hf:c ∈ fs) (hn:mk c=none):unmarked fs (putM mk c k) < unmarked fs mk:=by
 have hle:∀l:List Int,unmarked l (putM mk c k)≤unmarked l mk:=fun l=>unmarked_le fun x e=>by
  by_cases e':x=c
  ·subst e';exact hn
  ·rw [putM_other mk _ e'] at e;exact e
 induction fs with
 | nil=>cases hf
 | cons f fs ih=>
  have h1:=hle fs
  unfold unmarked at *
  rw [List.filter_cons,List.filter_cons]
  by_cases e:f=c
  ·subst e
   rw [if_neg (by simp [putM_same]),if_pos (by simp [hn])]
   simp
   omega
  ·have hf':c ∈ fs:=by
    rcases List.mem_cons.1 hf with h | h
    ·exact absurd h.symm e
    ·exact h
   have:=ih hf'
   by_cases hm:mk f=none
   ·rw [if_pos (by simp [putM_other mk _ e,hm]),if_pos (by simp [hm])];simpa using this
   ·rw [if_neg (by simpa [putM_other mk _ e] using hm),if_neg (by simpa using hm)];exact this
end
end Go.Proofs.YtkhmjidaeliccaaGreatDoor
namespace Go.Proofs.YtkhmjidaeliccaaGreatDoor
open Go.RowKit Go.Maps Go.WideMaps
theorem mapName_any (s:ByteArray) (w:World) (hs:s.size≤9223372036854775807) :
  Calls Tryz.prog 194 #[.string s] w fun e w'=>e=.returned (.bool (nameOk s))∧w=w':=by
 by_cases h1:s.size=0
 ·have h0:s.toList=[]:=str_nil h1
  have hn:nameOk s=false:=by unfold nameOk;simp [h1]
  rw [hn]
  go_enter Tryz.func194,Tryz.ntmps194
  go_wp2
  go_ret
  exact ⟨rfl,rfl⟩
 have h0:¬s.toList=[]:=str_cons h1
 have h0':s.toList.isEmpty=false:=by simpa using h0
 by_cases h2:32 < s.size
 ·have hn:nameOk s=false:=by
   unfold nameOk
   have:¬s.size≤32:=by omega
   simp [this]
  rw [hn]
  have q1:decide ((32:Int) < (s.size:Int))=true:=by simp;omega
  go_enter Tryz.func194,Tryz.ntmps194
  go_wp2
  go_ret
  exact ⟨rfl,rfl⟩
 have q1:decide ((32:Int) < (s.size:Int))=false:=by simp;omega
 have HB0:=Lib.hid (fun k (hk:k < s.size) h=>nameOk_bad hk h)
 have HF:=Lib.hid (fun h=>show nameOk s=true by rw [nameOk_all (s:=s) h,decide_eq_true (show 1≤s.size by omega),decide_eq_true (show s.size≤32 by omega)];rfl)
 generalize nameOk s=R at *
 go_enter Tryz.func194,Tryz.ntmps194
 go_wp2
 go_loop [15] (fun i=>∃k:Nat,k≤s.size∧i=.int .i64 k∧∀j,(hj:j < s.size)→j < k→nmc (s[j].toNat:Int)) (fun i=>s.size - (intOf i).toNat)
 case atStart=>exact ⟨0,Nat.zero_le _,rfl,fun j _ h=>by omega⟩
 case round=>
  obtain ⟨k,hk,rfl,hall⟩:=hrel
  have HA:=Lib.hid hall;clear hall
  by_cases hlt:k < s.size
  ·have HB:=Lib.hid (fun h=>HB0.out k hlt h)
   have HN:=Lib.hid (fun (h:nmc (s[k].toNat:Int))=>show ∀j,(hj:j < s.size)→j < k+1→nmc (s[j].toNat:Int) from fun j hj hj2=>by
    by_cases e:j < k
    ·exact HA.out j hj e
    ·obtain rfl:j=k:=by omega
     exact h)
   have HD:=Lib.hid (show nmc (s[k].toNat:Int) ↔ ((65≤(s[k].toNat:Int)∧(s[k].toNat:Int)≤90)∨(97≤(s[k].toNat:Int)∧(s[k].toNat:Int)≤122)∨(48≤(s[k].toNat:Int)∧(s[k].toNat:Int)≤57)∨(s[k].toNat:Int)=95) from Iff.rfl)
   have hlt8:=s[k].toNat_lt
   obtain ⟨hc1,hc2⟩ | ⟨hc1,hc2⟩ | ⟨hc1,hc2⟩ | ⟨hc1,hc2⟩ | ⟨hc1,hc2⟩ | ⟨hc1,hc2⟩ | ⟨hc1,hc2⟩ | ⟨hc1,hc2⟩ | ⟨hc1,hc2⟩:(0≤(s[k].toNat:Int)∧(s[k].toNat:Int)≤47)∨(48≤(s[k].toNat:Int)∧(s[k].toNat:Int)≤57)∨(58≤(s[k].toNat:Int)∧(s[k].toNat:Int)≤64)∨(65≤(s[k].toNat:Int)∧(s[k].toNat:Int)≤90)∨(91≤(s[k].toNat:Int)∧(s[k].toNat:Int)≤94)∨(95≤(s[k].toNat:Int)∧(s[k].toNat:Int)≤95)∨(96≤(s[k].toNat:Int)∧(s[k].toNat:Int)≤96)∨(97≤(s[k].toNat:Int)∧(s[k].toNat:Int)≤122)∨(123≤(s[k].toNat:Int)∧(s[k].toNat:Int)≤255):=by omega
   ·have hd1:decide (65≤(s[k].toNat:Int))=false:=decide_eq_false (by omega)
    have hd2:decide (97≤(s[k].toNat:Int))=false:=decide_eq_false (by omega)
    have hd3:decide (48≤(s[k].toNat:Int))=false:=decide_eq_false (by omega)
    have hd4:decide ((s[k].toNat:Int)≤90)=true:=decide_eq_true (by omega)
    have hd5:decide ((s[k].toNat:Int)≤122)=true:=decide_eq_true (by omega)
    have hd6:decide ((s[k].toNat:Int)≤57)=true:=decide_eq_true (by omega)
    have hc3:((s[k].toNat:Int) != 95)=true:=bne_iff_ne.2 (by omega)
    have HY:=Lib.hid (HB.out (fun h=>by have h9:=HD.out.1 h;omega))
    go_wp2
    go_ret
    exact ⟨ret_bool HY.out.symm,rfl⟩
   ·have hd1:decide (65≤(s[k].toNat:Int))=false:=decide_eq_false (by omega)
    have hd2:decide (97≤(s[k].toNat:Int))=false:=decide_eq_false (by omega)
    have hd3:decide (48≤(s[k].toNat:Int))=true:=decide_eq_true (by omega)
    have hd4:decide ((s[k].toNat:Int)≤90)=true:=decide_eq_true (by omega)
    have hd5:decide ((s[k].toNat:Int)≤122)=true:=decide_eq_true (by omega)
    have hd6:decide ((s[k].toNat:Int)≤57)=true:=decide_eq_true (by omega)
    have hc3:((s[k].toNat:Int) != 95)=true:=bne_iff_ne.2 (by omega)
    have HY:=Lib.hid (HN.out (HD.out.2 (by omega)))
    go_wp2
    go_round
    case rel=>exact ⟨k+1,by omega,by go_num,HY.out⟩
    case measure=>simp [intOf];omega
   ·have hd1:decide (65≤(s[k].toNat:Int))=false:=decide_eq_false (by omega)
    have hd2:decide (97≤(s[k].toNat:Int))=false:=decide_eq_false (by omega)
    have hd3:decide (48≤(s[k].toNat:Int))=true:=decide_eq_true (by omega)
    have hd4:decide ((s[k].toNat:Int)≤90)=true:=decide_eq_true (by omega)
    have hd5:decide ((s[k].toNat:Int)≤122)=true:=decide_eq_true (by omega)
    have hd6:decide ((s[k].toNat:Int)≤57)=false:=decide_eq_false (by omega)
    have hc3:((s[k].toNat:Int) != 95)=true:=bne_iff_ne.2 (by omega)
    have HY:=Lib.hid (HB.out (fun h=>by have h9:=HD.out.1 h;omega))
    go_wp2
    go_ret
    exact ⟨ret_bool HY.out.symm,rfl⟩
   ·have hd1:decide (65≤(s[k].toNat:Int))=true:=decide_eq_true (by omega)
    have hd2:decide (97≤(s[k].toNat:Int))=false:=decide_eq_false (by omega)
    have hd3:decide (48≤(s[k].toNat:Int))=true:=decide_eq_true (by omega)
    have hd4:decide ((s[k].toNat:Int)≤90)=true:=decide_eq_true (by omega)
    have hd5:decide ((s[k].toNat:Int)≤122)=true:=decide_eq_true (by omega)
    have hd6:decide ((s[k].toNat:Int)≤57)=false:=decide_eq_false (by omega)
    have hc3:((s[k].toNat:Int) != 95)=true:=bne_iff_ne.2 (by omega)
    have HY:=Lib.hid (HN.out (HD.out.2 (by omega)))
    go_wp2
    go_round
    case rel=>exact ⟨k+1,by omega,by go_num,HY.out⟩
    case measure=>simp [intOf];omega
   ·have hd1:decide (65≤(s[k].toNat:Int))=true:=decide_eq_true (by omega)
    have hd2:decide (97≤(s[k].toNat:Int))=false:=decide_eq_false (by omega)
    have hd3:decide (48≤(s[k].toNat:Int))=true:=decide_eq_true (by omega)
    have hd4:decide ((s[k].toNat:Int)≤90)=false:=decide_eq_false (by omega)
    have hd5:decide ((s[k].toNat:Int)≤122)=true:=decide_eq_true (by omega)
    have hd6:decide ((s[k].toNat:Int)≤57)=false:=decide_eq_false (by omega)
    have hc3:((s[k].toNat:Int) != 95)=true:=bne_iff_ne.2 (by omega)
    have HY:=Lib.hid (HB.out (fun h=>by have h9:=HD.out.1 h;omega))
    go_wp2
    go_ret
    exact ⟨ret_bool HY.out.symm,rfl⟩
   ·have hd1:decide (65≤(s[k].toNat:Int))=true:=decide_eq_true (by omega)
    have hd2:decide (97≤(s[k].toNat:Int))=false:=decide_eq_false (by omega)
    have hd3:decide (48≤(s[k].toNat:Int))=true:=decide_eq_true (by omega)
    have hd4:decide ((s[k].toNat:Int)≤90)=false:=decide_eq_false (by omega)
    have hd5:decide ((s[k].toNat:Int)≤122)=true:=decide_eq_true (by omega)
    have hd6:decide ((s[k].toNat:Int)≤57)=false:=decide_eq_false (by omega)
    have hc3:((s[k].toNat:Int) != 95)=false:=bne_eq_false_iff_eq.2 (by omega)
    have HY:=Lib.hid (HN.out (HD.out.2 (by omega)))
    go_wp2
    go_round
    case rel=>exact ⟨k+1,by omega,by go_num,HY.out⟩
    case measure=>simp [intOf];omega
   ·have hd1:decide (65≤(s[k].toNat:Int))=true:=decide_eq_true (by omega)
    have hd2:decide (97≤(s[k].toNat:Int))=false:=decide_eq_false (by omega)
    have hd3:decide (48≤(s[k].toNat:Int))=true:=decide_eq_true (by omega)
    have hd4:decide ((s[k].toNat:Int)≤90)=false:=decide_eq_false (by omega)
    have hd5:decide ((s[k].toNat:Int)≤122)=true:=decide_eq_true (by omega)
    have hd6:decide ((s[k].toNat:Int)≤57)=false:=decide_eq_false (by omega)
    have hc3:((s[k].toNat:Int) != 95)=true:=bne_iff_ne.2 (by omega)
    have HY:=Lib.hid (HB.out (fun h=>by have h9:=HD.out.1 h;omega))
    go_wp2
    go_ret
    exact ⟨ret_bool HY.out.symm,rfl⟩
   ·have hd1:decide (65≤(s[k].toNat:Int))=true:=decide_eq_true (by omega)
    have hd2:decide (97≤(s[k].toNat:Int))=true:=decide_eq_true (by omega)
    have hd3:decide (48≤(s[k].toNat:Int))=true:=decide_eq_true (by omega)
    have hd4:decide ((s[k].toNat:Int)≤90)=false:=decide_eq_false (by omega)
    have hd5:decide ((s[k].toNat:Int)≤122)=true:=decide_eq_true (by omega)
    have hd6:decide ((s[k].toNat:Int)≤57)=false:=decide_eq_false (by omega)
    have hc3:((s[k].toNat:Int) != 95)=true:=bne_iff_ne.2 (by omega)
    have HY:=Lib.hid (HN.out (HD.out.2 (by omega)))
    go_wp2
    go_round
    case rel=>exact ⟨k+1,by omega,by go_num,HY.out⟩
    case measure=>simp [intOf];omega
   ·have hd1:decide (65≤(s[k].toNat:Int))=true:=decide_eq_true (by omega)
    have hd2:decide (97≤(s[k].toNat:Int))=true:=decide_eq_true (by omega)
    have hd3:decide (48≤(s[k].toNat:Int))=true:=decide_eq_true (by omega)
    have hd4:decide ((s[k].toNat:Int)≤90)=false:=decide_eq_false (by omega)
    have hd5:decide ((s[k].toNat:Int)≤122)=false:=decide_eq_false (by omega)
    have hd6:decide ((s[k].toNat:Int)≤57)=false:=decide_eq_false (by omega)
    have hc3:((s[k].toNat:Int) != 95)=true:=bne_iff_ne.2 (by omega)
    have HY:=Lib.hid (HB.out (fun h=>by have h9:=HD.out.1 h;omega))
    go_wp2
    go_ret
    exact ⟨ret_bool HY.out.symm,rfl⟩
  ·obtain rfl:=HF.out (fun j hj=>HA.out j hj (by omega))
   go_wp2
   go_ret
   exact ⟨rfl,rfl⟩
theorem isNaNs_any (x:ByteArray) (w:World):Calls Tryz.prog 206 #[.string x] w fun e w'=>e=.returned (.bool false)∧w=w':=by
 go_enter Tryz.func206,Tryz.ntmps206
 go_wp2
 go_ret
 exact ⟨by simp,rfl⟩
theorem cmpCompareS_any (x y:ByteArray) (w:World):Calls Tryz.prog 196 #[.string x,.string y] w fun e w'=>e=.returned (.int .i64 (cmpS x y))∧w=w':=by
 unfold cmpS
 have E0:=Lib.hid (fun h1 h2=>show (x.toList==y.toList)=true by rw [bl_total (a:=x) (b:=y) h1 h2];simp)
 have E1:=Lib.hid (fun (h2:bl y x=true)=>show (x.toList==y.toList)=false from str_eqF (fun e=>by rw [e,bl_self] at h2;cases h2))
 unfold bl at *
 cases h1:Op.bytesLess x.toList y.toList
 ·cases h2:Op.bytesLess y.toList x.toList
  ·have q:=E0.out h1 h2
   simp only [Bool.false_eq_true,if_false]
   go_enter Tryz.func196,Tryz.ntmps196
   go_wp2_with (go_at_call 206;refine (isNaNs_any _ _).mono ?_;rintro e w' ⟨rfl,rfl⟩)
   go_ret
   exact ⟨rfl,rfl⟩
  ·have q:=E1.out h2
   simp only [Bool.false_eq_true,if_false,if_true]
   go_enter Tryz.func196,Tryz.ntmps196
   go_wp2_with (go_at_call 206;refine (isNaNs_any _ _).mono ?_;rintro e w' ⟨rfl,rfl⟩)
   go_ret
   exact ⟨rfl,rfl⟩
 ·simp only [if_true]
  go_enter Tryz.func196,Tryz.ntmps196
  go_wp2_with (go_at_call 206;refine (isNaNs_any _ _).mono ?_;rintro e w' ⟨rfl,rfl⟩)
  go_ret
  exact ⟨rfl,rfl⟩
def orI (x y:Int):Int:=if x=0 then y else x
theorem or2_any (b:Nat) (c:Nat) (x y:Int) (w:World) (hA:Ints w (some ⟨b,0,none⟩) [x,y]) :
  Calls Tryz.prog 195 #[.slice (some ⟨b,0,none⟩) 2 c] w fun e w'=>e=.returned (.int .i64 (orI x y))∧w=w':=by
 obtain ⟨b',o',h0,hc⟩:=hA.at (k:=0) (by simp)
 injection h0 with h0
 injection h0 with h0 h1
 subst h0;subst h1
 have c0:=hc 0 (by simp)
 have c1:=hc 1 (by simp)
 simp only [List.getElem_cons_zero,List.getElem_cons_succ] at c0 c1
 clear hc hA
 have O1:=Lib.hid (fun (h:x≠0)=>show orI x y=x by unfold orI;rw [if_neg h])
 have O2:=Lib.hid (fun (h:x=0)=>show orI x y=y by unfold orI;rw [if_pos h])
 generalize orI x y=R at *
 go_enter Tryz.func195,Tryz.ntmps195
 go_wp2
 go_loop [8] (fun u=>∃k:Nat,k≤2∧u=.int .i64 k∧(1≤k→x=0)∧(2≤k→y=0)) (fun u=>2 - (intOf u).toNat)
 case atStart=>exact ⟨0,by omega,rfl,fun h=>by omega,fun h=>by omega⟩
 case round=>
  obtain ⟨k,hk,rfl,h1,h2⟩:=hrel
  have H1:=Lib.hid h1;have H2:=Lib.hid h2
  clear h1 h2
  obtain rfl | rfl | rfl:k=0∨k=1∨k=2:=by omega
  ·by_cases hx:x=0
   ·have q1:(x != 0)=false:=by simpa using hx
    have HX:=Lib.hid hx
    clear hx
    go_wp2
    go_round
    case rel=>exact ⟨1,by omega,rfl,fun _=>HX.out,fun h=>by omega⟩
    case measure=>simp [intOf]
   ·have q1:(x != 0)=true:=by simpa using hx
    obtain rfl:=O1.out hx
    clear hx
    go_wp2
    go_ret
    exact ⟨rfl,rfl⟩
  ·have HX:=Lib.hid (H1.out (by omega))
   by_cases hy:y=0
   ·have q1:(y != 0)=false:=by simpa using hy
    have HY:=Lib.hid hy
    clear hy
    go_wp2
    go_round
    case rel=>exact ⟨2,by omega,rfl,fun _=>HX.out,fun _=>HY.out⟩
    case measure=>simp [intOf]
   ·have q1:(y != 0)=true:=by simpa using hy
    obtain rfl:=O2.out HX.out
    clear hy
    go_wp2
    go_ret
    exact ⟨rfl,rfl⟩
  ·have e:=O2.out (H1.out (by omega))
   have HR:=Lib.hid (e.trans (H2.out (by omega)))
   clear e
   go_wp2
   go_ret
   exact ⟨ret_int HR.out.symm,rfl⟩
theorem cmpM_or (a b:Mp):orI (cmpI a.frm b.frm) (cmpS a.tag b.tag)=cmpM a b:=by
 unfold orI cmpI cmpM
 by_cases h1:a.frm < b.frm
 ·simp [h1]
 ·by_cases h2:b.frm < a.frm <;> simp [h1,h2]
theorem mapCompare_any (a b:Mp) (va vb:Value) (w:World) :
  Calls Tryz.prog 177 #[.agg #[.int .i64 a.frm,va,.string a.tag],.agg #[.int .i64 b.frm,vb,.string b.tag]] w (RetInt (cmpM a b) w):=by
 have B0:Below w.heap.size w ((w.alloc (.cells #[.int .i64 a.frm,va,.string a.tag] 154)).alloc (.cells #[.int .i64 b.frm,vb,.string b.tag] 154)):=((Below.refl _ _).alloc (Nat.le_refl _) _).alloc (by simp) _
 have s0:((w.alloc (.cells #[.int .i64 a.frm,va,.string a.tag] 154)).alloc (.cells #[.int .i64 b.frm,vb,.string b.tag] 154)).heap.size=w.heap.size+2:=by simp
 have hS0:(fun W':World=>W'.cell? ⟨w.heap.size,0,none⟩=some (.int .i64 a.frm)∧W'.cell? ⟨w.heap.size,2,none⟩=some (.string a.tag)∧W'.cell? ⟨w.heap.size+1,0,none⟩=some (.int .i64 b.frm)∧W'.cell? ⟨w.heap.size+1,2,none⟩=some (.string b.tag)) ((w.alloc (.cells #[.int .i64 a.frm,va,.string a.tag] 154)).alloc (.cells #[.int .i64 b.frm,vb,.string b.tag] 154)):=by refine ⟨?_,?_,?_,?_⟩ <;> simp
 have W0E:∃W0,((w.alloc (.cells #[.int .i64 a.frm,va,.string a.tag] 154)).alloc (.cells #[.int .i64 b.frm,vb,.string b.tag] 154))=W0:=⟨_,rfl⟩
 have CM:=Lib.hid (cmpM_or a b)
 generalize cmpM a b=R at *
 obtain ⟨fa,ta,tga⟩:=a
 obtain ⟨fb,tb,tgb⟩:=b
 dsimp only at *
 go_enter Tryz.func177,Tryz.ntmps177
 go_wp2_with fail
 obtain ⟨W0,hW0⟩:=W0E
 rw [hW0] at B0 s0 hS0 ⊢
 clear hW0
 have hx0:w.heap.size < W0.heap.size:=by omega
 have hx1:w.heap.size+1 < W0.heap.size:=by omega
 refine wp_region_held_drew (S:=fun W'=>W'.cell? ⟨w.heap.size,0,none⟩=some (.int .i64 fa)∧W'.cell? ⟨w.heap.size,2,none⟩=some (.string tga)∧W'.cell? ⟨w.heap.size+1,0,none⟩=some (.int .i64 fb)∧W'.cell? ⟨w.heap.size+1,2,none⟩=some (.string tgb)) (by kernel_rfl) hS0 (fun hHeld=>?_)
 refine tK 0 5 ?_
 refine tK 1 6 ?_
 refine tK 2 7 ?_
 refine tK 3 8 ?_
 refine tK 5 10 ?_
 refine tK 6 11 ?_
 refine tK 7 12 ?_
 refine tK 8 13 ?_
 refine anyH_callR (R:=fun W'=>W0.drew=W') (i:=4) (some 9) rfl rfl (by kernel_rfl) (by rfl) (by go_simp) ((cmpCompare_any fa fb W0.drew).mono (R':=fun e w'=>e=.returned (.int .i64 (cmpI fa fb))∧_∧W0.drew=w') (fun e w' ⟨he,hw⟩=>⟨he,by subst hw;exact hHeld,hw⟩)) (fun w6 hS6 hR6=>?_)
 subst hR6
 clear hS6
 try simp only [Act.put,List.setIfInBounds_toArray,List.set_cons_zero,List.set_cons_succ]
 refine anyH_callR (R:=fun W'=>W0.drew=W') (i:=9) (some 14) rfl rfl (by kernel_rfl) (by rfl) (by go_simp) ((cmpCompareS_any tga tgb W0.drew).mono (R':=fun e w'=>e=.returned (.int .i64 (cmpS tga tgb))∧_∧W0.drew=w') (fun e w' ⟨he,hw⟩=>⟨he,by subst hw;exact hHeld,hw⟩)) (fun w6 hS6 hR6=>?_)
 subst hR6
 clear hS6
 try simp only [Act.put,List.setIfInBounds_toArray,List.set_cons_zero,List.set_cons_succ]
 generalize cmpI fa fb=x at *
 generalize cmpS tga tgb=y at *
 have B1:Below W0.heap.size W0 (W0.drew.alloc (.cells #[.int .i64 x,.int .i64 y] 3)):=((Below.refl _ _).drew).alloc (Nat.le_refl _) _
 have hS1:(fun W':World=>W'.cell? ⟨w.heap.size,0,none⟩=some (.int .i64 fa)∧W'.cell? ⟨w.heap.size,2,none⟩=some (.string tga)∧W'.cell? ⟨w.heap.size+1,0,none⟩=some (.int .i64 fb)∧W'.cell? ⟨w.heap.size+1,2,none⟩=some (.string tgb)) (W0.drew.alloc (.cells #[.int .i64 x,.int .i64 y] 3)):=⟨(B1.cell (p:=⟨w.heap.size,0,none⟩) hx0).trans hHeld.1,(B1.cell (p:=⟨w.heap.size,2,none⟩) hx0).trans hHeld.2.1,(B1.cell (p:=⟨w.heap.size+1,0,none⟩) hx1).trans hHeld.2.2.1,(B1.cell (p:=⟨w.heap.size+1,2,none⟩) hx1).trans hHeld.2.2.2⟩
 have I1:=Ints_new W0.drew [x,y] 3 rfl
 refine anyH_val (w':=W0.drew.alloc (.cells #[.int .i64 x,.int .i64 y] 3)) (v:=.slice (some ⟨W0.drew.heap.size,0,none⟩) 2 2) (i:=10) (some 15) rfl rfl (by kernel_rfl) (by rfl) (by go_simp) hS1 ?_
 try simp only [Act.put,List.setIfInBounds_toArray,List.set_cons_zero,List.set_cons_succ]
 refine anyH_callR (R:=fun W'=>W0.drew.alloc (.cells #[.int .i64 x,.int .i64 y] 3)=W') (i:=11) (some 16) rfl rfl (by kernel_rfl) (by rfl) (by go_simp) ((or2_any _ 2 x y _ I1).mono (R':=fun e w'=>e=.returned (.int .i64 (orI x y))∧_∧W0.drew.alloc (.cells #[.int .i64 x,.int .i64 y] 3)=w') (fun e w' ⟨he,hw⟩=>⟨he,by subst hw;exact hS1,hw⟩)) (fun w6 hS6 hR6=>?_)
 subst hR6
 try simp only [Act.put,List.setIfInBounds_toArray,List.set_cons_zero,List.set_cons_succ]
 refine tK 12 4 ?_
 refine wpAnyH_done (by kernel_rfl) ?_ _
 go_wp2_with fail
 go_ret
 exact ⟨ret_int CM.out,B0.trans (B1.mono B0.size)⟩
def keyV2 (x:Int × ByteArray):Value:=.agg #[.int .i64 x.1,.string x.2]
theorem results_mkey (tmps:Array Value) (w:World) {b:Nat} {z0:Int} {s1:ByteArray} (ha:tmps.getD 2 undef=.pointer (some ⟨b,0,none⟩))
  (c0:w.cell? ⟨b,0,none⟩=some (.int .i64 z0)) (c1:w.cell? ⟨b,1,none⟩=some (.string s1)) :
  (results Tryz.f178 tmps).run Tryz.prog w=.ok (.agg #[.int .i64 z0,.string s1]) w:=by
 have hr:Tryz.f178.results=#[.cell 2 226]:=rfl
 unfold results
 rw [hr]
 simp only [ha,List.mapM_toArray,List.mapM_cons,List.mapM_nil,asAddr]
 go_simp
theorem mapKeyOf_any (a:Mp) (va:Value) (w:World) :
  Calls Tryz.prog 178 #[.agg #[.int .i64 a.frm,va,.string a.tag]] w (fun e w'=>e=.returned (keyV2 (keyM a))∧Below w.heap.size w w'):=by
 go_enter Tryz.func178,Tryz.ntmps178
 go_wp2_with fail
 (try simp only [Exit.inBlock,Exit.then]);refine bodyPost_ret (results_mkey _ _ (b:=w.heap.size+1) (z0:=a.frm) (s1:=a.tag) rfl (by go_simp) (by go_simp)) rfl ?_
 exact ⟨rfl,((Below.refl _ _).alloc (Nat.le_refl _) _).alloc (by simp) _⟩
theorem law_mkey:Keyed Tryz.prog 226:=Keyed.of_law (deep_law_laid (by kernel_rfl) (m:=2) (by omega) (of_decide_eq_true (by kernel_rfl)) (by kernel_rfl) (by kernel_rfl))
noncomputable def mlit (x:Int × ByteArray):Lit:=(keyOf Tryz.prog 226 (keyV2 x)).getD (.bool false)
def mok (x:Int × ByteArray):Prop:=(Lit.int .i64 x.1).wf=true∧x.2.size≤maxLen
theorem mkey_some {x:Int × ByteArray} (h:mok x):keyOf Tryz.prog 226 (keyV2 x)=some (mlit x):=by
 have h9:(keyOf Tryz.prog 226 (keyV2 x)).isSome=true:=by
  obtain ⟨f,t⟩:=x
  obtain ⟨h1,h2⟩:=h
  dsimp only at h1 h2
  have hk:Tryz.prog.keyType 226=true:=by kernel_rfl
  have hu:=Tryz.underlying226
  have hi:=Tryz.underlying3
  have hs:=Tryz.underlying9
  have hc2:Tryz.prog.cellsOf 226=2:=by kernel_rfl
  have hc1:Tryz.prog.cellsOf 3=1:=by kernel_rfl
  have hc3:Tryz.prog.cellsOf 9=1:=by kernel_rfl
  obtain ⟨m,hm⟩:∃m,Tryz.prog.types.size=m+1:=⟨Tryz.prog.types.size - 1,by kernel_rfl⟩
  unfold keyOf keyV2
  rw [hu]
  simp only [hk,hm,Value.formed,hu,hc2]
  unfold Program.keyLits
  rw [hu]
  simp only [hc2]
  simp [Program.keyLits,hi,hs,hc1,hc3,h1,h2,Value.cells]
 unfold mlit
 cases hk:keyOf Tryz.prog 226 (keyV2 x) with
 | none=>rw [hk] at h9;cases h9
 | some y=>rfl
theorem mlit_inj {x y:Int × ByteArray} (hx:mok x) (hy:mok y) (h:mlit x=mlit y):x=y:=by
 have a:=mkey_some hx
 have b:=mkey_some hy
 rw [h] at a
 have:=law_mkey.inj a b
 obtain ⟨x1,x2⟩:=x
 obtain ⟨y1,y2⟩:=y
 unfold keyV2 at this
 simp at this
 rw [this.1,this.2]
noncomputable instance (x:Int × ByteArray) (l:List (Int × ByteArray)):Decidable (x ∈ l):=Classical.propDecidable _
noncomputable def setM (l:List (Int × ByteArray)) (x:Int × ByteArray):Option Value:=if x ∈ l then some (.bool true) else none
theorem setM_yes {l:List (Int × ByteArray)} {s:Int × ByteArray} (h:s ∈ l):(setM l s).getD (.bool false)=.bool true:=by unfold setM;rw [if_pos h];rfl
theorem setM_no {l:List (Int × ByteArray)} {s:Int × ByteArray} (h:s ∉ l):(setM l s).getD (.bool false)=.bool false:=by unfold setM;rw [if_neg h];rfl
theorem setM_put (l:List (Int × ByteArray)) (s x:Int × ByteArray):setM (l++[s]) x=if x=s then some (.bool true) else setM l x:=by
 unfold setM
 by_cases e:x=s
 ·simp [e]
 ·simp [e]
theorem zero_boolM (w:World):(zeroValue 4).run Tryz.prog w=.ok (.bool false) w:=by kernel_rfl
end Go.Proofs.YtkhmjidaeliccaaGreatDoor
namespace Go.Proofs.YtkhmjidaeliccaaGreatDoor
open Go.RowKit Go.Maps Go.WideMaps
def clipOk (r:Rg):Prop:=0≤r.lo∧r.lo≤r.hi∧r.hi≤1114111
def rkey (r:Rg):Int:=r.lo*2097152+r.hi
def rv (x:Rg):Value:=.agg #[.int .i64 x.lo,.int .i64 x.hi]
def RetCmp (p:Prop) (w:World) (x:Ending) (w':World):Prop:=∃c:Int,x=.returned (.int .i64 c)∧(c < 0 ↔ p)∧Below w.heap.size w w'
theorem rkey_cmp {a b:Rg} (ha:clipOk a) (hb:clipOk b):orI (cmpI a.lo b.lo) (cmpI a.hi b.hi) < 0 ↔ rkey a < rkey b:=by
 unfold orI cmpI rkey
 unfold clipOk at ha hb
 by_cases h1:a.lo < b.lo
 ·simp [h1];omega
 ·by_cases h2:b.lo < a.lo
  ·simp [h1,h2];omega
  ·by_cases h3:a.hi < b.hi
   ·simp [h1,h2,h3];omega
   ·by_cases h4:b.hi < a.hi
    ·simp [h1,h2,h3,h4];omega
    ·simp [h1,h2,h3,h4];omega
theorem mkCmp_any (a b:Rg) (ha:clipOk a) (hb:clipOk b) (w:World) :
  Calls Tryz.prog 198 #[rv a,rv b] w (RetCmp (rkey a < rkey b) w):=by
 have B0:Below w.heap.size w ((w.alloc (.cells #[.int .i64 a.lo,.int .i64 a.hi] 179)).alloc (.cells #[.int .i64 b.lo,.int .i64 b.hi] 179)):=((Below.refl _ _).alloc (Nat.le_refl _) _).alloc (by simp) _
 have s0:((w.alloc (.cells #[.int .i64 a.lo,.int .i64 a.hi] 179)).alloc (.cells #[.int .i64 b.lo,.int .i64 b.hi] 179)).heap.size=w.heap.size+2:=by simp
 have hS0:(fun W':World=>W'.cell? ⟨w.heap.size,0,none⟩=some (.int .i64 a.lo)∧W'.cell? ⟨w.heap.size,1,none⟩=some (.int .i64 a.hi)∧W'.cell? ⟨w.heap.size+1,0,none⟩=some (.int .i64 b.lo)∧W'.cell? ⟨w.heap.size+1,1,none⟩=some (.int .i64 b.hi)) ((w.alloc (.cells #[.int .i64 a.lo,.int .i64 a.hi] 179)).alloc (.cells #[.int .i64 b.lo,.int .i64 b.hi] 179)):=by refine ⟨?_,?_,?_,?_⟩ <;> simp
 have W0E:∃W0,((w.alloc (.cells #[.int .i64 a.lo,.int .i64 a.hi] 179)).alloc (.cells #[.int .i64 b.lo,.int .i64 b.hi] 179))=W0:=⟨_,rfl⟩
 have CM:=Lib.hid (rkey_cmp ha hb)
 generalize (rkey a < rkey b)=R at *
 unfold rv
 obtain ⟨al,ah⟩:=a
 obtain ⟨bl',bh⟩:=b
 dsimp only at *
 clear ha hb
 go_enter Tryz.func198,Tryz.ntmps198
 go_wp2_with fail
 obtain ⟨W0,hW0⟩:=W0E
 rw [hW0] at B0 s0 hS0 ⊢
 clear hW0
 have hx0:w.heap.size < W0.heap.size:=by omega
 have hx1:w.heap.size+1 < W0.heap.size:=by omega
 refine wp_region_held_drew (S:=fun W'=>W'.cell? ⟨w.heap.size,0,none⟩=some (.int .i64 al)∧W'.cell? ⟨w.heap.size,1,none⟩=some (.int .i64 ah)∧W'.cell? ⟨w.heap.size+1,0,none⟩=some (.int .i64 bl')∧W'.cell? ⟨w.heap.size+1,1,none⟩=some (.int .i64 bh)) (by kernel_rfl) hS0 (fun hHeld=>?_)
 refine tK 0 5 ?_
 refine tK 1 6 ?_
 refine tK 2 7 ?_
 refine tK 3 8 ?_
 refine tK 5 10 ?_
 refine tK 6 11 ?_
 refine tK 7 12 ?_
 refine tK 8 13 ?_
 refine anyH_callR (R:=fun W'=>W0.drew=W') (i:=4) (some 9) rfl rfl (by kernel_rfl) (by rfl) (by go_simp) ((cmpCompare_any al bl' W0.drew).mono (R':=fun e w'=>e=.returned (.int .i64 (cmpI al bl'))∧_∧W0.drew=w') (fun e w' ⟨he,hw⟩=>⟨he,by subst hw;exact hHeld,hw⟩)) (fun w6 hS6 hR6=>?_)
 subst hR6
 clear hS6
 try simp only [Act.put,List.setIfInBounds_toArray,List.set_cons_zero,List.set_cons_succ]
 refine anyH_callR (R:=fun W'=>W0.drew=W') (i:=9) (some 14) rfl rfl (by kernel_rfl) (by rfl) (by go_simp) ((cmpCompare_any ah bh W0.drew).mono (R':=fun e w'=>e=.returned (.int .i64 (cmpI ah bh))∧_∧W0.drew=w') (fun e w' ⟨he,hw⟩=>⟨he,by subst hw;exact hHeld,hw⟩)) (fun w6 hS6 hR6=>?_)
 subst hR6
 clear hS6
 try simp only [Act.put,List.setIfInBounds_toArray,List.set_cons_zero,List.set_cons_succ]
 generalize cmpI al bl'=x at *
 generalize cmpI ah bh=y at *
 have B1:Below W0.heap.size W0 (W0.drew.alloc (.cells #[.int .i64 x,.int .i64 y] 3)):=((Below.refl _ _).drew).alloc (Nat.le_refl _) _
 have hS1:(fun W':World=>W'.cell? ⟨w.heap.size,0,none⟩=some (.int .i64 al)∧W'.cell? ⟨w.heap.size,1,none⟩=some (.int .i64 ah)∧W'.cell? ⟨w.heap.size+1,0,none⟩=some (.int .i64 bl')∧W'.cell? ⟨w.heap.size+1,1,none⟩=some (.int .i64 bh)) (W0.drew.alloc (.cells #[.int .i64 x,.int .i64 y] 3)):=⟨(B1.cell (p:=⟨w.heap.size,0,none⟩) hx0).trans hHeld.1,(B1.cell (p:=⟨w.heap.size,1,none⟩) hx0).trans hHeld.2.1,(B1.cell (p:=⟨w.heap.size+1,0,none⟩) hx1).trans hHeld.2.2.1,(B1.cell (p:=⟨w.heap.size+1,1,none⟩) hx1).trans hHeld.2.2.2⟩
 have I1:=Ints_new W0.drew [x,y] 3 rfl
 refine anyH_val (w':=W0.drew.alloc (.cells #[.int .i64 x,.int .i64 y] 3)) (v:=.slice (some ⟨W0.drew.heap.size,0,none⟩) 2 2) (i:=10) (some 15) rfl rfl (by kernel_rfl) (by rfl) (by go_simp) hS1 ?_
 try simp only [Act.put,List.setIfInBounds_toArray,List.set_cons_zero,List.set_cons_succ]
 refine anyH_callR (R:=fun W'=>W0.drew.alloc (.cells #[.int .i64 x,.int .i64 y] 3)=W') (i:=11) (some 16) rfl rfl (by kernel_rfl) (by rfl) (by go_simp) ((or2_any _ 2 x y _ I1).mono (R':=fun e w'=>e=.returned (.int .i64 (orI x y))∧_∧W0.drew.alloc (.cells #[.int .i64 x,.int .i64 y] 3)=w') (fun e w' ⟨he,hw⟩=>⟨he,by subst hw;exact hS1,hw⟩)) (fun w6 hS6 hR6=>?_)
 subst hR6
 try simp only [Act.put,List.setIfInBounds_toArray,List.set_cons_zero,List.set_cons_succ]
 refine tK 12 4 ?_
 refine wpAnyH_done (by kernel_rfl) ?_ _
 go_wp2_with fail
 go_ret
 exact ⟨_,rfl,CM.out,B0.trans (B1.mono B0.size)⟩
def RRow (w:World) (base g n c:Nat) (d:List Rg):Prop:=w.ownsRow base 179 2 (.slice (some ⟨g,0,none⟩) n c) n (flatK Rg.cells d)
section
variable {w w':World} {base g n c:Nat} {d:List Rg}
theorem RRow.len (h:RRow w base g n c d):d.length=n:=by
 have:=h.1
 rw [flatK_len Rg.cells 2 (fun _=>rfl)] at this
 omega
theorem RRow.cells (h:RRow w base g n c d) {i:Nat} {x:Rg} (hi:d[i]?=some x):w.cell? ⟨g,i*2,none⟩=some (.int .i64 x.lo)∧w.cell? ⟨g,i*2+1,none⟩=some (.int .i64 x.hi):=by
 obtain ⟨hl,rfl⟩:=List.getElem?_eq_some_iff.1 hi
 have hn:=h.len
 have key:∀j u,(Rg.cells d[i])[j]?=some u→j < 2→w.cell? ⟨g,i*2+j,none⟩=some u:=by
  intro j u hu hj
  rw [World.ownsRow.cellAt h (i*2+j) (by omega),flatK_get Rg.cells 2 (fun _=>rfl) d i j hl hj]
  exact hu
 exact ⟨key 0 _ rfl (by omega),key 1 _ rfl (by omega)⟩
theorem RRow.frozen (h:RRow w base g n c d) (i:Nat):w.frozen? ⟨g,i,none⟩=false:=World.ownsRow.frozenAt h i
theorem RRow.keep (h:RRow w base g n c d) (hb:Below w.heap.size w w'):RRow w' base g n c d:=own_keep h hb
theorem RRow.drew (h:RRow w base g n c d):RRow w.drew base g n c d:=h
theorem RRow.drewN (h:RRow w base g n c d) (k:Nat):RRow (w.drewN k) base g n c d:=h
end
theorem flatR_set (d:List Rg) (i:Nat) (x:Rg) (hi:i < d.length):((flatK Rg.cells d).set (i*2) (.int .i64 x.lo)).set (i*2+1) (.int .i64 x.hi)=flatK Rg.cells (d.set i x):=by
 induction d generalizing i with
 | nil=>simp at hi
 | cons y r ih=>
  cases i with
  | zero=>simp [flatK,Rg.cells]
  | succ i=>
   have h1:=ih i (by simpa using hi)
   simp only [flatK,List.flatMap_cons,Rg.cells,List.cons_append,List.nil_append,List.set_cons_succ] at *
   rw [show (i+1)*2=i*2+1+1 by omega]
   simp only [List.set_cons_succ,h1]
theorem RRow.set {w:World} {base g n c:Nat} {d:List Rg} (h:RRow w base g n c d) {i:Nat} (hi:i < d.length) (x:Rg) :
  RRow ((w.setCell ⟨g,i*2,none⟩ (.int .i64 x.lo)).setCell ⟨g,i*2+1,none⟩ (.int .i64 x.hi)) base g n c (d.set i x)∧
  w.grownBy ((w.setCell ⟨g,i*2,none⟩ (.int .i64 x.lo)).setCell ⟨g,i*2+1,none⟩ (.int .i64 x.hi)) (some g):=by
 have s1:=World.ownsRow.stored h (i*2) (.int .i64 x.lo)
 have s2:=s1.1.stored (i*2+1) (.int .i64 x.hi)
 refine ⟨?_,?_⟩
 ·have h3:=s2.1
  rw [flatR_set d i x hi] at h3
  exact h3
 ·exact ⟨rfl,rfl,rfl,by simp,fun k hk hne=>(s2.2.block k (by simpa using hk) hne).trans (s1.2.block k hk hne)⟩
theorem grown_trans {a w c:World} {r:Option Nat} (h:a.grownBy w r) (g:w.grownBy c r):a.grownBy c r:=
 ⟨g.os.trans h.os,g.tape.trans h.tape,g.output.trans h.output,Nat.le_trans h.size g.size,fun k hk hne=>(g.block k (Nat.lt_of_lt_of_le hk h.size) hne).trans (h.block k hk hne)⟩
theorem grown_refl (w:World) (r:Option Nat):w.grownBy w r:=⟨rfl,rfl,rfl,Nat.le_refl _,fun _ _ _=>rfl⟩
theorem grown_below {a w w':World} {r:Option Nat} (h:a.grownBy w r) (g:Below w.heap.size w w'):a.grownBy w' r:=
 grown_trans h ⟨g.os,g.tape,g.output,g.size,fun k hk _=>g.block k hk⟩
theorem grown_drew {a w:World} {r:Option Nat} (h:a.grownBy w r):a.grownBy w.drew r:=grown_below h (below_of_drewN w 1)
theorem grown_drewN {a w:World} {r:Option Nat} (h:a.grownBy w r) (n:Nat):a.grownBy (w.drewN n) r:=grown_below h (below_of_drewN w n)
def RetR (R:List Rg→Prop) (base g n c:Nat) (w:World) (x:Ending) (w':World):Prop:=x=.returned (.tuple #[])∧∃d',R d'∧RRow w' base g n c d'∧w.grownBy w' (some g)
theorem St_memR {key:Rg→Int} {d d':List Rg} (h:Srt.St key d d') {x:Rg} (hx:x ∈ d'):x ∈ d:=by
 have h1:x ∈ d'.filter (fun y=>key y==key x):=List.mem_filter.2 ⟨hx,by simp⟩
 rw [h (key x)] at h1
 exact (List.mem_filter.1 h1).1
theorem St_memR' {key:Rg→Int} {d d':List Rg} (h:Srt.St key d d') {x:Rg} (hx:x ∈ d):x ∈ d':=by
 have h1:x ∈ d.filter (fun y=>key y==key x):=List.mem_filter.2 ⟨hx,by simp⟩
 rw [←h (key x)] at h1
 exact (List.mem_filter.1 h1).1
theorem get_of_ltR {d:List Rg} {i:Nat} (h:i < d.length):∃x,d[i]?=some x:=⟨d[i],List.getElem?_eq_getElem h⟩
theorem insertR_any (base g n c q:Nat) (d:List Rg) (w:World) (hR:RRow w base g n c d) (hq:q≤n) (hbig:n≤1048576) (hok:∀x ∈ d,clipOk x) :
  Calls Tryz.prog 211 #[.slice (some ⟨g,0,none⟩) n c,.int .i64 0,.int .i64 q,.func (.func 198) #[] #[]] w
   (RetR (fun d'=>Srt.Done rkey d d' 0 q) base g n c w):=by
 have hn:=hR.len
 subst hn
 have HOK:=Lib.hid hok;clear hok
 go_enter Tryz.func211,Tryz.ntmps211
 go_wp2
 go_loopw [8] (fun i wr=>∃(k:Nat) (d1:List Rg),1≤k∧(k≤q∨k=1)∧i=.int .i64 k∧Srt.Same d d1 0 q∧Srt.St rkey d d1∧Srt.SortedOn rkey d1 0 k∧RRow wr base g d.length c d1∧w.grownBy wr (some g)) (fun i _=>q - (intOf i).toNat)
 case atStart=>exact ⟨1,d,Nat.le_refl _,.inr rfl,rfl,Srt.Same.refl _ _ _,Srt.St.refl _,Srt.SortedOn.short (by omega),hR,grown_refl _ _⟩
 case round=>
  obtain ⟨k,d1,hk1,hk2,rfl,hsame,hst,hso,hR1,hg⟩:=hrel
  have HA:=Lib.hid hsame;have HT:=Lib.hid hst;have HO:=Lib.hid hso
  clear hsame hst hso
  by_cases hlt:k < q
  ·obtain ⟨wo,rfl⟩:∃wo:World,wo=wr:=⟨_,rfl⟩
   go_wp2
   go_loopw [9] (fun i wr=>∃(j:Nat) (d2:List Rg),j≤k∧i=.int .i64 j∧Srt.Same d d2 0 q∧Srt.St rkey d d2∧Srt.Ins rkey d2 0 k j∧RRow wr base g d.length c d2∧w.grownBy wr (some g)) (fun i _=>(intOf i).toNat)
   case atStart=>exact ⟨k,d1,Nat.le_refl _,rfl,HA.out,HT.out,Srt.Ins.start HO.out,hR1,hg⟩
   case round=>
    obtain ⟨j,d2,hj2,rfl,hsame,hst,hins,hR2,hg2⟩:=hrel
    have HA2:=Lib.hid hsame;have HT2:=Lib.hid hst;have HI:=Lib.hid hins
    clear hsame hst hins
    by_cases hpj:0 < j
    ·have hjn:j < d.length:=by omega
     obtain ⟨x,hx⟩:=get_of_ltR (d:=d2) (i:=j - 1) (by rw [HA2.out.1];omega)
     obtain ⟨y,hy⟩:=get_of_ltR (d:=d2) (i:=j) (by rw [HA2.out.1];omega)
     obtain ⟨x1,x2⟩:=hR2.cells hx
     obtain ⟨y1,y2⟩:=hR2.cells hy
     have HX:=Lib.hid hx;have HY:=Lib.hid hy
     have C:=Lib.hid (fun W=>mkCmp_any y x (HOK.out y (St_memR HT2.out (List.mem_of_getElem? hy))) (HOK.out x (St_memR HT2.out (List.mem_of_getElem? hx))) W)
     clear hx hy
     have i0:decide ((0:Int) < (j:Int))=true:=by simp;omega
     have i1:IntKind.i64.wrap ((j:Int) - 1)=(j:Int) - 1:=IntWalk.i64_in _ (by omega)
     have i2:(0:Int)≤(j:Int) - 1:=by omega
     have i2':(1:Int)≤(j:Int):=by omega
     have i2'':1≤j:=by omega
     have i3:((j:Int) - 1).toNat=j - 1:=by omega
     have i4:(j:Int) - 1 < (d.length:Int):=by omega
     have i5:(j:Int) < (d.length:Int):=by omega
     unfold rv at C
     go_wp2
     refine wp_region_still_tail 14 (by kernel_rfl) (by kernel_rfl) ?_
     simp only [List.take_succ_cons,List.take_zero,List.drop_succ_cons,List.drop_zero]
     change wpStill _ _ wr.drew _ _ _
     repeat still_step
     refine wpStill_nil ?_
     change wpList _ _ _ _ _ wr.drew
     go_wp2_with fail
     refine (C.out _).mono ?_
     rintro e w3 ⟨cc,rfl,hcc,hb3⟩
     have hR3:=(hR2.drew).keep hb3
     have hg3:=grown_below (grown_drew hg2) hb3
     obtain ⟨x1',x2'⟩:=hR3.cells HX.out
     obtain ⟨y1',y2'⟩:=hR3.cells HY.out
     have fr:=hR3.frozen
     clear hR2 hg2 hb3 x1 x2 y1 y2
     by_cases hkey:rkey y < rkey x
     ·have hneg:cc < 0:=hcc.2 hkey
      have HKEY:=Lib.hid hkey
      clear hcc hkey
      have hne:¬(j - 1=j):=by omega
      have HR3:=Lib.hid hR3
      clear hR3
      go_wp2
      go_region
      go_wp2_with fail
      go_roundw
      case rel=>
       have st1:=HR3.out.set (i:=j) (by rw [HA2.out.1];omega) x
       have st2:=st1.1.set (i:=j - 1) (by rw [List.length_set,HA2.out.1];omega) y
       refine ⟨j - 1,Srt.swp d2 (j - 1) j x y,by omega,by go_num,HA2.out.trans (Srt.swp_same HX.out HY.out (by omega) (by omega) (by omega) (by omega) (by omega)),HT2.out.trans ?_,?_,?_,?_⟩
       ·have:=Srt.swp_done (key:=rkey) (d:=d2) (j:=j - 1) HX.out (by rw [show j - 1+1=j by omega];exact HY.out) HKEY.out
        rw [show j - 1+1=j by omega] at this;exact this
       ·have:=Srt.Ins.step (key:=rkey) (d:=d2) (a:=0) (i:=k) (j:=j - 1) (x:=x) (y:=y) (by rw [show j - 1+1=j by omega];exact HI.out) (by omega) (by omega) HX.out (by rw [show j - 1+1=j by omega];exact HY.out) HKEY.out
        rw [show j - 1+1=j by omega] at this;exact this
       ·rw [Srt.swp,List.set_comm _ _ (by omega)]
        exact st2.1.drew
       ·exact grown_drew (grown_trans hg3 (grown_trans st1.2 st2.2))
      case measure=>simp [intOf];omega
     ·have hneg:¬cc < 0:=fun h=>hkey (hcc.1 h)
      clear hcc
      go_wp2
      go_roundw
      case rel=>
       refine ⟨k+1,d2,by omega,.inl (by omega),by go_num,HA2.out,HT2.out,HI.out.stop (by omega) hj2 (.inr ?_),hR3,hg3⟩
       rw [Srt.kf_some HX.out,Srt.kf_some HY.out];omega
      case measure=>simp [intOf];omega
    ·have i0:decide ((0:Int) < (j:Int))=false:=by simp;omega
     go_wp2
     go_quiet (fail)
     go_wp2
     go_roundw
     case rel=>exact ⟨k+1,d2,by omega,.inl (by omega),by go_num,HA2.out,HT2.out,HI.out.stop (by omega) hj2 (.inl (by omega)),hR2.drewN _,grown_drewN hg2 _⟩
     case measure=>simp [intOf];omega
  ·go_wp2
   go_end0
   refine ⟨rfl,d1,⟨HA.out,HT.out,?_⟩,hR1,hg⟩
   by_cases hkq:q≤k
   ·exact HO.out.sub (Nat.le_refl _) hkq
   ·omega
theorem pdqR_any (base g n c:Nat) (z:Int) (d:List Rg) (w:World) (hR:RRow w base g n c d) (hbig:n≤12) (hok:∀x ∈ d,clipOk x) :
  Calls Tryz.prog 207 #[.slice (some ⟨g,0,none⟩) n c,.int .i64 0,.int .i64 n,.int .i64 z,.func (.func 198) #[] #[]] w
   (RetR (fun d'=>Srt.Done rkey d d' 0 n) base g n c w):=by
 have C:=Lib.hid (insertR_any base g n c n d w hR (Nat.le_refl _) (by omega) hok)
 clear hR hok
 have q1:decide ((n:Int)≤12)=true:=by simp;omega
 have q2:decide (n≤12)=true:=by simp;omega
 go_enter Tryz.func207,Tryz.ntmps207
 go_wp2_with fail
 refine wp_loop_rounds 1 ?_
 rw [rounds_succ]
 go_wp2_with fail
 refine C.out.mono ?_
 rintro e w1 ⟨rfl,d1,hD,hR1,hg1⟩
 have HD:=Lib.hid (And.intro hD (And.intro hR1 hg1))
 clear hD hR1 hg1
 go_wp2_with fail
 go_end0
 exact ⟨rfl,d1,HD.out.1,HD.out.2.1,HD.out.2.2⟩
end Go.Proofs.YtkhmjidaeliccaaGreatDoor
