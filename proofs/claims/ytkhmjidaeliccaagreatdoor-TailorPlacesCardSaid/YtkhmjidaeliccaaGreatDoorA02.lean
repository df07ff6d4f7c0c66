/- Texts that are merged into one file: DfsPlain, Quiet, Cmp, HeldSkip, Maps, Box. -/
import Derived.Test.YtkhmjidaeliccaaGreatDoorA01
import Derived.WalkKit
import Derived.Deep.QuietTactic
import Derived.BigQuiet
import Derived.Test.YtkhmjidaeliccaaGreatDoorProg
import Derived.Outline
import Derived.Deep.RegionHeld3
import Derived.Maps.OwnSet
import Derived.Maps.OwnOps
set_option maxRecDepth 100000
set_option maxHeartbeats 51200000
namespace Go.Proofs.YtkhmjidaeliccaaGreatDoor
section
variable (on:Int→Option (List Int)) (cap:Int)
def capSum (vs:List Int):Int:=vs.foldl (fun s v=>min (s+v) cap) 0
theorem capSum_snoc (vs:List Int) (v:Int):capSum cap (vs++[v])=min (capSum cap vs+v) cap:=by simp [capSum,List.foldl_append]
inductive Sz:Int→Int→Prop
 | leaf {c:Int}:on c=none∨on c=some []→Sz c 1
 | node {c:Int} {to vs:List Int}:on c=some to→to≠[]→vs.length=to.length→(∀i,(hi:i < to.length)→(hv:i < vs.length)→Sz to[i] vs[i])→Sz c (capSum cap vs)
def Edge (c d:Int):Prop:=∃to,on c=some to∧d ∈ to
inductive Path:Int→Int→Prop
 | one {c d:Int}:Edge on c d→Path c d
 | more {c d e:Int}:Path c d→Edge on d e→Path c e
end
section
variable {on:Int→Option (List Int)} {cap:Int}
theorem Path.front {c d e:Int} (h:Edge on c d) (p:Path on d e):Path on c e:=by
 induction p with
 | one h2=>exact .more (.one h) h2
 | more _ h2 ih=>exact .more ih h2
theorem Path.head {c e:Int} (p:Path on c e):Edge on c e∨∃d,Edge on c d∧Path on d e:=by
 induction p with
 | one h=>exact .inl h
 | more p h ih=>
  rcases ih with h1 | ⟨x,h1,h2⟩
  ·exact .inr ⟨_,h1,.one h⟩
  ·exact .inr ⟨x,h1,.more h2 h⟩
theorem Sz.func {c v:Int} (h:Sz on cap c v):∀{v'},Sz on cap c v'→v=v':=by
 induction h with
 | leaf h=>
  intro v' h'
  cases h' with
  | leaf _=>rfl
  | node h1 h2 _ _=>
   rcases h with h | h
   ·rw [h] at h1;cases h1
   ·rw [h] at h1;injection h1 with h1;exact absurd h1.symm h2
 | node h1 h2 h3 _ ih=>
  intro v' h'
  cases h' with
  | leaf h=>
   rcases h with h | h
   ·rw [h] at h1;cases h1
   ·rw [h] at h1;injection h1 with h1;exact absurd h1.symm h2
  | @node _ to vs' g1 g2 g3 g4=>
   rw [h1] at g1
   injection g1 with g1
   subst g1
   congr 1
   refine List.ext_getElem (by omega) fun i hi hi'=>?_
   exact ih i (by omega) hi (g4 i (by omega) hi')
theorem Sz.succ {c d v:Int} (h:Sz on cap c v) (e:Edge on c d):∃u,Sz on cap d u:=by
 obtain ⟨to,h1,h2⟩:=e
 cases h with
 | leaf h=>
  rcases h with h | h
  ·rw [h] at h1;cases h1
  ·rw [h] at h1;injection h1 with h1;subst h1;cases h2
 | @node _ to' vs g1 g2 g3 g4=>
  rw [h1] at g1
  injection g1 with g1
  subst g1
  obtain ⟨i,hi,rfl⟩:=List.getElem_of_mem h2
  exact ⟨_,g4 i hi (by omega)⟩
theorem Sz.noway {c v:Int} (h:Sz on cap c v):¬Path on c c:=by
 have key:∀{c v:Int},Sz on cap c v→∀d,Path on c d→¬Path on d c:=by
  intro c v h
  induction h with
  | leaf h=>
   intro d p _
   rcases p.head with ⟨to,h1,h2⟩ | ⟨x,⟨to,h1,h2⟩,_⟩
   all_goals
    rcases h with h | h
    ·rw [h] at h1;cases h1
    ·rw [h] at h1;injection h1 with h1;subst h1;cases h2
  | @node c to vs h1 h2 h3 _ ih=>
   intro d p q
   have step:∀x,Edge on c x→∀y,Path on x y→¬Path on y x:=fun x ⟨to',g1,g2⟩ y=>by
    rw [h1] at g1
    injection g1 with g1
    subst g1
    obtain ⟨i,hi,rfl⟩:=List.getElem_of_mem g2
    exact ih i hi (by omega) y
   rcases p.head with e | ⟨x,e,p2⟩
   ·rcases q.head with e2 | ⟨y,e2,q2⟩
    ·exact step d e c (.one e2) (.one e)
    ·exact step d e c q (.one e)
   ·have q3:Path on d x:=by
     rcases q.head with e2 | ⟨y,e2,q2⟩
     ·exact .front e2 (.one e)
     ·exact .more q e
    exact step x e d p2 q3
 exact fun p=>key h c p p
theorem capSum_pos {vs:List Int} (hc:1≤cap) (h:∀v ∈ vs,1≤v) (hne:vs≠[]):1≤capSum cap vs∧capSum cap vs≤cap:=by
 have:∀(l:List Int) (s:Int),(∀v ∈ l,1≤v)→0≤s→s≤cap→(l≠[]∨1≤s)→1≤l.foldl (fun s v=>min (s+v) cap) s∧l.foldl (fun s v=>min (s+v) cap) s≤cap:=by
  intro l
  induction l with
  | nil=>intro s _ h0 h1 h2;rcases h2 with h2 | h2;exact absurd rfl h2;exact ⟨h2,h1⟩
  | cons x l ih=>
   intro s hl h0 h1 _
   have hx:=hl x (by simp)
   exact ih _ (fun v hv=>hl v (by simp [hv])) (by dsimp only;omega) (by dsimp only;omega) (.inr (by dsimp only;omega))
 exact this vs 0 h (by omega) (by omega) (.inl hne)
theorem Sz.bd {c v:Int} (hc:1≤cap) (h:Sz on cap c v):1≤v∧v≤cap:=by
 induction h with
 | leaf _=>exact ⟨by omega,hc⟩
 | node h1 h2 h3 _ ih=>
  refine capSum_pos hc (fun v hv=>?_) (by rintro rfl;simp at h3;exact h2 (List.eq_nil_of_length_eq_zero h3.symm))
  obtain ⟨i,hi,rfl⟩:=List.getElem_of_mem hv
  exact (ih i (by omega) hi).1
end
section
variable (n:Nat) (frm:Nat→Int) (to:Nat→List Int) (fnd:Int→Option Nat) (dl:Int→Int) (cap:Int)
def endE (T:List Bool) (i:Nat):Bool:=(to i).all (fun e=>match fnd e with | none=>true | some m=>T.getD m false)
def endStep (T:List Bool) (i:Nat):List Bool:=T.set i (endE to fnd T i)
def lenE (L:List Int) (e:Int):Int:=match fnd e with | none=>dl e | some m=>L.getD m 0
def lenV (L:List Int) (i:Nat):Int:=min (max ((to i).map (lenE fnd dl L)).sum 1) cap
def lenStep (skip:Nat→Bool) (L:List Int) (i:Nat):List Int:=L.set i (if skip i=true then 1 else lenV to fnd dl cap L i)
end
section
variable {n:Nat} {frm:Nat→Int} {to:Nat→List Int} {fnd fnd':Int→Option Nat} {dl:Int→Int} {cap:Int} {on on':Int→Option (List Int)} {skip:Nat→Bool}
theorem capSum_eq {vs:List Int} (h:∀v ∈ vs,0≤v) (hc:0≤cap):capSum cap vs=min vs.sum cap:=by
 have:∀(l:List Int) (s:Int),(∀v ∈ l,0≤v)→0≤s→s≤cap→l.foldl (fun s v=>min (s+v) cap) s=min (s+l.sum) cap:=by
  intro l
  induction l with
  | nil=>intro s _ _ h;simp;omega
  | cons x l ih=>
   intro s hl h0 h1
   have hx:=hl x (by simp)
   have hp:0≤l.sum:=by
    clear ih
    have hl':∀v ∈ l,0≤v:=fun v hv=>hl v (by simp [hv])
    clear hl
    induction l with
    | nil=>simp
    | cons y l ih=>rw [List.sum_cons];have:=hl' y (by simp);have:=ih (fun v hv=>hl' v (by simp [hv]));omega
   rw [List.foldl_cons,ih _ (fun v hv=>hl v (by simp [hv])) (by omega) (by omega),List.sum_cons]
   omega
 have:=this vs 0 h (by omega) hc
 simpa [capSum] using this
theorem sum_nonneg {l:List Int} (h:∀v ∈ l,0≤v):0≤l.sum:=by
 induction l with
 | nil=>simp
 | cons y l ih=>rw [List.sum_cons];have:=h y (by simp);have:=ih (fun v hv=>h v (by simp [hv]));omega
theorem sum_pos {l:List Int} (h:∀v ∈ l,1≤v) (hne:l≠[]):1≤l.sum:=by
 cases l with
 | nil=>exact absurd rfl hne
 | cons y l=>rw [List.sum_cons];have:=h y (by simp);have:=sum_nonneg (l:=l) (fun v hv=>by have:=h v (by simp [hv]);omega);omega
structure Maps1 (n:Nat) (frm:Nat→Int) (to:Nat→List Int) (fnd:Int→Option Nat) (dl:Int→Int) (cap:Int) (on:Int→Option (List Int)) (skip:Nat→Bool):Prop where
 cap1:1≤cap
 at_:∀i,i < n→skip i=false→on (frm i)=some (to i)
 sk:∀i,i < n→skip i=true→on (frm i)=none
 fd:∀e m,fnd e=some m→m < n∧frm m=e
 no:∀e,fnd e=none→Sz on cap e (dl e)
theorem rounds_sound (M:Maps1 n frm to fnd dl cap on skip) (hsub:∀e m,fnd e=some m→fnd' e=some m) (s:List Nat) (hs:∀i ∈ s,i < n) :
  ∀i,i < n→(s.foldl (endStep to fnd') (List.replicate n false)).getD i false=true→∃v,Sz on cap (frm i) v∧(s.foldl (lenStep to fnd dl cap skip) (List.replicate n 0)).getD i 0=v:=by
 have hlenE:∀s:List Nat,(s.foldl (endStep to fnd') (List.replicate n false)).length=n:=by
  intro s
  have:∀(s:List Nat) (T:List Bool),T.length=n→(s.foldl (endStep to fnd') T).length=n:=by
   intro s
   induction s with
   | nil=>intro T h;exact h
   | cons x s ih=>intro T h;exact ih _ (by simp [endStep,h])
  exact this s _ (by simp)
 have hlenL:∀s:List Nat,(s.foldl (lenStep to fnd dl cap skip) (List.replicate n 0)).length=n:=by
  intro s
  have:∀(s:List Nat) (T:List Int),T.length=n→(s.foldl (lenStep to fnd dl cap skip) T).length=n:=by
   intro s
   induction s with
   | nil=>intro T h;exact h
   | cons x s ih=>intro T h;exact ih _ (by simp [lenStep,h])
  exact this s _ (by simp)
 have key:∀k (s:List Nat),s.length=k→(∀i ∈ s,i < n)→∀i,i < n→(s.foldl (endStep to fnd') (List.replicate n false)).getD i false=true→∃v,Sz on cap (frm i) v∧(s.foldl (lenStep to fnd dl cap skip) (List.replicate n 0)).getD i 0=v:=by
  intro k
  induction k with
  | zero=>
   intro s hk _ i hi h
   have:s=[]:=List.eq_nil_of_length_eq_zero hk
   subst this
   simp [List.getD,hi] at h
  | succ k ih=>
   intro s hk hs i hi h
   obtain ⟨s',x,rfl⟩:∃s' x,s=s'++[x]:=⟨s.dropLast,s.getLast (by rintro rfl;simp at hk),(List.dropLast_concat_getLast _).symm⟩
   have hs':∀i ∈ s',i < n:=fun j hj=>hs j (by simp [hj])
   have hx:x < n:=hs x (by simp)
   have IH:=ih s' (by simpa using hk) hs'
   rw [List.foldl_append] at h ⊢
   simp only [List.foldl_cons,List.foldl_nil] at h ⊢
   have l1:=hlenE s'
   have l2:=hlenL s'
   generalize s'.foldl (endStep to fnd') (List.replicate n false)=T at *
   generalize s'.foldl (lenStep to fnd dl cap skip) (List.replicate n 0)=L at *
   by_cases e:x=i
   ·subst e
    have hT:endE to fnd' T x=true:=by
     simpa [endStep,List.getD,l1,hi] using h
    have hL:(lenStep to fnd dl cap skip L x).getD x 0=if skip x=true then 1 else lenV to fnd dl cap L x:=by
     simp [lenStep,List.getD,l2,hi]
    rw [hL]
    cases hsk:skip x with
    | true=>exact ⟨1,.leaf (.inl (M.sk x hi hsk)),by simp⟩
    | false=>
     simp only [Bool.false_eq_true,if_false]
     have hch:∀e ∈ to x,Sz on cap e (lenE fnd dl L e):=fun e he=>by
      unfold lenE
      cases hf:fnd e with
      | none=>exact M.no e hf
      | some m=>
       obtain ⟨hm,hfm⟩:=M.fd e m hf
       have:=List.all_eq_true.1 hT e he
       rw [hsub e m hf] at this
       obtain ⟨v,h1,h2⟩:=IH m hm this
       rw [hfm] at h1
       rw [←h2] at h1
       exact h1
     by_cases hto:to x=[]
     ·refine ⟨1,.leaf (.inr (by rw [M.at_ x hi hsk,hto])),?_⟩
      unfold lenV
      rw [hto]
      have:=M.cap1
      simp
      omega
     ·refine ⟨capSum cap ((to x).map (lenE fnd dl L)),.node (M.at_ x hi hsk) hto (by simp) (fun j hj hv=>?_),?_⟩
      ·simp only [List.getElem_map]
       exact hch _ (List.getElem_mem hj)
      ·have hpos:∀v ∈ (to x).map (lenE fnd dl L),1≤v:=fun v hv=>by
        obtain ⟨e,he,rfl⟩:=List.mem_map.1 hv
        exact ((hch e he).bd M.cap1).1
       have h1:=sum_pos hpos (by simpa using hto)
       rw [capSum_eq (fun v hv=>by have:=hpos v hv;omega) (by have:=M.cap1;omega)]
       unfold lenV
       rw [Int.max_eq_left h1]
   ·have hT:T.getD i false=true:=by
     simpa [endStep,List.getD,List.getElem?_set,e] using h
    obtain ⟨v,h1,h2⟩:=IH i hi hT
    refine ⟨v,h1,?_⟩
    rw [←h2]
    simp [lenStep,List.getD,e]
 exact key s.length s rfl hs
end
section
variable {n:Nat} {to:Nat→List Int} {fnd:Int→Option Nat}
def Closed (to:Nat→List Int) (fnd:Int→Option Nat) (T:List Bool):Prop:=∀i,T.getD i false=true→endE to fnd T i=true
def LeB (T T':List Bool):Prop:=T.length=T'.length∧∀i,T.getD i false=true→T'.getD i false=true
theorem LeB.refl (T:List Bool):LeB T T:=⟨rfl,fun _ h=>h⟩
theorem LeB.trans {a b c:List Bool} (h:LeB a b) (k:LeB b c):LeB a c:=⟨h.1.trans k.1,fun i hi=>k.2 i (h.2 i hi)⟩
theorem LeB.antisymm {a b:List Bool} (h:LeB a b) (k:LeB b a):a=b:=by
 refine List.ext_getElem h.1 fun i h1 h2=>?_
 have e1:a.getD i false=a[i]:=by simp [List.getD,List.getElem?_eq_getElem h1]
 have e2:b.getD i false=b[i]:=by simp [List.getD,List.getElem?_eq_getElem h2]
 have p:=h.2 i
 have q:=k.2 i
 rw [e1,e2] at p q
 cases ha:a[i] <;> cases hb:b[i] <;> simp_all
theorem endE_mono {T T':List Bool} (h:LeB T T') (i:Nat) (hi:endE to fnd T i=true):endE to fnd T' i=true:=by
 unfold endE at *
 rw [List.all_eq_true] at *
 intro e he
 have:=hi e he
 cases hf:fnd e with
 | none=>rfl
 | some m=>rw [hf] at this;exact h.2 m this
theorem getD_set {T:List Bool} {i j:Nat} {x:Bool} (hi:i < T.length):(T.set i x).getD j false=if i=j then x else T.getD j false:=by
 by_cases e:i=j
 ·subst e;simp [List.getD,hi]
 ·simp [List.getD,e]
theorem endStep_le {T:List Bool} (hc:Closed to fnd T) {i:Nat} (hi:i < T.length):LeB T (endStep to fnd T i)∧Closed to fnd (endStep to fnd T i):=by
 have hle:LeB T (endStep to fnd T i):=by
  refine ⟨by simp [endStep],fun j hj=>?_⟩
  unfold endStep
  rw [getD_set hi]
  split
  ·next e=>subst e;exact hc i hj
  ·exact hj
 refine ⟨hle,fun j hj=>endE_mono hle j ?_⟩
 unfold endStep at hj
 rw [getD_set hi] at hj
 split at hj
 ·next e=>subst e;exact hj
 ·exact hc j hj
theorem fold_le {s:List Nat}:∀{T:List Bool},Closed to fnd T→(∀i ∈ s,i < T.length)→LeB T (s.foldl (endStep to fnd) T)∧Closed to fnd (s.foldl (endStep to fnd) T):=by
 induction s with
 | nil=>intro T hc _;exact ⟨LeB.refl _,hc⟩
 | cons x s ih=>
  intro T hc hs
  obtain ⟨h1,h2⟩:=endStep_le hc (hs x (by simp))
  obtain ⟨h3,h4⟩:=ih h2 (fun i hi=>by rw [←h1.1];exact hs i (by simp [hi]))
  exact ⟨h1.trans h3,h4⟩
theorem fix_of_eq {T:List Bool} (hc:Closed to fnd T) (hl:T.length=n) (he:(List.range n).foldl (endStep to fnd) T=T) {i:Nat} (hi:i < n):T.getD i false=endE to fnd T i:=by
 have hsp:List.range n=List.range i++i::(List.range n).drop (i+1):=by
  have h1:(List.range n).take i=List.range i:=by rw [List.take_range];congr 1;omega
  have h2:(List.range n).drop i=i::(List.range n).drop (i+1):=by
   rw [List.drop_eq_getElem_cons (by simpa using hi)]
   simp
  rw [←h1,←h2,List.take_append_drop]
 have hlt:∀j ∈ List.range n,j < T.length:=fun j hj=>by rw [hl];exact List.mem_range.1 hj
 rw [hsp,List.foldl_append,List.foldl_cons] at he
 obtain ⟨a1,a2⟩:=fold_le (s:=List.range i) hc (fun j hj=>by rw [hl];have:=List.mem_range.1 hj;omega)
 have hi1:i < ((List.range i).foldl (endStep to fnd) T).length:=by rw [←a1.1,hl];exact hi
 obtain ⟨b1,b2⟩:=endStep_le a2 hi1
 obtain ⟨c1,c2⟩:=fold_le (s:=(List.range n).drop (i+1)) b2 (fun j hj=>by rw [←b1.1,←a1.1];exact hlt j (List.mem_of_mem_drop hj))
 rw [he] at c1
 have e1:(List.range i).foldl (endStep to fnd) T=T:=LeB.antisymm (b1.trans c1) a1
 rw [e1] at b1 c1 hi1
 have e2:endStep to fnd T i=T:=LeB.antisymm c1 b1
 have:=congrArg (fun l:List Bool=>l.getD i false) e2
 unfold endStep at this
 rw [getD_set hi1,if_pos rfl] at this
 exact this.symm
theorem count_lt {T T':List Bool} (h:LeB T T') (hne:¬T=T'):T.count true < T'.count true:=by
 induction T generalizing T' with
 | nil=>
  have:=h.1
  cases T' with
  | nil=>exact absurd rfl hne
  | cons _ _=>simp at this
 | cons x T ih=>
  cases T' with
  | nil=>have:=h.1;simp at this
  | cons y T'=>
   have hl:LeB T T':=⟨by have:=h.1;simpa using this,fun i hi=>by have:=h.2 (i+1);simpa [List.getD] using this (by simpa [List.getD] using hi)⟩
   have h0:=h.2 0
   simp only [List.getD,List.getElem?_cons_zero,Option.getD_some] at h0
   have hcle:T.count true≤T'.count true:=by
    by_cases e:T=T'
    ·rw [e];exact Nat.le_refl _
    ·exact Nat.le_of_lt (ih hl e)
   rw [List.count_cons,List.count_cons]
   cases x with
   | true=>
    rw [h0 rfl]
    have hne':¬T=T':=fun e=>hne (by rw [e,h0 rfl])
    have:=ih hl hne'
    simp
    omega
   | false=>
    cases y with
    | true=>simp;omega
    | false=>
     have hne':¬T=T':=fun e=>hne (by rw [e])
     have:=ih hl hne'
     simp
     omega
def rnds (n:Nat) (to:Nat→List Int) (fnd:Int→Option Nat):Nat→List Bool
 | 0=>List.replicate n false
 | r+1=>(List.range n).foldl (endStep to fnd) (rnds n to fnd r)
theorem rnds_ok (n:Nat) (to:Nat→List Int) (fnd:Int→Option Nat) (r:Nat):(rnds n to fnd r).length=n∧Closed to fnd (rnds n to fnd r):=by
 induction r with
 | zero=>exact ⟨by simp [rnds],fun i hi=>by
   by_cases h:i < n
   ·simp [rnds,List.getD,h] at hi
   ·simp [rnds,List.getD,h] at hi⟩
 | succ r ih=>
  obtain ⟨h1,h2⟩:=fold_le (s:=List.range n) ih.2 (fun j hj=>by rw [ih.1];exact List.mem_range.1 hj)
  exact ⟨h1.1.symm.trans ih.1,h2⟩
theorem rnds_fix (n:Nat) (to:Nat→List Int) (fnd:Int→Option Nat):(List.range n).foldl (endStep to fnd) (rnds n to fnd n)=rnds n to fnd n:=by
 have key:∀r,(List.range n).foldl (endStep to fnd) (rnds n to fnd r)=rnds n to fnd r∨r≤(rnds n to fnd r).count true:=by
  intro r
  induction r with
  | zero=>exact .inr (Nat.zero_le _)
  | succ r ih=>
   rcases ih with ih | ih
   ·left
    show (List.range n).foldl (endStep to fnd) ((List.range n).foldl (endStep to fnd) (rnds n to fnd r))=(List.range n).foldl (endStep to fnd) (rnds n to fnd r)
    rw [ih,ih]
   ·obtain ⟨l1,c1⟩:=rnds_ok n to fnd r
    obtain ⟨h1,_⟩:=fold_le (s:=List.range n) c1 (fun j hj=>by rw [l1];exact List.mem_range.1 hj)
    by_cases e:rnds n to fnd r=(List.range n).foldl (endStep to fnd) (rnds n to fnd r)
    ·left
     show (List.range n).foldl (endStep to fnd) ((List.range n).foldl (endStep to fnd) (rnds n to fnd r))=(List.range n).foldl (endStep to fnd) (rnds n to fnd r)
     rw [←e,←e]
    ·right
     have:=count_lt h1 e
     show r+1≤((List.range n).foldl (endStep to fnd) (rnds n to fnd r)).count true
     omega
 rcases key n with h | h
 ·exact h
 ·obtain ⟨l1,c1⟩:=rnds_ok n to fnd n
  obtain ⟨h1,_⟩:=fold_le (s:=List.range n) c1 (fun j hj=>by rw [l1];exact List.mem_range.1 hj)
  by_cases e:rnds n to fnd n=(List.range n).foldl (endStep to fnd) (rnds n to fnd n)
  ·exact e.symm
  ·have h2:=count_lt h1 e
   have h3:=List.count_le_length (a:=true) (l:=(List.range n).foldl (endStep to fnd) (rnds n to fnd n))
   rw [←h1.1,l1] at h3
   omega
theorem rnds_all {frm:Nat→Int} {on:Int→Option (List Int)} {cap:Int} (hat:∀i,i < n→on (frm i)=some (to i)) (hfd:∀e m,fnd e=some m→m < n∧frm m=e) (hall:∀i,i < n→∃v,Sz on cap (frm i) v) :
  ∀i,i < n→(rnds n to fnd n).getD i false=true:=by
 obtain ⟨l1,c1⟩:=rnds_ok n to fnd n
 have hfix:=fun i (hi:i < n)=>fix_of_eq c1 l1 (rnds_fix n to fnd) hi
 have key:∀{c v:Int},Sz on cap c v→∀i,i < n→frm i=c→(rnds n to fnd n).getD i false=true:=by
  intro c v h
  induction h with
  | leaf h=>
   intro i hi hc
   subst hc
   rw [hfix i hi]
   rcases h with h | h
   ·rw [hat i hi] at h;cases h
   ·rw [hat i hi] at h
    injection h with h
    unfold endE
    rw [h]
    rfl
  | @node c to' vs h1 h2 h3 h4 ih=>
   intro i hi hc
   subst hc
   rw [hat i hi] at h1
   injection h1 with h1
   rw [hfix i hi]
   unfold endE
   rw [List.all_eq_true]
   intro e he
   cases hf:fnd e with
   | none=>rfl
   | some m=>
    obtain ⟨hm,hfm⟩:=hfd e m hf
    rw [h1] at he
    obtain ⟨j,hj,rfl⟩:=List.getElem_of_mem he
    exact ih j hj (by omega) m hm hfm
 intro i hi
 obtain ⟨v,h⟩:=hall i hi
 exact key h i hi rfl
end
section
structure DInv (on:Int→Option (List Int)) (cap mx:Int) (mk:Int→Option Int) (cyc lng:Bool):Prop where
 bd:∀c k,mk c=some k→-1≤k∧k≤cap
 fin:cyc=false→∀c k,mk c=some k→k≠-1→Sz on cap c k
 cy:cyc=true→∃x,Path on x x
 lg1:lng=true→∃c k,mk c=some k∧mx < k
 lg2:∀c k,mk c=some k→mx < k→lng=true
 nd:∀c k,mk c=some k→∃to,on c=some to∧to≠[]
structure DExt (mk mk':Int→Option Int):Prop where
 old:∀c k,mk c=some k→mk' c=some k
 new:∀c,mk c=none→mk' c≠some (-1)
variable {on:Int→Option (List Int)} {cap mx:Int} {mk mk' mk'':Int→Option Int} {cyc lng cyc':Bool}
theorem DExt.refl (mk:Int→Option Int):DExt mk mk:=⟨fun _ _ h=>h,fun c h e=>by rw [h] at e;cases e⟩
theorem DExt.trans (h:DExt mk mk') (k:DExt mk' mk''):DExt mk mk'':=by
 refine ⟨fun c v e=>k.old c v (h.old c v e),fun c e e'=>?_⟩
 cases hm:mk' c with
 | none=>exact k.new c hm e'
 | some v=>
  have:=k.old c v hm
  rw [e'] at this
  injection this with this
  subst this
  exact h.new c e hm
def putM (mk:Int→Option Int) (c k:Int):Int→Option Int:=fun x=>if x=c then some k else mk x
theorem putM_same (mk:Int→Option Int) (c k:Int):putM mk c k c=some k:=by simp [putM]
theorem putM_other (mk:Int→Option Int) {c x:Int} (k:Int) (h:¬x=c):putM mk c k x=mk x:=by simp [putM,h]
theorem DInv.begin (h:DInv on cap mx mk cyc lng) {c:Int} {to:List Int} (hc:on c=some to) (ht:to≠[]) (hn:mk c=none) (hcap:1≤cap) (hmx:0≤mx):DInv on cap mx (putM mk c (-1)) cyc lng:=by
 refine ⟨fun x k hx=>?_,fun hf x k hx hk=>?_,h.cy,fun hl=>?_,fun x k hx hk=>?_,fun x k hx=>?_⟩
 ·by_cases e:x=c
  ·subst e;rw [putM_same] at hx;injection hx with hx;omega
  ·rw [putM_other mk _ e] at hx;exact h.bd x k hx
 ·by_cases e:x=c
  ·subst e;rw [putM_same] at hx;injection hx with hx;exact absurd hx.symm hk
  ·rw [putM_other mk _ e] at hx;exact h.fin hf x k hx hk
 ·obtain ⟨x,k,h1,h2⟩:=h.lg1 hl
  refine ⟨x,k,?_,h2⟩
  rw [putM_other mk _ (fun e=>by rw [e,hn] at h1;cases h1)]
  exact h1
 ·by_cases e:x=c
  ·subst e;rw [putM_same] at hx;injection hx with hx;omega
  ·rw [putM_other mk _ e] at hx;exact h.lg2 x k hx hk
 ·by_cases e:x=c
  ·subst e;exact ⟨to,hc,ht⟩
  ·rw [putM_other mk _ e] at hx;exact h.nd x k hx
theorem DInv.finish (h:DInv on cap mx mk cyc lng) {c s:Int} {to:List Int} (hc:on c=some to) (ht:to≠[]) (hm:mk c=some (-1)) (hs:1≤s∧s≤cap) (hz:cyc=false→Sz on cap c s) (hmx:0≤mx) :
  DInv on cap mx (putM mk c s) cyc (lng || decide (mx < s)):=by
 refine ⟨fun x k hx=>?_,fun hf x k hx hk=>?_,h.cy,fun hl=>?_,fun x k hx hk=>?_,fun x k hx=>?_⟩
 ·by_cases e:x=c
  ·subst e;rw [putM_same] at hx;injection hx with hx;omega
  ·rw [putM_other mk _ e] at hx;exact h.bd x k hx
 ·by_cases e:x=c
  ·subst e;rw [putM_same] at hx;injection hx with hx;subst hx;exact hz hf
  ·rw [putM_other mk _ e] at hx;exact h.fin hf x k hx hk
 ·rw [Bool.or_eq_true,decide_eq_true_eq] at hl
  rcases hl with hl | hl
  ·obtain ⟨x,k,h1,h2⟩:=h.lg1 hl
   refine ⟨x,k,?_,h2⟩
   rw [putM_other mk _ (fun e=>by rw [e,hm] at h1;injection h1 with h1;omega)]
   exact h1
  ·exact ⟨c,s,putM_same mk c s,hl⟩
 ·rw [Bool.or_eq_true,decide_eq_true_eq]
  by_cases e:x=c
  ·subst e;rw [putM_same] at hx;injection hx with hx;right;omega
  ·rw [putM_other mk _ e] at hx;exact .inl (h.lg2 x k hx hk)
 ·by_cases e:x=c
  ·subst e;exact ⟨to,hc,ht⟩
  ·rw [putM_other mk _ e] at hx;exact h.nd x k hx
theorem DInv.meet (h:DInv on cap mx mk cyc lng) {c k:Int} (hm:mk c=some k) (hp:mk c=some (-1)→Path on c c):DInv on cap mx mk (cyc || (k==-1)) lng:=by
 refine ⟨h.bd,fun hf=>h.fin (by simp at hf;exact hf.1),fun hc=>?_,h.lg1,h.lg2,h.nd⟩
 rw [Bool.or_eq_true] at hc
 rcases hc with hc | hc
 ·exact h.cy hc
 ·simp at hc;subst hc;exact ⟨c,hp hm⟩
def unmarked (fs:List Int) (mk:Int→Option Int):Nat:=(fs.filter (fun f=>(mk f).isNone)).length
theorem unmarked_le {fs:List Int} (h:∀c,mk' c=none→mk c=none):unmarked fs mk'≤unmarked fs mk:=by
 unfold unmarked
 induction fs with
 | nil=>simp
 | cons f fs ih=>
  rw [List.filter_cons,List.filter_cons]
  by_cases h1:mk' f=none
  ·rw [if_pos (by simp [h1]),if_pos (by simp [h f h1])];simpa using ih
  ·rw [if_neg (by simpa using h1)]
   split
   ·simp;omega
   ·exact ih
theorem DExt.unmarked (h:DExt mk mk') (fs:List Int):Go.Proofs.YtkhmjidaeliccaaGreatDoor.unmarked fs mk'≤Go.Proofs.YtkhmjidaeliccaaGreatDoor.unmarked fs mk:=unmarked_le fun c e=>by
 cases hm:mk c with
 | none=>rfl
 | some v=>rw [h.old c v hm] at e;cases e
theorem unmarked_put {fs:List Int} {c k:Int} (hf:c ∈ fs) (hn:mk c=none):unmarked fs (putM mk c k) < unmarked fs mk:=by
 have hle:∀l:List Int,unmarked l (putM mk c k)≤unmarked l mk:=fun l=>unmarked_le fun x e=>by
  by_cases e':x=c
  ·subst e';exact hn
  ·rw [putM_other mk _ e'] at e;exact e
 induction fs with
 | nil=>cases hf
 | cons f fs ih=>
  have h1:=hle fs
  unfold unmarked at *
  rw [List.filter_cons,List.filter_cons]
  by_cases e:f=c
  ·subst e
   rw [if_neg (by simp [putM_same]),if_pos (by simp [hn])]
   simp
   omega
  ·have hf':c ∈ fs:=by
    rcases List.mem_cons.1 hf with h | h
    ·exact absurd h.symm e
    ·exact h
   have:=ih hf'
   by_cases hm:mk f=none
   ·rw [if_pos (by simp [putM_other mk _ e,hm]),if_pos (by simp [hm])];simpa using this
   ·rw [if_neg (by simpa [putM_other mk _ e] using hm),if_neg (by simpa using hm)];exact this
end
end Go.Proofs.YtkhmjidaeliccaaGreatDoor
namespace Go.Proofs.YtkhmjidaeliccaaGreatDoor
open Go.RowKit
section
variable {P:Program} {f:FuncId} {args:Array Value} {w:World} {a n:Nat} {v:Value}
theorem quiet_add_left (h:Calls P f args (w.drewN (a+n)) fun e w'=>e=.returned v∧w.drewN (a+n)=w'):Calls P f args (w.drewN (a+n)) fun e w''=>e=.returned v∧∃m,w''=w.drewN (a+m):=
 h.mono fun _ _ ⟨he,hm⟩=>⟨he,n,hm.symm⟩
theorem quiet_qt (h:Calls P f args (w.drewN n) fun e w'=>e=.returned v∧Qt (w.drewN n) w'):Calls P f args (w.drewN n) fun e w''=>e=.returned v∧∃m,w''=w.drewN m:=
 h.mono fun _ _ ⟨he,q,hm⟩=>⟨he,n+q,by rw [hm,World.drewN_drewN]⟩
end
end Go.Proofs.YtkhmjidaeliccaaGreatDoor
namespace Go.Proofs.YtkhmjidaeliccaaGreatDoor
open Go.RowKit
def cmpI (x y:Int):Int:=if x < y then -1 else if y < x then 1 else 0
theorem isNaN_any (x:Int) (w:World):Calls Tryz.prog 168 #[.int .i64 x] w fun e w'=>e=.returned (.bool false)∧w=w':=by
 have h:(x != x)=false:=by simp
 go_enter Tryz.func168,Tryz.ntmps168
 go_wp2
 go_ret
 exact ⟨rfl,rfl⟩
theorem cmpCompare_any (x y:Int) (w:World):Calls Tryz.prog 124 #[.int .i64 x,.int .i64 y] w fun e w'=>e=.returned (.int .i64 (cmpI x y))∧w=w':=by
 unfold cmpI
 by_cases h1:x < y
 ·rw [if_pos h1]
  go_enter Tryz.func124,Tryz.ntmps124
  go_wp2_with (go_at_call 168;refine (isNaN_any _ _).mono ?_;rintro e w' ⟨rfl,rfl⟩)
  go_ret
  exact ⟨rfl,rfl⟩
 ·rw [if_neg h1]
  by_cases h2:y < x
  ·rw [if_pos h2]
   go_enter Tryz.func124,Tryz.ntmps124
   go_wp2_with (go_at_call 168;refine (isNaN_any _ _).mono ?_;rintro e w' ⟨rfl,rfl⟩)
   go_ret
   exact ⟨rfl,rfl⟩
  ·rw [if_neg h2]
   go_enter Tryz.func124,Tryz.ntmps124
   go_wp2_with (go_at_call 168;refine (isNaN_any _ _).mono ?_;rintro e w' ⟨rfl,rfl⟩)
   go_ret
   exact ⟨rfl,rfl⟩
theorem cmpI_len (xs ys:List Int) (k:Nat) (h:k=xs.length∨k=ys.length) (h1:k≤xs.length) (h2:k≤ys.length):cmpL (xs.drop k) (ys.drop k)=cmpI (xs.length:Int) (ys.length:Int):=by
 rw [cmpL_end xs ys k h h1 h2]
 unfold cmpI
 simp only [Int.ofNat_lt]
theorem cmpL_ne (xs ys:List Int) (k:Nat) (h1:k < xs.length) (h2:k < ys.length) (h:xs[k]≠ys[k]):cmpL (xs.drop k) (ys.drop k)=cmpI xs[k] ys[k]:=by
 rw [cmpL_drop xs ys k h1 h2]
 unfold cmpI
 split
 ·rfl
 ·split
  ·rfl
  ·omega
theorem cpCompare_any (A B:Option Addr) (n m c d:Nat) (xs ys:List Int) (w:World) (hA:Ints w A xs) (hB:Ints w B ys) (hn:xs.length=n) (hm:ys.length=m)
  (hn':n≤9223372036854775807) (hm':m≤9223372036854775807) :
  Calls Tryz.prog 70 #[.slice A n c,.slice B m d] w fun e w'=>e=.returned (.int .i64 (cmpL xs ys))∧Qt w w':=by
 subst hn hm
 go_enter Tryz.func70,Tryz.ntmps70
 go_wp2_with fail
 all_goals
  go_loopw [5,11] (fun _ i wr=>∃k:Nat,k≤xs.length∧k≤ys.length∧i=.int .i64 k∧Qt w wr∧cmpL xs ys=cmpL (xs.drop k) (ys.drop k)) (fun _ i _=>xs.length - (intOf i).toNat)
  case atStart=>exact ⟨0,Nat.zero_le _,Nat.zero_le _,rfl,Qt.refl _,rfl⟩
  case round=>
   obtain ⟨k,hk1,hk2,rfl,⟨q,rfl⟩,hcmp⟩:=hrel
   have HC:=Lib.hid hcmp;clear hcmp
   by_cases hlt:k < xs.length∧k < ys.length
   ·obtain ⟨h1,h2⟩:=hlt
    obtain ⟨b,o,rfl,hc⟩:=hA.at h1
    obtain ⟨b',o',rfl,hc'⟩:=hB.at h2
    have hx:=hc k h1
    have hy:=hc' k h2
    have HS:=Lib.hid (cmpL_drop xs ys k h1 h2)
    have HN:=Lib.hid (cmpL_ne xs ys k h1 h2)
    clear hc hc'
    generalize xs[k]=x at *
    generalize ys[k]=y at *
    by_cases hxy:x=y
    ·have hne:(x != y)=false:=by simpa using hxy
     have HXY:=Lib.hid hxy;clear hxy
     go_wp2
     go_quiet (fail)
     go_wp2
     go_roundw
     case rel=>exact ⟨k+1,by omega,by omega,by go_num,by repeat (first | exact Qt.refl _ | refine Qt.drewN ?_ _),by rw [HC.out,HS.out,if_neg (by have:=HXY.out;omega),if_neg (by have:=HXY.out;omega)]⟩
     case measure=>simp [intOf];omega
    ·have hne:(x != y)=true:=by simpa using hxy
     have HXY:=Lib.hid hxy;clear hxy
     go_wp2
     go_quiet (fail)
     go_wp2
     go_quiet ((go_at_call 124;exact quiet_add_left (cmpCompare_any _ _ _)))
     go_wp2
     go_ret
     exact ⟨ret_int (by rw [HC.out,HN.out HXY.out]),by repeat (first | exact Qt.refl _ | refine Qt.drewN ?_ _)⟩
   ·have HL:=Lib.hid (cmpI_len xs ys k (by omega) hk1 hk2)
    go_wp2_with fail
    refine (cmpCompare_any _ _ _).mono ?_
    rintro e w' ⟨rfl,rfl⟩
    go_wp2_with fail
    go_ret
    exact ⟨ret_int (by rw [HC.out,HL.out]),by repeat (first | exact Qt.refl _ | refine Qt.drewN ?_ _)⟩
end Go.Proofs.YtkhmjidaeliccaaGreatDoor
namespace Go.Proofs.YtkhmjidaeliccaaGreatDoor
section
variable {P:Program} {ops:Array Oper} {Q:Exit→Act→World→Prop} {md:Region.Mode} {S:World→Prop}
theorem anyH_take {i:Nat} {oi:Oper} {v:Value} {fuel:Nat} {listed:Array Bool} {a:Act} {w:World} (d:Option Tmp) (hi:ops[i]?=some oi) (hd:oi.dst=d)
  (hs:Region.noSelect ops=true) (hf:Region.free md ops listed i=true) (hr:(Region.ready md ops listed).contains i=true)
  (hQ:∀c a w,Q (.panic c) (a.put d v) w→Q (.panic c) a w) (hw:Region.wanted oi (yielded ops a.tmps)=true) (hS:S w) (hv:∀w,S w→(execOp a.eval oi).run P w=.ok (.value v) w)
  (h:wpAnyH P md ops Q S fuel (listed.setIfInBounds i true) (a.put d v) w):wpAnyH P md ops Q S (fuel+1) listed a w:=by
 subst hd
 exact wpAnyH_take hi hs hf hr hQ (Or.inl ⟨hw,hv⟩) hS h
theorem anyH_skip {i:Nat} {oi:Oper} {fuel:Nat} {listed:Array Bool} {a:Act} {w:World} (d:Option Tmp) (hi:ops[i]?=some oi) (hd:oi.dst=d)
  (hs:Region.noSelect ops=true) (hf:Region.free md ops listed i=true) (hr:(Region.ready md ops listed).contains i=true)
  (hQ:∀c a w,Q (.panic c) (a.put d undef) w→Q (.panic c) a w) (hw:Region.wanted oi (yielded ops a.tmps)=false) (hS:S w)
  (h:wpAnyH P md ops Q S fuel (listed.setIfInBounds i true) (a.put d undef) w):wpAnyH P md ops Q S (fuel+1) listed a w:=by
 subst hd
 exact wpAnyH_take hi hs hf hr hQ (Or.inr ⟨hw,rfl⟩) hS h
theorem anyH_call {i:Nat} {oi:Oper} {fuel:Nat} {listed:Array Bool} {a:Act} {w:World} (d:Option Tmp) {f:FuncId} {args:Array Value} {v:Value} (hi:ops[i]?=some oi) (hd:oi.dst=d)
  (hr:Region.ready md ops listed=[i]) (hw:Region.wanted oi (yielded ops a.tmps)=true) (he:(execOp a.eval oi).run P w=.ok (.enter f args) w)
  (hc:Calls P f args w (fun e w'=>e=.returned v∧S w'))
  (h:∀w',S w'→wpAnyH P md ops Q S fuel (listed.setIfInBounds i true) (a.put d v) w'):wpAnyH P md ops Q S (fuel+1) listed a w:=by
 subst hd
 refine wpAnyH_ready hr (by simp) (AllReadyH.cons hi (fun K hK=>?_) AllReadyH.nil)
 rw [if_pos hw]
 unfold Oper.wp
 rw [he]
 simp only [Oper.upon]
 refine hc.mono ?_
 rintro e w' ⟨rfl,hS'⟩
 exact hK.out _ _ hS' (fun hh=>h w' hh)
end
section
variable {P:Program} {ops:Array Oper} {Q:Exit→Act→World→Prop} {md:Region.Mode} {S:World→Prop}
theorem tK {v:Value} (i k:Nat) {oi:Oper} {fuel:Nat} {listed l':Array Bool} {a a':Act} {w:World}
  (h:wpAnyH P md ops Q S fuel l' a' w) (hi:ops[i]?=some oi:=by rfl) (hd:oi.dst=some k:=by rfl)
  (hs:Region.noSelect ops=true:=by kernel_rfl) (hf:Region.free md ops listed i=true:=by kernel_rfl) (hr:(Region.ready md ops listed).contains i=true:=by kernel_rfl)
  (hQ:∀c a w,Q (.panic c) (a.put (some k) v) w→Q (.panic c) a w:=by exact fun _ _ _ h=>h) (hw:Region.wanted oi (yielded ops a.tmps)=true:=by rfl) (hS:S w:=by assumption)
  (hv:∀w,S w→(execOp a.eval oi).run P w=.ok (.value v) w:=by intro w hSw;(try dsimp only at hSw);go_split_ands;go_simp;try (with_reducible rfl))
  (hl:listed.setIfInBounds i true=l':=by (try simp only [List.setIfInBounds_toArray,List.set_cons_zero,List.set_cons_succ]);first | done | rfl)
  (ha:a.put (some k) v=a':=by (try simp only [Act.put,List.setIfInBounds_toArray,List.set_cons_zero,List.set_cons_succ]);first | done | rfl):wpAnyH P md ops Q S (fuel+1) listed a w:=by
 subst hl;subst ha
 exact anyH_take (some k) hi hd hs hf hr hQ hw hS hv h
theorem sK (i k:Nat) {oi:Oper} {fuel:Nat} {listed l':Array Bool} {a a':Act} {w:World}
  (h:wpAnyH P md ops Q S fuel l' a' w) (hi:ops[i]?=some oi:=by rfl) (hd:oi.dst=some k:=by rfl)
  (hs:Region.noSelect ops=true:=by kernel_rfl) (hf:Region.free md ops listed i=true:=by kernel_rfl) (hr:(Region.ready md ops listed).contains i=true:=by kernel_rfl)
  (hQ:∀c a w,Q (.panic c) (a.put (some k) undef) w→Q (.panic c) a w:=by exact fun _ _ _ h=>h) (hw:Region.wanted oi (yielded ops a.tmps)=false:=by rfl) (hS:S w:=by assumption)
  (hl:listed.setIfInBounds i true=l':=by (try simp only [List.setIfInBounds_toArray,List.set_cons_zero,List.set_cons_succ]);first | done | rfl)
  (ha:a.put (some k) undef=a':=by (try simp only [Act.put,List.setIfInBounds_toArray,List.set_cons_zero,List.set_cons_succ]);first | done | rfl):wpAnyH P md ops Q S (fuel+1) listed a w:=by
 subst hl;subst ha
 exact anyH_skip (some k) hi hd hs hf hr hQ hw hS h
theorem tV (i k:Nat) (v:Value) {oi:Oper} {fuel:Nat} {listed:Array Bool} {a:Act} {w:World}
  (hv:∀w,S w→(execOp a.eval oi).run P w=.ok (.value v) w) (h:wpAnyH P md ops Q S fuel (listed.setIfInBounds i true) (a.put (some k) v) w) (hi:ops[i]?=some oi:=by rfl) (hd:oi.dst=some k:=by rfl)
  (hs:Region.noSelect ops=true:=by kernel_rfl) (hf:Region.free md ops listed i=true:=by kernel_rfl) (hr:(Region.ready md ops listed).contains i=true:=by kernel_rfl)
  (hQ:∀c a w,Q (.panic c) (a.put (some k) v) w→Q (.panic c) a w:=by exact fun _ _ _ h=>h) (hw:Region.wanted oi (yielded ops a.tmps)=true:=by rfl) (hS:S w:=by assumption):wpAnyH P md ops Q S (fuel+1) listed a w:=
 anyH_take (some k) hi hd hs hf hr hQ hw hS hv h
end
end Go.Proofs.YtkhmjidaeliccaaGreatDoor
namespace Go.Proofs.YtkhmjidaeliccaaGreatDoor
open Go.RowKit Go.Maps Go.WideMaps
def elemV (v:Value):Option (DataW Value × List MemPlace):=some (.held v,[])
def MapIs {κ:Type} (P:Program) (k:TypeId) (kl:κ→Lit) (ok:κ→Prop) (w:World) (b n:Nat) (f:κ→Option Value):Prop:=
 ∃D:DataW Value,w.ownsMap P k elemV b n D∧∀x,ok x→Maps.has D (kl x)=(f x).isSome∧∀z,D.atKey (kl x) (.held z)=.held ((f x).getD z)
section
variable {κ:Type} {P:Program} {k:TypeId} {kl:κ→Lit} {ok:κ→Prop} {w w':World} {b n:Nat} {f:κ→Option Value}
theorem MapIs.made (P:Program) (k:TypeId) (kl:κ→Lit) (ok:κ→Prop) (w:World):MapIs P k kl ok (w.alloc (.map #[] 0)) w.heap.size 0 (fun _=>none):=
 ⟨.map [],World.ownsMap_made w P k elemV,fun _ _=>⟨rfl,fun _=>rfl⟩⟩
theorem MapIs.lt (h:MapIs P k kl ok w b n f):b < w.heap.size:=h.elim fun _ h=>h.1.lt
theorem MapIs.kept {row:Option Nat} (h:MapIs P k kl ok w b n f) (hg:w.grownBy w' row) (hne:some b≠row):MapIs P k kl ok w' b n f:=by
 obtain ⟨D,h1,h2⟩:=h
 exact ⟨D,h1.kept hg hne,h2⟩
theorem MapIs.below (h:MapIs P k kl ok w b n f) (hb:Below w.heap.size w w'):MapIs P k kl ok w' b n f:=
 h.kept (row:=none) ⟨hb.os,hb.tape,hb.output,hb.size,fun k hk _=>hb.block k hk⟩ (by simp)
theorem MapIs.alloc (h:MapIs P k kl ok w b n f) (o:Obj):MapIs P k kl ok (w.alloc o) b n f:=h.below ((Below.refl _ _).alloc (Nat.le_refl _) _)
theorem MapIs.mono (h:MapIs P k kl ok w b n f) {m:Nat} (hm:n≤m):MapIs P k kl ok w b m f:=by
 obtain ⟨D,h1,h2⟩:=h
 exact ⟨D,h1.mono hm,h2⟩
theorem MapIs.ext (h:MapIs P k kl ok w b n f) {g:κ→Option Value} (hg:∀x,ok x→g x=f x):MapIs P k kl ok w b n g:=by
 obtain ⟨D,h1,h2⟩:=h
 exact ⟨D,h1,fun x hx=>by rw [hg x hx];exact h2 x hx⟩
theorem MapIs.look {t e:TypeId} (h:MapIs P k kl ok w b n f) (K:Keyed P k) (ht:P.underlying t=some (.map k e)) {z:Value} (hz:(zeroValue e).run P w=.ok z w) {key:Value} {x:κ} (hx:ok x) (hkey:keyOf P k key=some (kl x)) :
  (Instr.lookup t (.map (some b)) key false).run P w=.ok ((f x).getD z) w:=by
 obtain ⟨D,h1,h2⟩:=h
 obtain ⟨v,ps,hrun,hv⟩:=h1.lookup K ht hz (zd:=.held z) (zp:=[]) rfl hkey
 rw [(h2 x hx).2] at hv
 simp only [elemV,Option.some.injEq,Prod.mk.injEq,DataW.held.injEq] at hv
 rw [hrun,hv.1]
theorem MapIs.lookOk {t e:TypeId} (h:MapIs P k kl ok w b n f) (K:Keyed P k) (ht:P.underlying t=some (.map k e)) {z:Value} (hz:(zeroValue e).run P w=.ok z w) {key:Value} {x:κ} (hx:ok x) (hkey:keyOf P k key=some (kl x)) :
  (Instr.lookup t (.map (some b)) key true).run P w=.ok (.tuple #[(f x).getD z,.bool (f x).isSome]) w:=by
 obtain ⟨D,h1,h2⟩:=h
 obtain ⟨v,ps,hrun,hv⟩:=h1.look_ok K ht hz (zd:=.held z) (zp:=[]) rfl hkey
 rw [(h2 x hx).2] at hv
 simp only [elemV,Option.some.injEq,Prod.mk.injEq,DataW.held.injEq] at hv
 rw [hrun,hv.1,(h2 x hx).1]
theorem MapIs.put [DecidableEq κ] {t e:TypeId} (h:MapIs P k kl ok w b n f) (K:Keyed P k) (ht:P.underlying t=some (.map k e)) (hn:n < maxLen) {key v:Value} {x:κ} (hx:ok x) (hkey:keyOf P k key=some (kl x))
  (hinj:∀y,ok y→kl y=kl x→y=x) :
  ∃w',(Instr.mapUpdate t (.map (some b)) key v).run P w=.ok () w'∧MapIs P k kl ok w' b (n+1) (fun y=>if y=x then some v else f y)∧w.grownBy w' (some b):=by
 obtain ⟨D,h1,h2⟩:=h
 obtain ⟨w',hrun,r1,r2⟩:=h1.update K ht hn hkey (val:=v) (d:=.held v) (ps:=[]) rfl
 refine ⟨w',hrun,⟨_,r1,fun y hy=>?_⟩,r2⟩
 dsimp only
 by_cases e:y=x
 ·subst e
  rw [if_pos rfl]
  exact ⟨by rw [has_put_same h1.isMap (K.key hkey)];rfl,fun z=>atKey_put_same h1.isMap (K.key hkey) _ _⟩
 ·rw [if_neg e]
  have hne:kl y≠kl x:=fun e'=>e (hinj y hy e')
  rw [has_put_other hne]
  exact ⟨(h2 y hy).1,fun z=>(atKey_put_other hne _ _).trans ((h2 y hy).2 z)⟩
end
section
variable {κ:Type} {P:Program} {w:World} {ops:Array Oper} {rest:List Oper} {o:Oper} {a:Act} {Q:Exit→Act→World→Prop}
variable {k:TypeId} {kl:κ→Lit} {ok:κ→Prop} {b n:Nat} {f:κ→Option Value}
theorem wpList_look (hg:o.guard=none) (m y:Operand) (t:TypeId) (hop:o.op=Op.lookup t m y false) {e:TypeId} (h:MapIs P k kl ok w b n f) (K:Keyed P k) (ht:P.underlying t=some (.map k e)) {z:Value} (hz:(zeroValue e).run P w=.ok z w)
  (hm:a.eval m=.map (some b)) {key:Value} {x:κ} (hy:a.eval y=key) (hx:ok x) (hkey:keyOf P k key=some (kl x))
  (hK:wpList P ops Q rest (a.put o.dst ((f x).getD z)) w):wpList P ops Q (o::rest) a w:=by
 refine wpList_plain hg fun K' hK'=>?_
 unfold Oper.wp
 simp [execOp,hop,hm,hy,h.look K ht hz hx hkey,Result.andThen]
 exact hK' _ _ hK
theorem wpList_lookOk (hg:o.guard=none) (m y:Operand) (t:TypeId) (hop:o.op=Op.lookup t m y true) {e:TypeId} (h:MapIs P k kl ok w b n f) (K:Keyed P k) (ht:P.underlying t=some (.map k e)) {z:Value} (hz:(zeroValue e).run P w=.ok z w)
  (hm:a.eval m=.map (some b)) {key:Value} {x:κ} (hy:a.eval y=key) (hx:ok x) (hkey:keyOf P k key=some (kl x))
  (hK:wpList P ops Q rest (a.put o.dst (.tuple #[(f x).getD z,.bool (f x).isSome])) w):wpList P ops Q (o::rest) a w:=by
 refine wpList_plain hg fun K' hK'=>?_
 unfold Oper.wp
 simp [execOp,hop,hm,hy,h.lookOk K ht hz hx hkey,Result.andThen]
 exact hK' _ _ hK
theorem wpList_mput [DecidableEq κ] (hg:o.guard=none) (m y v:Operand) (t:TypeId) (hop:o.op=Op.mapUpdate t m y v) {e:TypeId} (h:MapIs P k kl ok w b n f) (K:Keyed P k) (ht:P.underlying t=some (.map k e)) (hn:n < maxLen)
  (hm:a.eval m=.map (some b)) {key val:Value} {x:κ} (hy:a.eval y=key) (hv:a.eval v=val) (hx:ok x) (hkey:keyOf P k key=some (kl x)) (hinj:∀y,ok y→kl y=kl x→y=x)
  (hK:∀w',MapIs P k kl ok w' b (n+1) (fun y=>if y=x then some val else f y)→w.grownBy w' (some b)→wpList P ops Q rest (a.put o.dst undef) w'):wpList P ops Q (o::rest) a w:=by
 refine wpList_plain hg fun K' hK'=>?_
 obtain ⟨w',hrun,r1,r2⟩:=h.put K ht hn (v:=val) hx hkey hinj
 unfold Oper.wp
 simp [execOp,hop,hm,hy,hv,hrun,Result.andThen]
 exact hK' _ _ (hK w' r1 r2)
end
theorem wf_small {z:Int} (h1:-9223372036854775808≤z) (h2:z≤9223372036854775807):(Lit.int .i64 z).wf=true:=by
 simp only [Lit.wf,Bool.and_eq_true,decide_eq_true_eq]
 exact ⟨h1,h2⟩
theorem below_grown {B:Nat} {a w w':World} {g:Nat} (h:Below B a w) (hg:w.grownBy w' (some g)) (hb:B≤g) (hs:B≤w.heap.size):Below B a w':=
 h.grown hg hs fun k e=>by injection e with e;omega
def skey (s:ByteArray):Lit:=.string s.data.toList
def sok (s:ByteArray):Prop:=s.size≤maxLen
theorem skey_inj {s t:ByteArray} (h:skey s=skey t):s=t:=by
 injection h with h
 cases s;cases t
 simp only [ByteArray.mk.injEq]
 exact Array.toList_inj.1 h
abbrev MapS (P:Program) (k:TypeId) (w:World) (b n:Nat) (f:ByteArray→Option Value):Prop:=MapIs P k skey sok w b n f
end Go.Proofs.YtkhmjidaeliccaaGreatDoor
namespace Go.Proofs.YtkhmjidaeliccaaGreatDoor
open Go.RowKit Go.Maps Go.WideMaps
def Box (w:World) (b:Nat) (t:TypeId) (cs:List Value):Prop:=w.heap[b]?=some (.cells cs.toArray t (0,0))
section
variable {w w':World} {b:Nat} {t:TypeId} {cs:List Value}
theorem Box.lt (h:Box w b t cs):b < w.heap.size:=by
 rcases Nat.lt_or_ge b w.heap.size with g | g
 ·exact g
 ·unfold Box at h;rw [Array.getElem?_eq_none g] at h;cases h
theorem Box.cell (h:Box w b t cs) {i:Nat} {v:Value} (hv:cs[i]?=some v):w.cell? ⟨b,i,none⟩=some v:=by
 unfold Box at h
 simp [World.cell?,h,hv]
theorem Box.free (h:Box w b t cs) (i:Nat):w.frozen? ⟨b,i,none⟩=false:=by
 unfold Box at h
 simp [World.frozen?,h]
theorem Box.new (w:World) (t:TypeId) (cs:List Value) {b:Nat} (hb:b=w.heap.size):Box (w.alloc (.cells cs.toArray t)) b t cs:=by
 subst hb
 show (w.heap.push _)[w.heap.size]?=_
 simp
theorem Box.below {B:Nat} (h:Box w b t cs) (hb:Below B w w') (hg:b < B):Box w' b t cs:=(hb.block b hg).trans h
theorem Box.grown {row:Option Nat} (h:Box w b t cs) (hg:w.grownBy w' row) (hne:some b≠row):Box w' b t cs:=(hg.block b h.lt hne).trans h
theorem Box.set (h:Box w b t cs) (i:Nat) (u:Value):Box (w.setCell ⟨b,i,none⟩ u) b t (cs.set i u):=by
 unfold Box at h ⊢
 simp [World.setCell,Array.getElem?_modify,h]
end
theorem grown_set (w:World) (p:Addr) (u:Value):w.grownBy (w.setCell p u) (some p.block):=
 ⟨rfl,rfl,rfl,by simp [World.setCell],fun k _ hne=>Below.heap_setCell w p u k (fun e=>hne (by rw [e]))⟩
def KeepM (U:Nat) (w w':World):Prop:=w.heap.size≤w'.heap.size∧∀b,b < w.heap.size→b≠U→w'.heap[b]?=w.heap[b]?
section
variable {U:Nat} {a b c:World}
theorem KeepM.refl (U:Nat) (a:World):KeepM U a a:=⟨Nat.le_refl _,fun _ _ _=>rfl⟩
theorem KeepM.below (h:KeepM U a b) (hb:Below b.heap.size b c):KeepM U a c:=⟨Nat.le_trans h.1 hb.size,fun q hq hn=>(hb.block q (Nat.lt_of_lt_of_le hq h.1)).trans (h.2 q hq hn)⟩
theorem KeepM.grown (h:KeepM U a b) (hg:b.grownBy c (some U)):KeepM U a c:=⟨Nat.le_trans h.1 hg.size,fun q hq hn=>(hg.block q (Nat.lt_of_lt_of_le hq h.1) (fun e=>hn (by injection e))).trans (h.2 q hq hn)⟩
theorem KeepM.sl {A:Option Addr} {cs:List Value} (h:KeepM U a b) (hU:∀o,a.cell? ⟨U,o,none⟩=none) (hs:Sl a A cs):Sl b A cs:=fun hne=>by
 obtain ⟨q,o,rfl,hc⟩:=hs hne
 refine ⟨q,o,rfl,fun j u hu=>?_⟩
 have h1:=hc j u hu
 have hq:q≠U:=fun e=>by rw [e,hU] at h1;cases h1
 exact (World.cell?_of_block (h.2 q (World.block_lt_of_cell? a _ h1) hq)).trans h1
end
theorem MapIs.nocell {κ:Type} {P:Program} {k:TypeId} {kl:κ→Lit} {ok:κ→Prop} {w:World} {b n:Nat} {f:κ→Option Value} (h:MapIs P k kl ok w b n f) (o:Nat):w.cell? ⟨b,o,none⟩=none:=by
 obtain ⟨D,⟨es,clock,h1,_⟩,_⟩:=h
 simp [World.cell?,h1]
section
variable {P:Program} {ops:Array Oper} {Q:Exit→Act→World→Prop} {md:Region.Mode} {S:World→Prop}
theorem anyH_callR {R:World→Prop} {i:Nat} {oi:Oper} {fuel:Nat} {listed:Array Bool} {a:Act} {w:World} (d:Option Tmp) {f:FuncId} {args:Array Value} {v:Value} (hi:ops[i]?=some oi) (hd:oi.dst=d)
  (hr:Region.ready md ops listed=[i]) (hw:Region.wanted oi (yielded ops a.tmps)=true) (he:(execOp a.eval oi).run P w=.ok (.enter f args) w)
  (hc:Calls P f args w (fun e w'=>e=.returned v∧S w'∧R w'))
  (h:∀w',S w'→R w'→wpAnyH P md ops Q S fuel (listed.setIfInBounds i true) (a.put d v) w'):wpAnyH P md ops Q S (fuel+1) listed a w:=by
 subst hd
 refine wpAnyH_ready hr (by simp) (AllReadyH.cons hi (fun K hK=>?_) AllReadyH.nil)
 rw [if_pos hw]
 unfold Oper.wp
 rw [he]
 simp only [Oper.upon]
 refine hc.mono ?_
 rintro e w' ⟨rfl,hS',hR'⟩
 exact hK.out _ _ hS' (fun hh=>h w' hh hR')
theorem anyH_do {i:Nat} {oi:Oper} {fuel:Nat} {listed:Array Bool} {a:Act} {w:World} (hi:ops[i]?=some oi)
  (hr:Region.ready md ops listed=[i]) (hw:Region.wanted oi (yielded ops a.tmps)=true)
  (h:∀K:Act→World→Prop,Shut (∀a w,S w→(S w→wpAnyH P md ops Q S fuel (listed.setIfInBounds i true) a w)→K a w)→Oper.wp P oi a w K Q):wpAnyH P md ops Q S (fuel+1) listed a w:=by
 refine wpAnyH_ready hr (by simp) (AllReadyH.cons hi (fun K hK=>?_) AllReadyH.nil)
 rw [if_pos hw]
 exact h K hK
theorem anyH_val {i:Nat} {oi:Oper} {fuel:Nat} {listed:Array Bool} {a:Act} {w w':World} {v:Value} (d:Option Tmp) (hi:ops[i]?=some oi) (hd:oi.dst=d)
  (hr:Region.ready md ops listed=[i]) (hw:Region.wanted oi (yielded ops a.tmps)=true) (he:(execOp a.eval oi).run P w=.ok (.value v) w') (hS:S w')
  (h:wpAnyH P md ops Q S fuel (listed.setIfInBounds i true) (a.put d v) w'):wpAnyH P md ops Q S (fuel+1) listed a w:=by
 subst hd
 refine anyH_do hi hr hw (fun K hK=>?_)
 unfold Oper.wp
 rw [he]
 simp only [Oper.upon]
 exact hK.out _ _ hS (fun _=>h)
theorem anyH_mput {κ:Type} [DecidableEq κ] {k:TypeId} {kl:κ→Lit} {ok:κ→Prop} {b n:Nat} {f:κ→Option Value} {i:Nat} {oi:Oper} {fuel:Nat} {listed:Array Bool} {a:Act} {w:World} (d:Option Tmp) (hi:ops[i]?=some oi) (hd:oi.dst=d)
  (hr:Region.ready md ops listed=[i]) (hw:Region.wanted oi (yielded ops a.tmps)=true) (m y v:Operand) (t:TypeId) (hop:oi.op=Op.mapUpdate t m y v) {e:TypeId} (h:MapIs P k kl ok w b n f) (K:Keyed P k) (ht:P.underlying t=some (.map k e)) (hn:n < maxLen)
  (hm:a.eval m=.map (some b)) {key val:Value} {x:κ} (hy:a.eval y=key) (hv:a.eval v=val) (hx:ok x) (hkey:keyOf P k key=some (kl x)) (hinj:∀y,ok y→kl y=kl x→y=x)
  (hS:∀w',w.grownBy w' (some b)→S w')
  (hK:∀w',MapIs P k kl ok w' b (n+1) (fun y=>if y=x then some val else f y)→w.grownBy w' (some b)→wpAnyH P md ops Q S fuel (listed.setIfInBounds i true) (a.put d undef) w'):wpAnyH P md ops Q S (fuel+1) listed a w:=by
 subst hd
 refine anyH_do hi hr hw (fun K' hK'=>?_)
 obtain ⟨w',hrun,r1,r2⟩:=h.put K ht hn (v:=val) hx hkey hinj
 unfold Oper.wp
 simp [execOp,hop,hm,hy,hv,hrun,Result.andThen]
 exact hK'.out _ _ (hS w' r2) (fun _=>hK w' r1 r2)
theorem anyH_lookOk {κ:Type} {k:TypeId} {kl:κ→Lit} {ok:κ→Prop} {b n:Nat} {f:κ→Option Value} {i:Nat} {oi:Oper} {v:Value} {fuel:Nat} {listed:Array Bool} {a:Act} {w:World} (d:Option Tmp) (hi:ops[i]?=some oi) (hd:oi.dst=d)
  (hs:Region.noSelect ops=true) (hf:Region.free md ops listed i=true) (hr:(Region.ready md ops listed).contains i=true)
  (hQ:∀c a w,Q (.panic c) (a.put d v) w→Q (.panic c) a w) (hw:Region.wanted oi (yielded ops a.tmps)=true) (hS:S w)
  (m y:Operand) (t:TypeId) (hop:oi.op=Op.lookup t m y true) {e:TypeId} (h:∀w,S w→MapIs P k kl ok w b n f) (K:Keyed P k) (ht:P.underlying t=some (.map k e)) {z:Value} (hz:∀w,(zeroValue e).run P w=.ok z w)
  (hm:a.eval m=.map (some b)) {key:Value} {x:κ} (hy:a.eval y=key) (hx:ok x) (hkey:keyOf P k key=some (kl x)) (hv:.tuple #[(f x).getD z,.bool (f x).isSome]=v)
  (hK:wpAnyH P md ops Q S fuel (listed.setIfInBounds i true) (a.put d v) w):wpAnyH P md ops Q S (fuel+1) listed a w:=by
 subst hv
 refine anyH_take d hi hd hs hf hr hQ hw hS (fun w' hS'=>?_) hK
 simp [execOp,hop,hm,hy,(h w' hS').lookOk K ht (hz w') hx hkey,Result.andThen]
theorem anyH_callE {R:Value→World→Prop} {i:Nat} {oi:Oper} {fuel:Nat} {listed:Array Bool} {a:Act} {w:World} (d:Option Tmp) {f:FuncId} {args:Array Value} (hi:ops[i]?=some oi) (hd:oi.dst=d)
  (hr:Region.ready md ops listed=[i]) (hw:Region.wanted oi (yielded ops a.tmps)=true) (he:(execOp a.eval oi).run P w=.ok (.enter f args) w)
  (hc:Calls P f args w (fun e w'=>∃v,e=.returned v∧S w'∧R v w'))
  (h:∀v w',S w'→R v w'→wpAnyH P md ops Q S fuel (listed.setIfInBounds i true) (a.put d v) w'):wpAnyH P md ops Q S (fuel+1) listed a w:=by
 subst hd
 refine wpAnyH_ready hr (by simp) (AllReadyH.cons hi (fun K hK=>?_) AllReadyH.nil)
 rw [if_pos hw]
 unfold Oper.wp
 rw [he]
 simp only [Oper.upon]
 refine hc.mono ?_
 rintro e w' ⟨v,rfl,hS',hR'⟩
 exact hK.out _ _ hS' (fun hh=>h v w' hh hR')
end
theorem Box.c {w:World} {b:Nat} {t:TypeId} {cs:List Value} (h:Box w b t cs) (i:Nat) {v:Value} (hv:cs[i]?=some v):w.cell? ⟨b,i,none⟩=some v:=h.cell hv
section
variable {P:Program} {ops:Array Oper} {Q:Exit→Act→World→Prop} {md:Region.Mode} {S:World→Prop}
theorem qE {R:Value→World→Prop} (i k:Nat) {oi:Oper} {fuel:Nat} {listed l':Array Bool} {a:Act} {a':Value→Act} {w:World} {f:FuncId} {args:Array Value}
  (hc:Calls P f args w (fun e w'=>∃v,e=.returned v∧S w'∧R v w')) (h:∀v w',S w'→R v w'→wpAnyH P md ops Q S fuel l' (a' v) w') (hi:ops[i]?=some oi:=by rfl) (hd:oi.dst=some k:=by rfl)
  (hr:Region.ready md ops listed=[i]:=by kernel_rfl) (hw:Region.wanted oi (yielded ops a.tmps)=true:=by rfl) (he:(execOp a.eval oi).run P w=.ok (.enter f args) w:=by go_simp)
  (hl:listed.setIfInBounds i true=l':=by (try simp only [List.setIfInBounds_toArray,List.set_cons_zero,List.set_cons_succ]);first | done | rfl)
  (ha:∀v,a.put (some k) v=a' v:=by intro v;(try simp only [Act.put,List.setIfInBounds_toArray,List.set_cons_zero,List.set_cons_succ]);first | done | rfl):wpAnyH P md ops Q S (fuel+1) listed a w:=by
 subst hl
 refine anyH_callE (some k) hi hd hr hw he hc (fun v w' h1 h2=>?_)
 rw [ha]
 exact h v w' h1 h2
theorem qK {v:Value} (i k:Nat) {oi:Oper} {fuel:Nat} {listed l':Array Bool} {a a':Act} {w:World} {f:FuncId} {args:Array Value}
  (hc:Calls P f args w (fun e w'=>e=.returned v∧S w')) (h:∀w',S w'→wpAnyH P md ops Q S fuel l' a' w') (hi:ops[i]?=some oi:=by rfl) (hd:oi.dst=some k:=by rfl)
  (hr:Region.ready md ops listed=[i]:=by kernel_rfl) (hw:Region.wanted oi (yielded ops a.tmps)=true:=by rfl) (he:(execOp a.eval oi).run P w=.ok (.enter f args) w:=by go_simp)
  (hl:listed.setIfInBounds i true=l':=by (try simp only [List.setIfInBounds_toArray,List.set_cons_zero,List.set_cons_succ]);first | done | rfl)
  (ha:a.put (some k) v=a':=by (try simp only [Act.put,List.setIfInBounds_toArray,List.set_cons_zero,List.set_cons_succ]);first | done | rfl):wpAnyH P md ops Q S (fuel+1) listed a w:=by
 subst hl;subst ha
 exact anyH_call (some k) hi hd hr hw he hc h
end
end Go.Proofs.YtkhmjidaeliccaaGreatDoor
