/- Texts that are merged into one file: FullPlain, RefDec, RefDecB, RefDecC, RefFull, SkRows, HeldApp. -/
import Derived.Test.YtijgbonhjcblcaaGreatDoorM02
import Derived.Test.YtijgbonhjcblcaaGreatDoorM03
import Derived.Test.YtijgbonhjcblcaaGreatDoorM04
import Derived.Test.YtijgbonhjcblcaaGreatDoorM07
import Derived.Test.YtijgbonhjcblcaaGreatDoorM09
import Derived.Test.YtijgbonhjcblcaaGreatDoorM11
import Derived.Test.YtijgbonhjcblcaaGreatDoorM14
import Derived.Test.YtijgbonhjcblcaaGreatDoorM15
set_option maxRecDepth 100000
set_option maxHeartbeats 51200000
namespace Go.Proofs.YtijgbonhjcblcaaGreatDoor
open Go.RowKit
section
variable (on:Int→Option (List Int))
inductive Full:Int→List Int→Prop
 | leaf {c:Int}:on c=none→Full c [c]
 | node {c:Int} {to:List Int} {vs:List (List Int)}:on c=some to→vs.length=to.length→(∀i,(hi:i < to.length)→(hv:i < vs.length)→Full to[i] vs[i])→Full c vs.flatten
end
section
variable {on:Int→Option (List Int)} {cap:Int}
theorem Full.func {c:Int} {l:List Int} (h:Full on c l):∀{l'},Full on c l'→l=l':=by
 induction h with
 | leaf h=>
  intro l' h'
  cases h' with
  | leaf _=>rfl
  | node h1 _ _=>rw [h] at h1;cases h1
 | node h1 h2 _ ih=>
  intro l' h'
  cases h' with
  | leaf h=>rw [h] at h1;cases h1
  | @node _ to' vs' g1 g2 g3=>
   rw [h1] at g1
   injection g1 with g1
   subst g1
   congr 1
   refine List.ext_getElem (by omega) fun i hi hi'=>?_
   exact ih i (by omega) hi (g3 i (by omega) hi')
theorem Full.done {c:Int} {l:List Int} (h:Full on c l):∀e ∈ l,on e=none:=by
 induction h with
 | leaf h=>intro e he;simp at he;subst he;exact h
 | node h1 h2 _ ih=>
  intro e he
  obtain ⟨v,hv,he⟩:=List.mem_flatten.1 he
  obtain ⟨i,hi,rfl⟩:=List.getElem_of_mem hv
  exact ih i (by omega) hi e he
theorem Sz.full {c v:Int} (h:Sz on cap c v) (hcap:1≤cap):∃l,Full on c l∧(v < cap→(l.length:Int)≤v):=by
 induction h with
 | @leaf c h=>
  rcases h with h | h
  ·exact ⟨[c],.leaf h,fun _=>by simp⟩
  ·exact ⟨[],by simpa using Full.node (vs:=[]) h rfl (fun i hi=>by simp at hi),fun _=>by simp⟩
 | @node c to vs h1 h2 h3 h4 ih=>
  have hch:∀i:Nat,∃l:List Int,∀(hi:i < to.length) (hv:i < vs.length),Full on to[i] l∧(vs[i] < cap→(l.length:Int)≤vs[i]):=fun i=>by
   by_cases hi:i < to.length
   ·obtain ⟨l,g1,g2⟩:=ih i hi (by omega)
    exact ⟨l,fun _ _=>⟨g1,g2⟩⟩
   ·exact ⟨[],fun h=>absurd h hi⟩
  refine ⟨((List.range to.length).map (fun i=>(hch i).choose)).flatten,.node h1 (by simp) (fun i h1 h2=>?_),fun hv=>?_⟩
  ·simp only [List.getElem_map,List.getElem_range]
   exact ((hch i).choose_spec h1 (by omega)).1
  ·have hpos:∀v ∈ vs,0≤v:=fun v hv=>by
    obtain ⟨i,hi,rfl⟩:=List.getElem_of_mem hv
    have:=(h4 i (by omega) hi).bd hcap
    omega
   rw [capSum_eq hpos (by omega)] at hv ⊢
   have hs:vs.sum < cap:=by omega
   have key:∀(ls:List (List Int)) (vs:List Int),ls.length=vs.length→(∀v ∈ vs,0≤v)→vs.sum < cap→(∀i,(h1:i < ls.length)→(h2:i < vs.length)→vs[i] < cap→(ls[i].length:Int)≤vs[i])→(ls.flatten.length:Int)≤vs.sum:=by
    intro ls
    induction ls with
    | nil=>intro vs hl _ _ _;cases vs with | nil=>simp | cons _ _=>simp at hl
    | cons l ls ihl=>
     intro vs hl hp hs hle
     cases vs with
     | nil=>simp at hl
     | cons v vs=>
      rw [List.sum_cons] at hs
      have hq:0≤vs.sum:=sum_nonneg (fun v hv=>hp v (by simp [hv]))
      have h0:=hle 0 (by simp) (by simp) (by simp only [List.getElem_cons_zero];omega)
      simp only [List.getElem_cons_zero] at h0
      have hv0:=hp v (by simp)
      have h1:=ihl vs (by simpa using hl) (fun v hv=>hp v (by simp [hv])) (by omega) (fun i g1 g2 g3=>by
       have:=hle (i+1) (by simp;omega) (by simp;omega)
       simp only [List.getElem_cons_succ] at this
       exact this g3)
      rw [List.flatten_cons,List.length_append,List.sum_cons]
      omega
   have:=key ((List.range to.length).map (fun i=>(hch i).choose)) vs (by simp [h3]) hpos hs (fun i g1 g2 g3=>by
    simp only [List.getElem_map,List.getElem_range]
    simp at g1
    exact ((hch i).choose_spec g1 g2).2 g3)
   omega
end
def replE (fnd:Int→Option Nat) (T:List (List Int)) (e:Int):List Int:=match fnd e with | none=>Hg.decomp e | some m=>T.getD m []
def replL (fnd:Int→Option Nat) (T:List (List Int)) (text:List Int):List Int:=text.flatMap (replE fnd T)
def tabStep (to:Nat→List Int) (fnd:Int→Option Nat) (skip:Nat→Bool) (T:List (List Int)) (i:Nat):List (List Int):=if skip i=true then T else T.set i (replL fnd T (to i))
def tabR (to:Nat→List Int) (fnd:Int→Option Nat) (skip:Nat→Bool) (n:Nat):Nat→List (List Int)
 | 0=>List.replicate n []
 | r+1=>(List.range n).foldl (tabStep to fnd skip) (tabR to fnd skip n r)
section
variable {n:Nat} {frm:Nat→Int} {to:Nat→List Int} {fnd fnd':Int→Option Nat} {on:Int→Option (List Int)} {skip:Nat→Bool}
theorem tabStep_len (T:List (List Int)) (i:Nat):(tabStep to fnd skip T i).length=T.length:=by unfold tabStep;split <;> simp
theorem tabFold_len (s:List Nat):∀T:List (List Int),(s.foldl (tabStep to fnd skip) T).length=T.length:=by
 induction s with
 | nil=>intro T;rfl
 | cons x s ih=>intro T;exact (ih _).trans (tabStep_len T x)
structure MapsF (n:Nat) (frm:Nat→Int) (to:Nat→List Int) (fnd:Int→Option Nat) (on:Int→Option (List Int)) (skip:Nat→Bool):Prop where
 at_:∀i,i < n→skip i=false→on (frm i)=some (to i)
 fd:∀e m,fnd e=some m→m < n∧frm m=e∧skip m=false
 no:∀e,fnd e=none→Full on e (Hg.decomp e)
theorem flatten_map {l:List Int} {f:Int→List Int}:(l.map f).flatten=l.flatMap f:=by rw [List.flatMap_def]
theorem tab_sound (M:MapsF n frm to fnd on skip) (hsub:∀e m,fnd e=some m→fnd' e=some m) (s:List Nat) (hs:∀i ∈ s,i < n) :
  ∀i,i < n→skip i=false→(s.foldl (endStep to fnd') (List.replicate n false)).getD i false=true→Full on (frm i) ((s.foldl (tabStep to fnd skip) (List.replicate n [])).getD i []):=by
 have hlenE:∀s:List Nat,(s.foldl (endStep to fnd') (List.replicate n false)).length=n:=by
  intro s
  have:∀(s:List Nat) (T:List Bool),T.length=n→(s.foldl (endStep to fnd') T).length=n:=by
   intro s
   induction s with
   | nil=>intro T h;exact h
   | cons x s ih=>intro T h;exact ih _ (by simp [endStep,h])
  exact this s _ (by simp)
 have key:∀k (s:List Nat),s.length=k→(∀i ∈ s,i < n)→∀i,i < n→skip i=false→(s.foldl (endStep to fnd') (List.replicate n false)).getD i false=true→Full on (frm i) ((s.foldl (tabStep to fnd skip) (List.replicate n [])).getD i []):=by
  intro k
  induction k with
  | zero=>
   intro s hk _ i hi _ h
   have:s=[]:=List.eq_nil_of_length_eq_zero hk
   subst this
   simp [List.getD,hi] at h
  | succ k ih=>
   intro s hk hs i hi hsk h
   obtain ⟨s',x,rfl⟩:∃s' x,s=s'++[x]:=⟨s.dropLast,s.getLast (by rintro rfl;simp at hk),(List.dropLast_concat_getLast _).symm⟩
   have hs':∀i ∈ s',i < n:=fun j hj=>hs j (by simp [hj])
   have hx:x < n:=hs x (by simp)
   have IH:=ih s' (by simpa using hk) hs'
   rw [List.foldl_append] at h ⊢
   simp only [List.foldl_cons,List.foldl_nil] at h ⊢
   have l1:=hlenE s'
   have l2:(s'.foldl (tabStep to fnd skip) (List.replicate n [])).length=n:=by rw [tabFold_len];simp
   generalize s'.foldl (endStep to fnd') (List.replicate n false)=T at *
   generalize s'.foldl (tabStep to fnd skip) (List.replicate n [])=L at *
   by_cases e:x=i
   ·subst e
    have hT:endE to fnd' T x=true:=by
     simpa [endStep,List.getD,l1,hi] using h
    have hL:(tabStep to fnd skip L x).getD x []=replL fnd L (to x):=by
     unfold tabStep
     rw [if_neg (by rw [hsk];simp)]
     simp [List.getD,l2,hi]
    rw [hL]
    have hch:∀e ∈ to x,Full on e (replE fnd L e):=fun e he=>by
     unfold replE
     cases hf:fnd e with
     | none=>exact M.no e hf
     | some m=>
      obtain ⟨hm,hfm,hkm⟩:=M.fd e m hf
      have:=List.all_eq_true.1 hT e he
      rw [hsub e m hf] at this
      have h1:=IH m hm hkm this
      rw [hfm] at h1
      exact h1
    unfold replL
    rw [←flatten_map]
    refine .node (M.at_ x hi hsk) (by simp) (fun j hj hv=>?_)
    simp only [List.getElem_map]
    exact hch _ (List.getElem_mem hj)
   ·have hT:T.getD i false=true:=by
     simpa [endStep,List.getD,List.getElem?_set,e] using h
    have h1:=IH i hi hsk hT
    have:(tabStep to fnd skip L x).getD i []=L.getD i []:=by
     unfold tabStep
     split
     ·rfl
     ·simp [List.getD,e]
    rw [this]
    exact h1
 exact key s.length s rfl hs
theorem tab_le (M:MapsF n frm to fnd on skip) (s:List Nat) (hs:∀i ∈ s,i < n):∀(T:List (List Int)),T.length=n→(∀i l,i < n→skip i=false→Full on (frm i) l→(T.getD i []).length≤l.length)→
  ∀i l,i < n→skip i=false→Full on (frm i) l→((s.foldl (tabStep to fnd skip) T).getD i []).length≤l.length:=by
 induction s with
 | nil=>intro T _ h;exact h
 | cons x s ih=>
  intro T hl h
  rw [List.foldl_cons]
  refine ih (fun i hi=>hs i (by simp [hi])) _ (by rw [tabStep_len,hl]) (fun i l hi hsk hf=>?_)
  have hx:=hs x (by simp)
  by_cases e:x=i
  ·subst e
   have hL:(tabStep to fnd skip T x).getD x []=replL fnd T (to x):=by
    unfold tabStep
    rw [if_neg (by rw [hsk];simp)]
    simp [List.getD,hl,hi]
   rw [hL]
   cases hf with
   | leaf g=>rw [M.at_ x hi hsk] at g;cases g
   | @node _ to' vs g1 g2 g3=>
    rw [M.at_ x hi hsk] at g1
    injection g1 with g1
    subst g1
    have key:∀(to:List Int) (vs:List (List Int)),vs.length=to.length→(∀i,(hi:i < to.length)→(hv:i < vs.length)→Full on to[i] vs[i])→(replL fnd T to).length≤vs.flatten.length:=by
     intro to
     induction to with
     | nil=>intro vs _ _;simp [replL]
     | cons e to iht=>
      intro vs hvl hv
      cases vs with
      | nil=>simp at hvl
      | cons v vs=>
       have h1:=iht vs (by simpa using hvl) (fun i g1 g2=>by have:=hv (i+1) (by simp;omega) (by simp;omega);simpa using this)
       have h0:=hv 0 (by simp) (by simp)
       simp only [List.getElem_cons_zero] at h0
       have h2:(replE fnd T e).length≤v.length:=by
        unfold replE
        cases hfe:fnd e with
        | none=>rw [(M.no e hfe).func h0];exact Nat.le_refl _
        | some m=>
         obtain ⟨hm,hfm,hkm⟩:=M.fd e m hfe
         exact h m v hm hkm (by rw [hfm];exact h0)
       unfold replL at h1 ⊢
       rw [List.flatMap_cons,List.length_append,List.flatten_cons,List.length_append]
       omega
    exact key _ _ g2 g3
  ·have:(tabStep to fnd skip T x).getD i []=T.getD i []:=by
    unfold tabStep
    split
    ·rfl
    ·simp [List.getD,e]
   rw [this]
   exact h i l hi hsk hf
end
def tabM (ms:List Mp) (compat:Bool):List (List Int):=tabR (toM ms) (fndM ms compat) (skipM ms compat) ms.length ms.length
def dcM (ms:List Mp) (compat:Bool) (c:Int):List Int:=replE (fndM ms compat) (tabM ms compat) c
section
variable {ms:List Mp}
theorem Full_no (hh:NoHg ms) (compat:Bool) {e:Int} (h:fndM ms compat e=none):Full (onM ms compat) e (Hg.decomp e):=by
 by_cases h4:4≤Hg.kind e
 ·obtain ⟨d1,d2⟩:=decomp_kids h4
  have hon:onM ms compat e=some (Hg.decomp e):=if_pos h4
  have:=Full.node (on:=onM ms compat) (vs:=(Hg.decomp e).map (fun x=>[x])) hon (by simp) (fun i h1 h2=>by
   simp only [List.getElem_map]
   obtain ⟨_,g2,g3⟩:=d2 _ (List.getElem_mem h1)
   refine .leaf (onM_none_kind hh compat g3 ?_)
   unfold hk at g2
   split at g2
   ·cases g2
   ·omega)
  have e1:((Hg.decomp e).map (fun x=>[x])).flatten=Hg.decomp e:=by rw [←List.flatMap_def];simp
  rw [e1] at this
  exact this
 ·rw [decomp_no (by omega)]
  refine .leaf ?_
  unfold onM
  rw [if_neg h4,h]
  rfl
theorem mapsF (hs:StF ms) (hh:NoHg ms) (compat:Bool):MapsF ms.length (frmM ms) (toM ms) (fndM ms compat) (onM ms compat) (skipM ms compat):=by
 refine ⟨fun i hi hk=>?_,fun e m h=>?_,fun e h=>Full_no hh compat h⟩
 ·rw [frmM_at hi,onM_frm hs hh compat hi,toM_at hi,if_pos]
  unfold skipM at hk
  cases compat <;> simp_all [List.getD]
 ·obtain ⟨hi,h1,h2⟩:=fndM_at h
  refine ⟨hi,by rw [frmM_at hi];exact h1,?_⟩
  unfold skipM
  rcases h2 with h2 | h2
  ·rw [h2];rfl
  ·simp [List.getD,hi,h2]
theorem all_full (hs:StF ms) (hh:NoHg ms) (he:endB ms=true) (hl:longB ms=false) (compat:Bool):∀i,i < ms.length→∃l,Full (onM ms compat) (frmM ms i) l∧l.length≤64:=by
 intro i hi
 have h1:=lensM_ok hs hh he compat i hi
 have hle:(lensM ms compat).getD i 0≤64:=by
  unfold longB at hl
  have:=List.any_eq_false.1 hl i (List.mem_range.2 hi)
  simp at this
  cases compat
  ·simpa using this.1
  ·simpa using this.2
 obtain ⟨l,g1,g2⟩:=h1.full (by unfold capE;omega)
 rw [frmM_at hi]
 refine ⟨l,g1,?_⟩
 have:=g2 (by unfold capE;omega)
 omega
def TabLe (ms:List Mp) (compat:Bool) (T:List (List Int)):Prop:=T.length=ms.length∧∀i l,i < ms.length→skipM ms compat i=false→Full (onM ms compat) (frmM ms i) l→(T.getD i []).length≤l.length
theorem TabLe.start (ms:List Mp) (compat:Bool):TabLe ms compat (List.replicate ms.length []):=⟨by simp,fun i l hi _ _=>by simp [List.getD,hi]⟩
theorem TabLe.step (hs:StF ms) (hh:NoHg ms) {compat:Bool} {T:List (List Int)} (h:TabLe ms compat T) {i:Nat} (hi:i < ms.length):TabLe ms compat (tabStep (toM ms) (fndM ms compat) (skipM ms compat) T i):=
 ⟨by rw [tabStep_len];exact h.1,tab_le (mapsF hs hh compat) [i] (fun j hj=>by simp at hj;subst hj;exact hi) T h.1 h.2⟩
theorem TabLe.fold (hs:StF ms) (hh:NoHg ms) {compat:Bool} (s:List Nat):∀{T:List (List Int)},TabLe ms compat T→(∀i ∈ s,i < ms.length)→TabLe ms compat (s.foldl (tabStep (toM ms) (fndM ms compat) (skipM ms compat)) T):=by
 induction s with
 | nil=>intro T h _;exact h
 | cons x s ih=>intro T h hx;exact ih (h.step hs hh (hx x (by simp))) (fun i hi=>hx i (by simp [hi]))
theorem TabLe.rounds (hs:StF ms) (hh:NoHg ms) (compat:Bool) (r:Nat):TabLe ms compat (tabR (toM ms) (fndM ms compat) (skipM ms compat) ms.length r):=by
 induction r with
 | zero=>exact TabLe.start ms compat
 | succ r ih=>exact ih.fold hs hh _ (fun i hi=>List.mem_range.1 hi)
def TabSk (ms:List Mp) (compat:Bool) (T:List (List Int)):Prop:=∀i,skipM ms compat i=true→T.getD i []=[]
theorem TabSk.step {compat:Bool} {T:List (List Int)} (h:TabSk ms compat T) (i:Nat):TabSk ms compat (tabStep (toM ms) (fndM ms compat) (skipM ms compat) T i):=by
 intro j hj
 unfold tabStep
 split
 ·exact h j hj
 ·next hi=>
  have:i≠j:=fun e=>by subst e;exact hi hj
  have:=h j hj
  simp_all [List.getD]
theorem TabLe.le64 (hs:StF ms) (hh:NoHg ms) (he:endB ms=true) (hl:longB ms=false) {compat:Bool} {T:List (List Int)} (h:TabLe ms compat T) {i:Nat} (hi:i < ms.length) (hk:skipM ms compat i=false):(T.getD i []).length≤64:=by
 obtain ⟨l,h1,h2⟩:=all_full hs hh he hl compat i hi
 have:=h.2 i l hi hk h1
 omega
theorem tabM_full (hs:StF ms) (hh:NoHg ms) (he:endB ms=true) (compat:Bool) {i:Nat} (hi:i < ms.length) (hk:skipM ms compat i=false):Full (onM ms compat) ms[i].frm ((tabM ms compat).getD i []):=by
 have hfl:∀j ∈ (List.replicate ms.length (List.range ms.length)).flatten,j < ms.length:=fun j hj=>by
  obtain ⟨l,h1,h2⟩:=List.mem_flatten.1 hj
  rw [List.eq_of_mem_replicate h1] at h2
  exact List.mem_range.1 h2
 have h0:=tab_sound (mapsF hs hh compat) (fndM_sub hs compat) (List.replicate ms.length (List.range ms.length)).flatten hfl i hi hk
 have e1:=iter_flat (endStep (toM ms) (fndM ms true)) ms.length (rnds ms.length (toM ms) (fndM ms true)) (fun _=>rfl) ms.length
 have e2:=iter_flat (tabStep (toM ms) (fndM ms compat) (skipM ms compat)) ms.length (tabR (toM ms) (fndM ms compat) (skipM ms compat) ms.length) (fun _=>rfl) ms.length
 simp only [rnds,tabR] at e1 e2
 rw [e1,e2] at h0
 have hl:=(rnds_ok ms.length (toM ms) (fndM ms true) ms.length).1
 have:(rnds ms.length (toM ms) (fndM ms true) ms.length).getD i false=true:=by
  unfold endB at he
  have hi':i < (rnds ms.length (toM ms) (fndM ms true) ms.length).length:=by rw [hl];exact hi
  have:=List.all_eq_true.1 he _ (List.getElem_mem hi')
  simpa [List.getD,hi'] using this
 have h1:=h0 this
 rw [frmM_at hi] at h1
 exact h1
theorem dcM_full (hs:StF ms) (hh:NoHg ms) (he:endB ms=true) (compat:Bool) (c:Int):Full (onM ms compat) c (dcM ms compat c):=by
 unfold dcM replE
 cases hf:fndM ms compat c with
 | none=>exact Full_no hh compat hf
 | some m=>
  obtain ⟨hm,h1,_⟩:=fndM_at hf
  have hk:=((mapsF hs hh compat).fd c m hf).2.2
  have:=tabM_full hs hh he compat hm hk
  rw [h1] at this
  exact this
theorem dcM_len (hs:StF ms) (hh:NoHg ms) (he:endB ms=true) (hl:longB ms=false) (compat:Bool) (c:Int):(dcM ms compat c).length≤64:=by
 unfold dcM replE
 cases hf:fndM ms compat c with
 | none=>
  by_cases h4:4≤Hg.kind c
  ·have:=(decomp_kids h4).1;dsimp only;omega
  ·dsimp only;rw [decomp_no (by omega)];simp
 | some m=>
  obtain ⟨hm,h1,_⟩:=fndM_at hf
  have hk:=((mapsF hs hh compat).fd c m hf).2.2
  exact (TabLe.rounds hs hh compat ms.length).le64 hs hh he hl hm hk
theorem dcM_elem (hs:StF ms) (hh:NoHg ms) (he:endB ms=true) (compat:Bool) {c e:Int} (h:e ∈ dcM ms compat c):dcM ms compat e=[e]:=
 (dcM_full hs hh he compat e).func (.leaf ((dcM_full hs hh he compat c).done e h))
end
end Go.Proofs.YtijgbonhjcblcaaGreatDoor
namespace Go.Proofs.YtijgbonhjcblcaaGreatDoor
open Go.RowKit Go.Maps Go.WideMaps
def fndV (ms:List Mp) (compat:Bool) (c:Int):Int:=match fndM ms compat c with | some i=>(i:Int) | none=>-1
def hitM (compat:Bool) (c:Int) (m:Mp):Bool:=decide (m.frm=c)&&(compat || decide (m.tag.size=0))
theorem fnd_hit {ms:List Mp} {compat:Bool} {c:Int} {i:Nat} (hi:i < ms.length) (h:hitM compat c ms[i]=true) (hno:∀t,(ht:t < ms.length)→t < i→hitM compat c ms[t]=false):fndV ms compat c=i:=by
 have:fndM ms compat c=some i:=by
  unfold fndM
  rw [List.findIdx?_eq_some_iff_getElem]
  exact ⟨hi,h,fun j hj=>by have:=hno j (by omega) hj;unfold hitM at this;rw [Bool.not_eq_true];exact this⟩
 unfold fndV
 rw [this]
theorem fnd_miss {ms:List Mp} {compat:Bool} {c:Int} (hno:∀t,(ht:t < ms.length)→hitM compat c ms[t]=false):fndV ms compat c=-1:=by
 have:fndM ms compat c=none:=by
  unfold fndM
  rw [List.findIdx?_eq_none_iff]
  intro m hm
  obtain ⟨i,hi,rfl⟩:=List.getElem_of_mem hm
  exact hno i hi
 unfold fndV
 rw [this]
theorem find_any (A:Option Addr) (n k:Nat) (ms:List Mp) (c:Int) (compat:Bool) (w:World) (hA:Mps w A ms) (hn:ms.length=n) (hbig:n≤1048576) :
  Calls Tryz.prog 37 #[.slice A n k,.int .i64 c,.bool compat] w fun e w'=>e=.returned (.int .i64 (fndV ms compat c))∧w=w':=by
 subst hn
 have H1:=Lib.hid (fun i (hi:i < ms.length) h hno=>fnd_hit (ms:=ms) (compat:=compat) (c:=c) hi h hno)
 have H0:=Lib.hid (fnd_miss (ms:=ms) (compat:=compat) (c:=c))
 generalize fndV ms compat c=R at *
 have HA:=Lib.hid hA
 clear hA
 go_enter Tryz.func37,Tryz.ntmps37
 go_wp2_with fail
 go_loop [7] (fun u=>∃i:Nat,i≤ms.length∧u=.int .i64 i∧(∀t,(ht:t < ms.length)→t < i→hitM compat c ms[t]=false)) (fun u=>ms.length - (intOf u).toNat)
 case atStart=>exact ⟨0,Nat.zero_le _,rfl,fun t _ h=>absurd h (Nat.not_lt_zero _)⟩
 case round=>
  obtain ⟨i,hi,rfl,hno⟩:=hrel
  have HNO:=Lib.hid hno
  clear hno
  by_cases hlt:i < ms.length
  ·obtain ⟨b1,o1,rfl,hbl,hcell⟩:=HA.out.at hlt
   obtain ⟨C,cc,c0,c1,c2,_,_⟩:=hcell i hlt
   have HB:=Lib.hid (fun h=>H1.out i hlt h HNO.out)
   have HN:=Lib.hid (fun h=>all_up (P:=fun m=>hitM compat c m=false) hlt HNO.out h)
   clear hcell HA
   generalize ms[i]=mi at *
   have K0:=Lib.hid (fun (h:¬mi.frm=c)=>show hitM compat c mi=false from by simp [hitM,h])
   have K1:=Lib.hid (fun (h:mi.frm=c) (h2:compat=true)=>show hitM compat c mi=true from by simp [hitM,h,h2])
   have K2:=Lib.hid (fun (h:mi.frm=c) (h2:mi.tag.size=0)=>show hitM compat c mi=true from by simp [hitM,h,h2])
   have K3:=Lib.hid (fun (h:compat=false) (h2:¬mi.tag.size=0)=>show hitM compat c mi=false from by simp [hitM,h,h2])
   generalize hitM compat c mi=hb at *
   obtain ⟨mf,mt,mg⟩:=mi
   dsimp only at *
   by_cases hf:mf=c
   ·cases compat with
    | true=>
     have HR:=Lib.hid (HB.out (K1.out hf rfl))
     subst hf
     go_wp2_with fail
     go_ret
     exact ⟨ret_int HR.out.symm,rfl⟩
    | false=>
     by_cases hg:mg.size=0
     ·have g0:mg.toList=[]:=str_nil hg
      have HR:=Lib.hid (HB.out (K2.out hf hg))
      subst hf
      go_wp2_with fail
      go_ret
      exact ⟨ret_int HR.out.symm,rfl⟩
     ·have g0:¬mg.toList=[]:=str_cons hg
      have g1:mg.toList.isEmpty=false:=by simpa using g0
      have HQ:=Lib.hid (HN.out (K3.out rfl hg))
      subst hf
      go_wp2_with fail
      go_round
      case rel=>exact ⟨i+1,by omega,by go_num,HQ.out⟩
      case measure=>simp [intOf];omega
   ·have HQ:=Lib.hid (HN.out (K0.out hf))
    go_wp2_with fail
    go_round
    case rel=>exact ⟨i+1,by omega,by go_num,HQ.out⟩
    case measure=>simp [intOf];omega
  ·have HR:=Lib.hid (H0.out (fun t ht=>HNO.out t ht (by omega)))
   go_wp2_with fail
   go_ret
   exact ⟨ret_int HR.out.symm,rfl⟩
theorem info_bool:(Tryz.prog.info? 4).map (fun i=>(i.zero,i.size,i.bytes))=some (some (.bool false),1,1):=by kernel_rfl
def repV (n:Nat) (v:Value):List Value:=List.replicate n v
theorem made_rep (v:Value) (hv:v.cells=#[v]) (n:Nat):madeCells v.cells n=(repV n v).toArray:=by
 rw [hv]
 unfold repV
 apply Array.ext
 ·simp [madeCells]
 ·intro i h1 h2
  simp [madeCells,Nat.mod_one]
theorem mk_bools (n:Nat) (hn:n≤1048576) (W:World):(Instr.makeSlice 83 (.int .i64 n) (.int .i64 n)).run Tryz.prog W=.ok (.slice (some ⟨W.heap.size,0,none⟩) n n) (W.alloc (.cells (repV n (Value.bool false)).toArray 4)):=by
 obtain ⟨i,hi,hz,hsize,hbytes⟩:=info_parts info_bool
 have:=run_make (P:=Tryz.prog) W 83 4 i (.bool false) Tryz.underlying83 hi hz .i64 .i64 n n (by omega) (by omega) (by rw [hbytes];omega) (by omega)
 rw [this,hsize]
 simp only [Int.toNat_natCast,Nat.mul_one,made_rep (.bool false) rfl]
theorem mk_ints (n:Nat) (hn:n≤1048576) (W:World):(Instr.makeSlice 37 (.int .i64 n) (.int .i64 n)).run Tryz.prog W=.ok (.slice (some ⟨W.heap.size,0,none⟩) n n) (W.alloc (.cells (repV n (Value.int .i64 0)).toArray 3)):=by
 obtain ⟨i,hi,hz,hsize,hbytes⟩:=info_parts info_int
 have:=run_make (P:=Tryz.prog) W 37 3 i (.int .i64 0) Tryz.underlying37 hi hz .i64 .i64 n n (by omega) (by omega) (by rw [hbytes];omega) (by omega)
 rw [this,hsize]
 simp only [Int.toNat_natCast,Nat.mul_one,made_rep (.int .i64 0) rfl]
def RetBools (T:List Bool) (w:World) (e:Ending) (w':World):Prop:=∃A c,e=.returned (.slice A T.length c)∧T.length≤c∧Sl w' A (T.map Value.bool)∧Below w.heap.size w w'
theorem Box.sl {w:World} {b:Nat} {t:TypeId} {cs:List Value} (h:Box w b t cs):Sl w (some ⟨b,0,none⟩) cs:=fun _=>⟨b,0,rfl,fun j u hu=>by rw [Nat.zero_add];exact h.cell hu⟩
theorem endFold_len (to:Nat→List Int) (fnd:Int→Option Nat) (s:List Nat):∀T:List Bool,(s.foldl (endStep to fnd) T).length=T.length:=by
 induction s with
 | nil=>intro T;rfl
 | cons x s ih=>intro T;exact (ih _).trans (by simp [endStep])
theorem endE_k {to:List Int} {fnd:Int→Option Nat} {T:List Bool} {k:Nat} (hk:k < to.length):(to.take (k+1)).all (fun e=>match fnd e with | none=>true | some m=>T.getD m false)=((to.take k).all (fun e=>match fnd e with | none=>true | some m=>T.getD m false)&&(match fnd to[k] with | none=>true | some m=>T.getD m false)):=by
 rw [List.take_succ_eq_append_getElem hk,List.all_append]
 simp
end Go.Proofs.YtijgbonhjcblcaaGreatDoor
namespace Go.Proofs.YtijgbonhjcblcaaGreatDoor
open Go.RowKit Go.Maps Go.WideMaps
theorem fndV_cases (ms:List Mp) (compat:Bool) (c:Int):(fndM ms compat c=none∧fndV ms compat c=-1)∨∃m:Nat,m < ms.length∧fndM ms compat c=some m∧fndV ms compat c=(m:Int):=by
 unfold fndV
 cases h:fndM ms compat c with
 | none=>exact .inl ⟨rfl,rfl⟩
 | some i=>obtain ⟨hi,_⟩:=fndM_at h;exact .inr ⟨i,hi,rfl,rfl⟩
def allE (fnd:Int→Option Nat) (T:List Bool) (l:List Int):Bool:=l.all (fun e=>match fnd e with | none=>true | some m=>T.getD m false)
theorem ends_any (A:Option Addr) (n k:Nat) (ms:List Mp) (w:World) (hA:Mps w A ms) (hn:ms.length=n) (hbig:n≤1048576) (hz:∀i,(hi:i < ms.length)→ms[i].to.length≤1048576) :
  Calls Tryz.prog 40 #[.slice A n k] w (RetBools (rnds ms.length (toM ms) (fndM ms true) ms.length) w):=by
 subst hn
 have FD:=Lib.hid (fun c W (hW:Mps W A ms)=>find_any A ms.length k ms c true W hW rfl hbig)
 have HA:=Lib.hid hA
 have HZ:=Lib.hid hz
 have HF:=Lib.hid (fun c=>fndV_cases ms true c)
 have hmk:=mk_bools ms.length hbig
 clear hA hz
 have HL:=Lib.hid (fun r=>(rnds_ok ms.length (toM ms) (fndM ms true) r).1)
 have HS:=Lib.hid (fun r=>show rnds ms.length (toM ms) (fndM ms true) (r+1)=(List.range ms.length).foldl (endStep (toM ms) (fndM ms true)) (rnds ms.length (toM ms) (fndM ms true) r) from rfl)
 have H0:=Lib.hid (show (rnds ms.length (toM ms) (fndM ms true) 0).map Value.bool=repV ms.length (Value.bool false) from by simp [rnds,repV])
 generalize rnds ms.length (toM ms) (fndM ms true)=RN at *
 go_enter Tryz.func40,Tryz.ntmps40
 go_wp2_with fail
 have B0:Below w.heap.size w (w.alloc (.cells (repV ms.length (Value.bool false)).toArray 4)):=(Below.refl _ _).alloc (Nat.le_refl _) _
 have X0:Box (w.alloc (.cells (repV ms.length (Value.bool false)).toArray 4)) w.heap.size 4 (repV ms.length (Value.bool false)):=Box.new _ _ _ rfl
 obtain ⟨W0,hW0⟩:∃W0,(w.alloc (.cells (repV ms.length (Value.bool false)).toArray 4))=W0:=⟨_,rfl⟩
 rw [hW0] at B0 X0 ⊢
 clear hW0
 rw [←H0.out] at X0
 have X0':=Lib.hid X0
 clear X0 H0
 go_loopw [4] (fun u wr=>∃r:Nat,r≤ms.length∧u=.int .i64 r∧Box wr w.heap.size 4 ((RN r).map Value.bool)∧Below w.heap.size w wr) (fun u _=>ms.length - (intOf u).toNat)
 case atStart=>exact ⟨0,Nat.zero_le _,rfl,X0'.out,B0⟩
 case round=>
  obtain ⟨r,hr,rfl,hX,hb⟩:=hrel
  have HX:=Lib.hid hX
  clear hX X0' B0
  by_cases hlt:r < ms.length
  ·go_wp2_with fail
   have hT0:=HL.out r
   have HNX:=Lib.hid (HS.out r)
   generalize hR1:RN (r+1)=R1 at *
   generalize hR0:RN r=T0 at *
   have HR1:=Lib.hid hR1;have HR0:=Lib.hid hR0
   clear hR1 hR0
   go_loopw [5] (fun u wr=>∃i:Nat,i≤ms.length∧u=.int .i64 i∧Box wr w.heap.size 4 (((List.range i).foldl (endStep (toM ms) (fndM ms true)) T0).map Value.bool)∧Below w.heap.size w wr) (fun u _=>ms.length - (intOf u).toNat)
   case atStart=>exact ⟨0,Nat.zero_le _,rfl,HX.out,hb⟩
   case round=>
    clear HX hb
    obtain ⟨i,hi,rfl,hX,hb⟩:=hrel
    have HX:=Lib.hid hX
    clear hX
    by_cases hlti:i < ms.length
    ·obtain ⟨b1,o1,rfl,hbl,hcell⟩:=(HA.out.below hb).at hlti
     obtain ⟨C,cc,c0,c1,c2,hcc,hC⟩:=hcell i hlti
     have hzi:=HZ.out i hlti
     have hto:=toM_at hlti
     have hTl:((List.range i).foldl (endStep (toM ms) (fndM ms true)) T0).length=ms.length:=by rw [endFold_len];exact hT0
     have HST:=Lib.hid (show (List.range (i+1)).foldl (endStep (toM ms) (fndM ms true)) T0=((List.range i).foldl (endStep (toM ms) (fndM ms true)) T0).set i (allE (fndM ms true) ((List.range i).foldl (endStep (toM ms) (fndM ms true)) T0) ms[i].to) from by
      rw [List.range_succ,List.foldl_append]
      simp only [List.foldl_cons,List.foldl_nil]
      unfold endStep endE allE
      rw [hto]
      rfl)
     clear hto hcell
     generalize (List.range i).foldl (endStep (toM ms) (fndM ms true)) T0=T at *
     generalize hT1:(List.range (i+1)).foldl (endStep (toM ms) (fndM ms true)) T0=T1 at *
     have HT1:=Lib.hid hT1
     clear hT1
     generalize ms[i].frm=mf at *
     generalize ms[i].to=mt at *
     generalize ms[i].tag=mg at *
     have HC:=Lib.hid hC
     have HM:=Lib.hid (HA.out.below hb)
     clear hC HA
     go_wp2_with fail
     go_loop [6,7] (fun v u=>∃k':Nat,k'≤mt.length∧v=.bool (allE (fndM ms true) T (mt.take k'))∧u=.int .i64 k') (fun _ u=>mt.length - (intOf u).toNat)
     case atStart=>exact ⟨0,Nat.zero_le _,rfl,rfl⟩
     case round=>
      obtain ⟨k',hk',rfl,rfl⟩:=hrel
      by_cases hltk:k' < mt.length
      ·obtain ⟨b2,o2,rfl,hc2⟩:=HC.out.at hltk
       have d0:=hc2 k' hltk
       have hAL:allE (fndM ms true) T (mt.take (k'+1))=(allE (fndM ms true) T (mt.take k')&&(match fndM ms true mt[k'] with | none=>true | some m=>T.getD m false)):=endE_k hltk
       clear hc2
       generalize mt[k']=z at *
       generalize allE (fndM ms true) T (mt.take k')=a at *
       have FZ:=Lib.hid (FD.out z wr HM.out)
       rcases HF.out z with ⟨h1,h2⟩ | ⟨m,hm,h1,h2⟩
       ·rw [h1,Bool.and_true] at hAL
        rw [h2] at FZ
        have HAL:=Lib.hid hAL
        clear hAL h1 h2
        cases a with
        | true=>
         go_wp2_with fail
         with_reducible refine FZ.out.mono ?_
         rintro e W' ⟨rfl,rfl⟩
         go_wp2_with fail
         go_round
         case rel=>exact ⟨k'+1,by omega,by rw [HAL.out],by go_num⟩
         case measure=>simp [intOf];omega
        | false=>
         go_wp2_with fail
         with_reducible refine FZ.out.mono ?_
         rintro e W' ⟨rfl,rfl⟩
         go_wp2_with fail
         go_round
         case rel=>exact ⟨k'+1,by omega,by rw [HAL.out],by go_num⟩
         case measure=>simp [intOf];omega
       ·have hg:T.getD m false=T[m]'(by omega):=by simp [List.getD,hTl,hm]
        have e0:wr.cell? ⟨w.heap.size,m,none⟩=some (.bool (T[m]'(by omega))):=HX.out.cell (by simp [hTl,hm])
        rw [h1] at hAL
        simp only [hg] at hAL
        rw [h2] at FZ
        generalize T[m]'(by omega)=tm at *
        have HAL:=Lib.hid hAL
        clear hAL h1 h2 hg
        cases a with
        | true=>
         cases tm with
         | true=>
          go_wp2_with fail
          with_reducible refine FZ.out.mono ?_
          rintro e W' ⟨rfl,rfl⟩
          go_wp2_with fail
          go_round
          case rel=>exact ⟨k'+1,by omega,by rw [HAL.out];rfl,by go_num⟩
          case measure=>simp [intOf];omega
         | false=>
          go_wp2_with fail
          with_reducible refine FZ.out.mono ?_
          rintro e W' ⟨rfl,rfl⟩
          go_wp2_with fail
          go_round
          case rel=>exact ⟨k'+1,by omega,by rw [HAL.out];rfl,by go_num⟩
          case measure=>simp [intOf];omega
        | false=>
         go_wp2_with fail
         with_reducible refine FZ.out.mono ?_
         rintro e W' ⟨rfl,rfl⟩
         go_wp2_with fail
         go_round
         case rel=>exact ⟨k'+1,by omega,by rw [HAL.out];rfl,by go_num⟩
         case measure=>simp [intOf];omega
      ·obtain rfl:k'=mt.length:=by omega
       have e1:wr.frozen? ⟨w.heap.size,i,none⟩=false:=HX.out.free i
       have e0:wr.cell? ⟨w.heap.size,i,none⟩=some (.bool (T[i]'(by omega))):=HX.out.cell (by simp [hTl,hlti])
       have HK:=Lib.hid (show Box (wr.setCell ⟨w.heap.size,i,none⟩ (.bool (allE (fndM ms true) T mt))) w.heap.size 4 (T1.map Value.bool) from by
        have:=HX.out.set i (.bool (allE (fndM ms true) T mt))
        rw [HST.out,List.map_set]
        exact this)
       have hb9:Below w.heap.size w (wr.setCell ⟨w.heap.size,i,none⟩ (.bool (allE (fndM ms true) T mt))):=hb.setCell (Nat.le_refl _) _
       rw [List.take_length]
       generalize allE (fndM ms true) T mt=x at *
       go_wp2_with fail
       go_roundw
       case rel=>exact ⟨i+1,by omega,by go_num,by rw [HT1.out];exact HK.out,hb9⟩
       case measure=>simp [intOf];omega
    ·obtain rfl:i=ms.length:=by omega
     go_wp2_with fail
     go_roundw
     case rel=>exact ⟨r+1,by omega,by go_num,by rw [HR1.out,HNX.out];exact HX.out,hb⟩
     case measure=>simp [intOf];omega
  ·obtain rfl:r=ms.length:=by omega
   have hl:=HL.out ms.length
   have HXB:=Lib.hid (HX.out.sl)
   generalize RN ms.length=RR at *
   go_wp2_with fail
   go_ret
   exact ⟨some ⟨w.heap.size,0,none⟩,ms.length,by rw [hl];rfl,by omega,HXB.out,hb⟩
end Go.Proofs.YtijgbonhjcblcaaGreatDoor
namespace Go.Proofs.YtijgbonhjcblcaaGreatDoor
open Go.RowKit Go.Maps Go.WideMaps
def LenB (L:List Int):Prop:=∀x ∈ L,0≤x∧x≤65
theorem LenB.getD {L:List Int} (h:LenB L) (i:Nat):0≤L.getD i 0∧L.getD i 0≤65:=by
 by_cases hi:i < L.length
 ·have:=h _ (List.getElem_mem hi)
  simpa [List.getD,hi] using this
 ·simp [List.getD,Nat.le_of_not_lt hi]
theorem dlM_bd (e:Int):0≤dlM e∧dlM e≤3:=by
 unfold dlM
 by_cases h4:4≤Hg.kind e
 ·have:=(decomp_kids h4).1;omega
 ·rw [decomp_no (by omega)];simp
theorem lenE_bd {L:List Int} (h:LenB L) (fnd:Int→Option Nat) (e:Int):0≤lenE fnd dlM L e∧lenE fnd dlM L e≤65:=by
 unfold lenE
 cases fnd e with
 | none=>have:=dlM_bd e;dsimp only;omega
 | some m=>exact h.getD m
theorem lenV_bd {L:List Int} {to:Nat→List Int} {fnd:Int→Option Nat} (i:Nat):0≤lenV to fnd dlM capE L i∧lenV to fnd dlM capE L i≤65:=by unfold lenV capE;omega
theorem LenB.step {L:List Int} (h:LenB L) (to:Nat→List Int) (fnd:Int→Option Nat) (skip:Nat→Bool) (i:Nat):LenB (lenStep to fnd dlM capE skip L i):=by
 intro x hx
 unfold lenStep at hx
 rcases List.mem_or_eq_of_mem_set hx with hx | hx
 ·exact h x hx
 ·subst hx
  split
  ·omega
  ·exact lenV_bd i
theorem LenB.fold (to:Nat→List Int) (fnd:Int→Option Nat) (skip:Nat→Bool) (s:List Nat):∀{L:List Int},LenB L→LenB (s.foldl (lenStep to fnd dlM capE skip) L):=by
 induction s with
 | nil=>intro L h;exact h
 | cons x s ih=>intro L h;exact ih (h.step to fnd skip x)
theorem lenFold_len (to:Nat→List Int) (fnd:Int→Option Nat) (skip:Nat→Bool) (s:List Nat):∀L:List Int,(s.foldl (lenStep to fnd dlM capE skip) L).length=L.length:=by
 induction s with
 | nil=>intro T;rfl
 | cons x s ih=>intro T;exact (ih _).trans (by simp [lenStep])
theorem lnds_ok (ms:List Mp) (compat:Bool) (r:Nat):(lnds ms compat r).length=ms.length∧LenB (lnds ms compat r):=by
 induction r with
 | zero=>exact ⟨by simp [lnds],fun x hx=>by rw [List.eq_of_mem_replicate hx];omega⟩
 | succ r ih=>exact ⟨by rw [lnds,lenFold_len,ih.1],ih.2.fold _ _ _ _⟩
def sumE (fnd:Int→Option Nat) (L:List Int) (l:List Int):Int:=(l.map (lenE fnd dlM L)).sum
theorem sumE_k {to:List Int} {fnd:Int→Option Nat} {L:List Int} {k:Nat} (hk:k < to.length):sumE fnd L (to.take (k+1))=sumE fnd L (to.take k)+lenE fnd dlM L to[k]:=by
 unfold sumE
 rw [List.take_succ_eq_append_getElem hk,List.map_append,List.sum_append]
 simp
theorem sumE_bd {L:List Int} (h:LenB L) (fnd:Int→Option Nat) (l:List Int):0≤sumE fnd L l∧sumE fnd L l≤65*l.length:=by
 unfold sumE
 induction l with
 | nil=>simp
 | cons x l ih=>
  have:=lenE_bd h fnd x
  rw [List.map_cons,List.sum_cons,List.length_cons]
  omega
theorem lengths_any (A:Option Addr) (n k:Nat) (ms:List Mp) (compat:Bool) (w:World) (hA:Mps w A ms) (hn:ms.length=n) (hbig:n≤1048576) (hz:∀i,(hi:i < ms.length)→ms[i].to.length≤1048576) :
  Calls Tryz.prog 41 #[.slice A n k,.bool compat] w (RetHg (lensM ms compat) w):=by
 subst hn
 have FD:=Lib.hid (fun c W (hW:Mps W A ms)=>find_any A ms.length k ms c compat W hW rfl hbig)
 have DC:=Lib.hid (fun c W=>refDecompose_any c W)
 have HA:=Lib.hid hA
 have HZ:=Lib.hid hz
 have HF:=Lib.hid (fun c=>fndV_cases ms compat c)
 have hmk:=mk_ints ms.length hbig
 clear hA hz
 have HL:=Lib.hid (fun r=>lnds_ok ms compat r)
 have HS:=Lib.hid (fun r=>show lnds ms compat (r+1)=(List.range ms.length).foldl (lenStep (toM ms) (fndM ms compat) dlM capE (skipM ms compat)) (lnds ms compat r) from rfl)
 have H0:=Lib.hid (show (lnds ms compat 0).map (Value.int .i64)=repV ms.length (Value.int .i64 0) from by simp [lnds,repV])
 have HE:=Lib.hid (show lensM ms compat=lnds ms compat ms.length from rfl)
 generalize lnds ms compat=RN at *
 generalize lensM ms compat=RE at *
 go_enter Tryz.func41,Tryz.ntmps41
 go_wp2_with fail
 have B0:Below w.heap.size w (w.alloc (.cells (repV ms.length (Value.int .i64 0)).toArray 3)):=(Below.refl _ _).alloc (Nat.le_refl _) _
 have X0:Box (w.alloc (.cells (repV ms.length (Value.int .i64 0)).toArray 3)) w.heap.size 3 (repV ms.length (Value.int .i64 0)):=Box.new _ _ _ rfl
 obtain ⟨W0,hW0⟩:∃W0,(w.alloc (.cells (repV ms.length (Value.int .i64 0)).toArray 3))=W0:=⟨_,rfl⟩
 rw [hW0] at B0 X0 ⊢
 clear hW0
 rw [←H0.out] at X0
 have X0':=Lib.hid X0
 clear X0 H0
 go_loopw [6] (fun u wr=>∃r:Nat,r≤ms.length∧u=.int .i64 r∧Box wr w.heap.size 3 ((RN r).map (Value.int .i64))∧Below w.heap.size w wr) (fun u _=>ms.length - (intOf u).toNat)
 case atStart=>exact ⟨0,Nat.zero_le _,rfl,X0'.out,B0⟩
 case round=>
  obtain ⟨r,hr,rfl,hX,hb⟩:=hrel
  have HX:=Lib.hid hX
  clear hX X0' B0
  by_cases hlt:r < ms.length
  ·go_wp2_with fail
   have hT0:=(HL.out r).1
   have HB0:=Lib.hid (HL.out r).2
   have HNX:=Lib.hid (HS.out r)
   generalize hR1:RN (r+1)=R1 at *
   generalize hR0:RN r=T0 at *
   have HR1:=Lib.hid hR1;have HR0:=Lib.hid hR0
   clear hR1 hR0
   go_loopw [7] (fun u wr=>∃i:Nat,i≤ms.length∧u=.int .i64 i∧Box wr w.heap.size 3 (((List.range i).foldl (lenStep (toM ms) (fndM ms compat) dlM capE (skipM ms compat)) T0).map (Value.int .i64))∧Below w.heap.size w wr) (fun u _=>ms.length - (intOf u).toNat)
   case atStart=>exact ⟨0,Nat.zero_le _,rfl,HX.out,hb⟩
   case round=>
    clear HX hb
    obtain ⟨i,hi,rfl,hX,hb⟩:=hrel
    have HX:=Lib.hid hX
    clear hX
    by_cases hlti:i < ms.length
    ·obtain ⟨b1,o1,rfl,hbl,hcell⟩:=(HA.out.below hb).at hlti
     have hzi:=HZ.out i hlti
     have hto:=toM_at hlti
     have hsk:skipM ms compat i=(!compat&&decide (¬ms[i].tag.size=0)):=by simp [skipM,List.getD,hlti]
     have hTl:((List.range i).foldl (lenStep (toM ms) (fndM ms compat) dlM capE (skipM ms compat)) T0).length=ms.length:=by rw [lenFold_len];exact hT0
     have HTB:=Lib.hid (LenB.fold (toM ms) (fndM ms compat) (skipM ms compat) (List.range i) HB0.out)
     have HST:=Lib.hid (show (List.range (i+1)).foldl (lenStep (toM ms) (fndM ms compat) dlM capE (skipM ms compat)) T0=((List.range i).foldl (lenStep (toM ms) (fndM ms compat) dlM capE (skipM ms compat)) T0).set i (if (!compat&&decide (¬ms[i].tag.size=0))=true then 1 else min (max (sumE (fndM ms compat) ((List.range i).foldl (lenStep (toM ms) (fndM ms compat) dlM capE (skipM ms compat)) T0) ms[i].to) 1) 65) from by
      rw [List.range_succ,List.foldl_append]
      simp only [List.foldl_cons,List.foldl_nil]
      conv=>lhs;unfold lenStep lenV
      rw [hto,hsk]
      rfl)
     clear hto hsk
     have HCE:=Lib.hid hcell
     clear hcell
     generalize (List.range i).foldl (lenStep (toM ms) (fndM ms compat) dlM capE (skipM ms compat)) T0=T at *
     generalize hT1:(List.range (i+1)).foldl (lenStep (toM ms) (fndM ms compat) dlM capE (skipM ms compat)) T0=T1 at *
     have HT1:=Lib.hid hT1
     clear hT1
     have HSB:=Lib.hid (fun l=>sumE_bd HTB.out (fndM ms compat) l)
     go_wp2_with fail
     go_loopw [8,9] (fun v u wr=>∃k':Nat,k'≤ms[i].to.length∧v=.int .i64 (sumE (fndM ms compat) T (ms[i].to.take k'))∧u=.int .i64 k'∧Box wr w.heap.size 3 (T.map (Value.int .i64))∧Below w.heap.size w wr) (fun _ u _=>ms[i].to.length - (intOf u).toNat)
     case atStart=>exact ⟨0,Nat.zero_le _,rfl,rfl,HX.out,hb⟩
     case round=>
      clear HX hb HCE hbl
      obtain ⟨k',hk',rfl,rfl,hX,hb⟩:=hrel
      have HX:=Lib.hid hX
      clear hX
      have hM:=HA.out.below hb
      obtain ⟨b1',o1',e1,hbl,hcell⟩:=hM.at hlti
      injection e1 with e1
      injection e1 with e1 e2
      subst e1;subst e2
      obtain ⟨C,cc,c0,c1,c2,hcc,hC⟩:=hcell i hlti
      have HC:=Lib.hid hC
      have HM:=Lib.hid hM
      clear hC hM hcell
      generalize ms[i].frm=mf at *
      generalize ms[i].to=mt at *
      generalize ms[i].tag=mg at *
      by_cases hltk:k' < mt.length
      ·obtain ⟨b2,o2,rfl,hc2⟩:=HC.out.at hltk
       have d0:=hc2 k' hltk
       have hAL:=sumE_k (fnd:=fndM ms compat) (L:=T) hltk
       have s1:=HSB.out (mt.take k')
       rw [List.length_take] at s1
       clear hc2
       generalize mt[k']=z at *
       have s2:=lenE_bd HTB.out (fndM ms compat) z
       have FZ:=Lib.hid (FD.out z wr HM.out)
       unfold lenE at hAL s2
       generalize hs:sumE (fndM ms compat) T (mt.take k')=s at *
       have HSU:=Lib.hid hs
       clear hs
       rcases HF.out z with ⟨h1,h2⟩ | ⟨m,hm,h1,h2⟩
       ·rw [h1] at hAL s2
        rw [h2] at FZ
        dsimp only at hAL s2
        have HAL:=Lib.hid hAL
        have DZ:=Lib.hid (DC.out z wr)
        have HDL:=Lib.hid (show ((Hg.decomp z).length:Int)=dlM z from rfl)
        clear hAL h1 h2
        generalize dlM z=dz at *
        generalize Hg.decomp z=dzl at *
        go_wp2_with fail
        with_reducible refine FZ.out.mono ?_
        rintro e W' ⟨rfl,rfl⟩
        go_wp2_with fail
        with_reducible refine DZ.out.mono ?_
        rintro e W' ⟨A3,c3,rfl,hc3,_,hb3⟩
        have hl:=HDL.out
        clear c0 c1 c2 d0
        go_wp2_with fail
        go_roundw
        case rel=>exact ⟨k'+1,by omega,by rw [HAL.out],by go_num,HX.out.below hb3 (by have:=HX.out.lt;omega),hb.trans (hb3.mono hb.size)⟩
        case measure=>simp [intOf];omega
       ·have hg:T.getD m 0=T[m]'(by omega):=by simp [List.getD,hTl,hm]
        have e0:wr.cell? ⟨w.heap.size,m,none⟩=some (.int .i64 (T[m]'(by omega))):=HX.out.cell (by simp [hTl,hm])
        rw [h1] at hAL s2
        simp only [hg] at hAL s2
        rw [h2] at FZ
        generalize T[m]'(by omega)=tm at *
        have HAL:=Lib.hid hAL
        clear hAL h1 h2 hg
        go_wp2_with fail
        with_reducible refine FZ.out.mono ?_
        rintro e W' ⟨rfl,rfl⟩
        go_wp2_with fail
        go_roundw
        case rel=>exact ⟨k'+1,by omega,by rw [HAL.out],by go_num,HX.out,hb⟩
        case measure=>simp [intOf];omega
      ·obtain rfl:k'=mt.length:=by omega
       have e1:wr.frozen? ⟨w.heap.size,i,none⟩=false:=HX.out.free i
       have e0:wr.cell? ⟨w.heap.size,i,none⟩=some (.int .i64 (T[i]'(by omega))):=HX.out.cell (by simp [hTl,hlti])
       rw [List.take_length]
       have HK:=Lib.hid (fun (v:Int) (hv:v=min (max (sumE (fndM ms compat) T mt) 1) 65) (hc:compat=true∨mg.size=0)=>show Box (wr.setCell ⟨w.heap.size,i,none⟩ (.int .i64 v)) w.heap.size 3 (T1.map (Value.int .i64)) from by
        have:=HX.out.set i (.int .i64 v)
        rw [HST.out,if_neg (by rcases hc with hc | hc <;> simp [hc]),←hv,List.map_set]
        exact this)
       have HK2:=Lib.hid (fun (v:Int) (hc:compat=false) (hg:¬mg.size=0)=>show Box ((wr.setCell ⟨w.heap.size,i,none⟩ (.int .i64 v)).setCell ⟨w.heap.size,i,none⟩ (.int .i64 1)) w.heap.size 3 (T1.map (Value.int .i64)) from by
        have:=(HX.out.set i (.int .i64 v)).set i (.int .i64 1)
        rw [List.set_set] at this
        rw [HST.out,if_pos (by simp [hc];intro h;exact hg (by rw [h];rfl)),List.map_set]
        exact this)
       generalize sumE (fndM ms compat) T mt=x at *
       have MM:=Lib.hid (show (if 65 < if x < 1 then 1 else x then (65:Int) else if x < 1 then 1 else x)=min (max x 1) 65 from by omega)
       by_cases hg:mg.size=0
       ·have g0:mg.toList=[]:=str_nil hg
        go_wp2_with fail
        go_roundw
        case rel=>exact ⟨i+1,by omega,by go_num,by rw [HT1.out];exact HK.out _ MM.out (.inr hg),hb.setCell (Nat.le_refl _) _⟩
        case measure=>simp [intOf];omega
       ·have g0:¬mg.toList=[]:=str_cons hg
        have g1:mg.toList.isEmpty=false:=by simpa using g0
        cases compat with
        | true=>
         go_wp2_with fail
         go_roundw
         case rel=>exact ⟨i+1,by omega,by go_num,by rw [HT1.out];exact HK.out _ MM.out (.inl rfl),hb.setCell (Nat.le_refl _) _⟩
         case measure=>simp [intOf];omega
        | false=>
         go_wp2_with fail
         go_roundw
         case rel=>exact ⟨i+1,by omega,by go_num,by rw [HT1.out];exact HK2.out _ rfl hg,(hb.setCell (Nat.le_refl _) _).setCell (Nat.le_refl _) _⟩
         case measure=>simp [intOf];omega
    ·obtain rfl:i=ms.length:=by omega
     go_wp2_with fail
     go_roundw
     case rel=>exact ⟨r+1,by omega,by go_num,by rw [HR1.out,HNX.out];exact HX.out,hb⟩
     case measure=>simp [intOf];omega
  ·obtain rfl:r=ms.length:=by omega
   have hl:=(HL.out ms.length).1
   have HXB:=Lib.hid (HX.out.sl)
   have hE:=HE.out
   generalize RN ms.length=RR at *
   subst hE
   go_wp2_with fail
   go_ret
   exact ⟨some ⟨w.heap.size,0,none⟩,ms.length,by rw [hl];rfl,by omega,HXB.out,hb⟩
end Go.Proofs.YtijgbonhjcblcaaGreatDoor
namespace Go.Proofs.YtijgbonhjcblcaaGreatDoor
open Go.RowKit Go.Maps Go.WideMaps
def RowsAt (w:World) (B:Option Addr) (T:List (List Int)):Prop:=∃vs:List Value,Sl w B vs∧vs.length=T.length∧∀i,(hi:i < T.length)→(hv:i < vs.length)→∃C c,vs[i]=.slice C T[i].length c∧T[i].length≤c∧Ints w C T[i]
theorem RowsAt.below {w w':World} {B:Option Addr} {T:List (List Int)} (h:RowsAt w B T) (hb:Below w.heap.size w w'):RowsAt w' B T:=by
 obtain ⟨vs,h1,h2,h3⟩:=h
 exact ⟨vs,h1.below hb,h2,fun i hi hv=>by obtain ⟨C,c,e1,e2,e3⟩:=h3 i hi hv;exact ⟨C,c,e1,e2,e3.below hb⟩⟩
theorem RowsAt.at {w:World} {B:Option Addr} {T:List (List Int)} (h:RowsAt w B T) {m:Nat} (hm:m < T.length):∃b o C c,B=some ⟨b,o,none⟩∧w.cell? ⟨b,o+m,none⟩=some (.slice C T[m].length c)∧T[m].length≤c∧Ints w C T[m]:=by
 obtain ⟨vs,h1,h2,h3⟩:=h
 have hv:m < vs.length:=by omega
 obtain ⟨C,c,e1,e2,e3⟩:=h3 m hm hv
 obtain ⟨b,o,hB,hc⟩:=h1.at hv
 exact ⟨b,o,C,c,hB,hc m _ (by rw [List.getElem?_eq_getElem hv,e1]),e2,e3⟩
theorem ints_off {W:World} {b i:Nat} {t:TypeId} {cs:List Value} {v:Value} {E:Option Addr} {R:List Int} (h:Ints W E R) (hX:Box W b t cs) (hv:∀(j:Nat) (z:Int),¬cs[j]?=some (Value.int .i64 z)):Ints (W.setCell ⟨b,i,none⟩ v) E R:=by
 intro hne
 obtain ⟨b',o,hA,hc⟩:=h hne
 refine ⟨b',o,hA,fun j u hu=>?_⟩
 have h1:=hc j u hu
 refine (World.cell?_setCell_far _ _ _ _ (fun e=>?_)).trans h1
 have e':b=b':=e
 subst e'
 obtain ⟨z,rfl⟩:∃z,u=.int .i64 z:=by
  have hm:=List.mem_of_getElem? hu
  obtain ⟨z,_,rfl⟩:=List.mem_map.1 hm
  exact ⟨z,rfl⟩
 unfold Box at hX
 simp [World.cell?,hX] at h1
 exact hv _ _ h1
def BoxRows (w:World) (b:Nat) (T:List (List Int)):Prop:=∃vs:List Value,Box w b 37 vs∧vs.length=T.length∧∀i,(hi:i < T.length)→(hv:i < vs.length)→∃C c,vs[i]=.slice C T[i].length c∧T[i].length≤c∧Ints w C T[i]
theorem BoxRows.lt {w:World} {b:Nat} {T:List (List Int)} (h:BoxRows w b T):b < w.heap.size:=by obtain ⟨vs,h1,_⟩:=h;exact h1.lt
theorem BoxRows.below {w w':World} {b:Nat} {T:List (List Int)} (h:BoxRows w b T) (hb:Below w.heap.size w w'):BoxRows w' b T:=by
 obtain ⟨vs,h1,h2,h3⟩:=h
 exact ⟨vs,h1.below hb h1.lt,h2,fun i hi hv=>by obtain ⟨C,c,e1,e2,e3⟩:=h3 i hi hv;exact ⟨C,c,e1,e2,e3.below hb⟩⟩
theorem BoxRows.set {w:World} {b:Nat} {T:List (List Int)} (h:BoxRows w b T) {i:Nat} {E:Option Addr} {l:List Int} {d:Nat} (hd:l.length≤d) (hE:Ints w E l):BoxRows (w.setCell ⟨b,i,none⟩ (.slice E l.length d)) b (T.set i l):=by
 obtain ⟨vs,h1,h2,h3⟩:=h
 have hno:∀(j:Nat) (z:Int),¬vs[j]?=some (Value.int .i64 z):=by
  intro j z e
  obtain ⟨hj,e2⟩:=List.getElem?_eq_some_iff.1 e
  obtain ⟨C,c,e1,_⟩:=h3 j (by omega) hj
  rw [e1] at e2
  cases e2
 refine ⟨_,h1.set i _,by simp [h2],fun j hj hv=>?_⟩
 rw [List.getElem_set,List.getElem_set]
 by_cases hij:i=j
 ·subst hij
  rw [if_pos rfl,if_pos rfl]
  exact ⟨E,d,rfl,hd,ints_off hE h1 hno⟩
 ·rw [if_neg hij,if_neg hij]
  simp only [List.length_set] at hj hv
  obtain ⟨C,c,e1,e2,e3⟩:=h3 j hj hv
  exact ⟨C,c,e1,e2,ints_off e3 h1 hno⟩
theorem BoxRows.cell {w:World} {b:Nat} {T:List (List Int)} (h:BoxRows w b T) {i:Nat} (hi:i < T.length):(∃v,w.cell? ⟨b,i,none⟩=some v)∧w.frozen? ⟨b,i,none⟩=false:=by
 obtain ⟨vs,h1,h2,h3⟩:=h
 exact ⟨⟨_,h1.cell (List.getElem?_eq_getElem (by omega))⟩,h1.free i⟩
theorem BoxRows.new (w:World) (n:Nat):BoxRows (w.alloc (.cells (repV n (Value.slice none 0 0)).toArray 37)) w.heap.size (List.replicate n []):=by
 refine ⟨_,Box.new w 37 (repV n (Value.slice none 0 0)) rfl,by simp [repV],fun i hi hv=>⟨none,0,?_,?_,?_⟩⟩
 ·simp [repV]
 ·simp
 ·rw [List.getElem_replicate];exact Sl.nil _ _
theorem mk_rows (n:Nat) (hn:n≤1048576) (W:World):(Instr.makeSlice 46 (.int .i64 n) (.int .i64 n)).run Tryz.prog W=.ok (.slice (some ⟨W.heap.size,0,none⟩) n n) (W.alloc (.cells (repV n (Value.slice none 0 0)).toArray 37)):=by
 have info_rows:(Tryz.prog.info? 37).map (fun i=>(i.zero,i.size,i.bytes))=some (some (.slice none 0 0),1,24):=by kernel_rfl
 obtain ⟨i,hi,hz,hsize,hbytes⟩:=info_parts info_rows
 have:=run_make (P:=Tryz.prog) W 46 37 i (.slice none 0 0) Tryz.underlying46 hi hz .i64 .i64 n n (by omega) (by omega) (by rw [hbytes];omega) (by omega)
 rw [this,hsize]
 simp only [Int.toNat_natCast,Nat.mul_one,made_rep (.slice none 0 0) rfl]
section
variable {fnd:Int→Option Nat} {T:List (List Int)}
end
def TabOk (ms:List Mp) (compat:Bool) (T:List (List Int)):Prop:=TabLe ms compat T∧TabSk ms compat T
theorem TabOk.start (ms:List Mp) (compat:Bool):TabOk ms compat (List.replicate ms.length []):=⟨TabLe.start ms compat,fun i _=>by
 by_cases hi:i < ms.length
 ·simp [List.getD,hi]
 ·simp [List.getD,hi]⟩
end Go.Proofs.YtijgbonhjcblcaaGreatDoor
namespace Go.Proofs.YtijgbonhjcblcaaGreatDoor
open Go.RowKit
def blk (A:Option Addr):Option Nat:=A.map (fun a=>a.block)
theorem ownBlock_blk (A:Option Addr) (n c:Nat):Value.ownBlock (.slice A n c)=blk A:=by cases A <;> rfl
def upd {α:Type} (f:Nat→α) (j:Nat) (v:α):Nat→α:=fun k=>if k=j then v else f k
theorem upd_at {α:Type} (f:Nat→α) (j:Nat) (v:α):upd f j v j=v:=if_pos rfl
theorem upd_ne {α:Type} {f:Nat→α} {j k:Nat} {v:α} (h:k≠j):upd f j v k=f k:=if_neg h
structure R4 (w:World) (base:Nat) (A:Nat→Option Addr) (C:Nat→Nat) (R:Nat→List Int):Prop where
 own:∀k,k < 4→w.ownsRow base 3 1 (.slice (A k) (R k).length (C k)) (R k).length ((R k).map (Value.int .i64))
 ne:∀j k,j < 4→k < 4→j≠k→blk (A j)=none∨blk (A j)≠blk (A k)
section
variable {w w':World} {base:Nat} {A:Nat→Option Addr} {C:Nat→Nat} {R:Nat→List Int}
theorem R4.nil (w:World) (base:Nat):R4 w base (fun _=>none) (fun _=>0) (fun _=>[]):=⟨fun _ _=>World.ownsRow_nil _ _ _ _,fun _ _ _ _ _=>.inl rfl⟩
theorem R4.lt (h:R4 w base A C R) {k q:Nat} (hk:k < 4) (hq:blk (A k)=some q):base≤q∧q < w.heap.size:=(h.own k hk).lt q (by rw [ownBlock_blk];exact hq)
theorem R4.keep (h:R4 w base A C R) {q:Nat} (hg:w.grownBy w' (some q)) (hq:q < base):R4 w' base A C R:=by
 refine ⟨fun k hk=>(h.own k hk).kept hg ?_,h.ne⟩
 rw [ownBlock_blk]
 cases hb:blk (A k) with
 | none=>exact .inl rfl
 | some g=>
  right
  intro e
  injection e with e
  have:=(h.lt hk hb).1
  omega
theorem R4.below (h:R4 w base A C R) (hb:Below w.heap.size w w'):R4 w' base A C R:=⟨fun k hk=>own_keep (h.own k hk) hb,h.ne⟩
theorem R4.put (h:R4 w base A C R) {j:Nat} (hj:j < 4) {B:Option Addr} {k:Nat} {zs:List Int} (ho:w'.ownsRow base 3 1 (.slice B zs.length k) zs.length (zs.map (Value.int .i64))) (hg:w.grownBy w' (blk (A j))) (hB:B=A j∨B=some ⟨w.heap.size,0,none⟩) :
  R4 w' base (upd A j B) (upd C j k) (upd R j zs):=by
 refine ⟨fun i hi=>?_,fun i l hi hl hne=>?_⟩
 ·by_cases e:i=j
  ·subst e
   rw [upd_at,upd_at,upd_at]
   exact ho
  ·rw [upd_ne e,upd_ne e,upd_ne e]
   refine (h.own i hi).kept hg ?_
   rw [ownBlock_blk]
   exact h.ne i j hi hj e
 ·have nb:∀i,i < 4→i≠j→blk (A i)=none∨blk (A i)≠blk B:=fun i hi e=>by
   rcases hB with rfl | rfl
   ·exact h.ne i j hi hj e
   ·cases hb:blk (A i) with
    | none=>exact .inl rfl
    | some g=>
     right
     intro e2
     have e3:g=w.heap.size:=by injection e2
     have:=(h.lt hi hb).2
     omega
  by_cases e:i=j
  ·subst e
   rw [upd_at,upd_ne (fun g=>hne g.symm)]
   cases hb:blk B with
   | none=>exact .inl rfl
   | some g=>
    right
    rcases nb l hl (fun g=>hne g.symm) with g1 | g1
    ·rw [g1];simp
    ·rw [hb] at g1;exact fun e=>g1 e.symm
  ·rw [upd_ne e]
   by_cases e2:l=j
   ·subst e2
    rw [upd_at]
    exact nb i hi e
   ·rw [upd_ne e2]
    exact h.ne i l hi hl hne
end
def lcs (A:Nat→Option Addr) (C:Nat→Nat) (R:Nat→List Int):List Value:=[.slice (A 0) (R 0).length (C 0),.slice (A 1) (R 1).length (C 1),.slice (A 2) (R 2).length (C 2),.slice (A 3) (R 3).length (C 3)]
theorem lcs_put (A:Nat→Option Addr) (C:Nat→Nat) (R:Nat→List Int) {j:Nat} (hj:j < 4) (B:Option Addr) (k:Nat) (zs:List Int):(lcs A C R).set j (.slice B zs.length k)=lcs (upd A j B) (upd C j k) (upd R j zs):=by
 match j,hj with
 | 0,_=>rfl
 | 1,_=>rfl
 | 2,_=>rfl
 | 3,_=>rfl
theorem lcs_len (A:Nat→Option Addr) (C:Nat→Nat) (R:Nat→List Int):(lcs A C R).length=4:=rfl
def mixR (r r':Nat→List Int) (j:Nat):Nat→List Int:=fun k=>if k < j then r' k else r k
theorem mixR_zero (r r':Nat→List Int):mixR r r' 0=r:=by funext k;unfold mixR;rw [if_neg (by omega)]
theorem mixR_next {r r':Nat→List Int} {j:Nat}:upd (mixR r r' j) j (r' j)=mixR r r' (j+1):=by
 funext k
 unfold upd mixR
 by_cases e:k=j
 ·subst e;rw [if_pos rfl,if_pos (by omega)]
 ·rw [if_neg e]
  by_cases g:k < j
  ·rw [if_pos g,if_pos (by omega)]
  ·rw [if_neg g,if_neg (by omega)]
theorem mixR_same {r r':Nat→List Int} {j:Nat} (h:r' j=r j):mixR r r' (j+1)=mixR r r' j:=by
 funext k
 unfold mixR
 by_cases e:k=j
 ·subst e;rw [if_pos (by omega),if_neg (by omega),h]
 ·by_cases g:k < j
  ·rw [if_pos g,if_pos (by omega)]
  ·rw [if_neg g,if_neg (by omega)]
theorem mixR_all {r r':Nat→List Int} {A:Nat→Option Addr} {C:Nat→Nat} {w:World} {base:Nat} (h:R4 w base A C (mixR r r' 4)):R4 w base A C r'∧lcs A C (mixR r r' 4)=lcs A C r':=
 ⟨⟨fun k hk=>by have:=h.own k hk;unfold mixR at this;simp only [if_pos hk] at this;exact this,h.ne⟩,rfl⟩
theorem rows_lcs {w:World} {base:Nat} {A:Nat→Option Addr} {C:Nat→Nat} {R:Nat→List Int} (h:R4 w base A C R) {k:Nat} (hk:k≤4) {E:Option Addr} (hE:Sl w E ((lcs A C R).take k)):RowsAt w E ((List.range k).map R):=by
 refine ⟨(lcs A C R).take k,hE,by rw [List.length_take,lcs_len];simp;omega,fun i hi hv=>?_⟩
 have hi4:i < 4:=by simp at hi;omega
 refine ⟨A i,C i,?_,?_,?_⟩
 ·rw [List.getElem_take,List.getElem_map,List.getElem_range]
  match i,hi4 with
  | 0,_=>rfl
  | 1,_=>rfl
  | 2,_=>rfl
  | 3,_=>rfl
 ·rw [List.getElem_map,List.getElem_range]
  obtain ⟨_,_,hv,hc⟩:=own_form (h.own i hi4)
  injection hv with _ _ hv
  subst hv
  exact hc
 ·rw [List.getElem_map,List.getElem_range]
  exact Sl.of_own (h.own i hi4)
end Go.Proofs.YtijgbonhjcblcaaGreatDoor
namespace Go.Proofs.YtijgbonhjcblcaaGreatDoor
open Go.RowKit
section
variable {P:Program} {ops:Array Oper} {Q:Exit→Act→World→Prop} {md:Region.Mode} {S:World→Prop}
theorem anyH_unit {i:Nat} {oi:Oper} {fuel:Nat} {listed:Array Bool} {a:Act} {w w':World} (d:Option Tmp) (hi:ops[i]?=some oi) (hd:oi.dst=d)
  (hr:Region.ready md ops listed=[i]) (hw:Region.wanted oi (yielded ops a.tmps)=true) (he:(execOp a.eval oi).run P w=.ok .skip w') (hS:S w')
  (h:wpAnyH P md ops Q S fuel (listed.setIfInBounds i true) (a.put d undef) w'):wpAnyH P md ops Q S (fuel+1) listed a w:=by
 subst hd
 refine anyH_do hi hr hw (fun K hK=>?_)
 unfold Oper.wp
 rw [he]
 simp only [Oper.upon]
 exact hK.out _ _ hS (fun _=>h)
end
section
variable {P:Program} {w:World}
theorem wpList_app0 {ops:Array Oper} {rest:List Oper} {o:Oper} {a:Act} {Q:Exit→Act→World→Prop} (s x:Operand) (t e:TypeId) (z:Value) (size bytes:Nat)
  (hgd:o.guard=none) (ho:o.op=.call { callee:=.builtin .append,args:=#[s,x],argTypes:=#[t,t] }) (ht:P.underlying t=some (.slice e))
  (hinfo:(P.info? e).map (fun i=>(i.zero,i.size,i.bytes))=some (some z,size,bytes)) (hzs:z.cells.size=size) (hsz:0 < size) (hby:0 < bytes)
  (hs:a.eval s=.slice none 0 0)
  {A':Option Addr} {m c':Nat} {news:List Value} (hx:a.eval x=.slice A' m c') (hr:Sl w A' news) (hl:news.length=m*size) (h1:∀u ∈ news,u.oneCell'=true)
  (hlim:m*bytes≤140737488355328)
  (h:∀B k w',w'.ownsRow w.heap.size e size (.slice B m k) m news→m≤k→Below w.heap.size w w'→wpList P ops Q rest (a.put o.dst (.slice B m k)) w'):wpList P ops Q (o::rest) a w:=by
 refine wpList_app s x t e z size bytes hgd ho ht hinfo hzs hsz hby hs (World.ownsRow_nil w w.heap.size _ _) hx hr hl h1 (by rw [Nat.zero_add];exact hlim) (Nat.le_refl _) ?_
 intro B k w' h2 h3 h4 _ _
 rw [Nat.zero_add] at *
 exact h B k w' h2 h3 h4
end
end Go.Proofs.YtijgbonhjcblcaaGreatDoor
