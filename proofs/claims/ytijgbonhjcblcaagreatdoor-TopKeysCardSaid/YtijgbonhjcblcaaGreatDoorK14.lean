/- Texts that are merged into one file: FullPlain, RefDec, RefDecB, RefDecC, RefFull, SkRows, HeldApp, RDCheck, OCanonB, CpsText, CpsPlain, NormUs, ORefSort, RefText, ExpA. -/
import Derived.Test.YtijgbonhjcblcaaGreatDoorK02
import Derived.Test.YtijgbonhjcblcaaGreatDoorK03
import Derived.Test.YtijgbonhjcblcaaGreatDoorK04
import Derived.Test.YtijgbonhjcblcaaGreatDoorK05
import Derived.Test.YtijgbonhjcblcaaGreatDoorK06
import Derived.Test.YtijgbonhjcblcaaGreatDoorK07
import Derived.Test.YtijgbonhjcblcaaGreatDoorK08
import Derived.Test.YtijgbonhjcblcaaGreatDoorK09
import Derived.Test.YtijgbonhjcblcaaGreatDoorK10
import Derived.Test.YtijgbonhjcblcaaGreatDoorK11
import Derived.Test.YtijgbonhjcblcaaGreatDoorK12
import Derived.Test.YtijgbonhjcblcaaGreatDoorK13
set_option maxRecDepth 100000
set_option maxHeartbeats 51200000
namespace Go.Proofs.YtijgbonhjcblcaaGreatDoor
open Go.RowKit
section
variable (on:Int→Option (List Int))
inductive Full:Int→List Int→Prop
 | leaf {c:Int}:on c=none→Full c [c]
 | node {c:Int} {to:List Int} {vs:List (List Int)}:on c=some to→vs.length=to.length→(∀i,(hi:i < to.length)→(hv:i < vs.length)→Full to[i] vs[i])→Full c vs.flatten
end
section
variable {on:Int→Option (List Int)} {cap:Int}
theorem Full.func {c:Int} {l:List Int} (h:Full on c l):∀{l'},Full on c l'→l=l':=by
 induction h with
 | leaf h=>
  intro l' h'
  cases h' with
  | leaf _=>rfl
  | node h1 _ _=>rw [h] at h1;cases h1
 | node h1 h2 _ ih=>
  intro l' h'
  cases h' with
  | leaf h=>rw [h] at h1;cases h1
  | @node _ to' vs' g1 g2 g3=>
   rw [h1] at g1
   injection g1 with g1
   subst g1
   congr 1
   refine List.ext_getElem (by omega) fun i hi hi'=>?_
   exact ih i (by omega) hi (g3 i (by omega) hi')
theorem Full.done {c:Int} {l:List Int} (h:Full on c l):∀e ∈ l,on e=none:=by
 induction h with
 | leaf h=>intro e he;simp at he;subst he;exact h
 | node h1 h2 _ ih=>
  intro e he
  obtain ⟨v,hv,he⟩:=List.mem_flatten.1 he
  obtain ⟨i,hi,rfl⟩:=List.getElem_of_mem hv
  exact ih i (by omega) hi e he
theorem Sz.full {c v:Int} (h:Sz on cap c v) (hcap:1≤cap):∃l,Full on c l∧(v < cap→(l.length:Int)≤v):=by
 induction h with
 | @leaf c h=>
  rcases h with h | h
  ·exact ⟨[c],.leaf h,fun _=>by simp⟩
  ·exact ⟨[],by simpa using Full.node (vs:=[]) h rfl (fun i hi=>by simp at hi),fun _=>by simp⟩
 | @node c to vs h1 h2 h3 h4 ih=>
  have hch:∀i:Nat,∃l:List Int,∀(hi:i < to.length) (hv:i < vs.length),Full on to[i] l∧(vs[i] < cap→(l.length:Int)≤vs[i]):=fun i=>by
   by_cases hi:i < to.length
   ·obtain ⟨l,g1,g2⟩:=ih i hi (by omega)
    exact ⟨l,fun _ _=>⟨g1,g2⟩⟩
   ·exact ⟨[],fun h=>absurd h hi⟩
  refine ⟨((List.range to.length).map (fun i=>(hch i).choose)).flatten,.node h1 (by simp) (fun i h1 h2=>?_),fun hv=>?_⟩
  ·simp only [List.getElem_map,List.getElem_range]
   exact ((hch i).choose_spec h1 (by omega)).1
  ·have hpos:∀v ∈ vs,0≤v:=fun v hv=>by
    obtain ⟨i,hi,rfl⟩:=List.getElem_of_mem hv
    have:=(h4 i (by omega) hi).bd hcap
    omega
   rw [capSum_eq hpos (by omega)] at hv ⊢
   have hs:vs.sum < cap:=by omega
   have key:∀(ls:List (List Int)) (vs:List Int),ls.length=vs.length→(∀v ∈ vs,0≤v)→vs.sum < cap→(∀i,(h1:i < ls.length)→(h2:i < vs.length)→vs[i] < cap→(ls[i].length:Int)≤vs[i])→(ls.flatten.length:Int)≤vs.sum:=by
    intro ls
    induction ls with
    | nil=>intro vs hl _ _ _;cases vs with | nil=>simp | cons _ _=>simp at hl
    | cons l ls ihl=>
     intro vs hl hp hs hle
     cases vs with
     | nil=>simp at hl
     | cons v vs=>
      rw [List.sum_cons] at hs
      have hq:0≤vs.sum:=sum_nonneg (fun v hv=>hp v (by simp [hv]))
      have h0:=hle 0 (by simp) (by simp) (by simp only [List.getElem_cons_zero];omega)
      simp only [List.getElem_cons_zero] at h0
      have hv0:=hp v (by simp)
      have h1:=ihl vs (by simpa using hl) (fun v hv=>hp v (by simp [hv])) (by omega) (fun i g1 g2 g3=>by
       have:=hle (i+1) (by simp;omega) (by simp;omega)
       simp only [List.getElem_cons_succ] at this
       exact this g3)
      rw [List.flatten_cons,List.length_append,List.sum_cons]
      omega
   have:=key ((List.range to.length).map (fun i=>(hch i).choose)) vs (by simp [h3]) hpos hs (fun i g1 g2 g3=>by
    simp only [List.getElem_map,List.getElem_range]
    simp at g1
    exact ((hch i).choose_spec g1 g2).2 g3)
   omega
end
def replE (fnd:Int→Option Nat) (T:List (List Int)) (e:Int):List Int:=match fnd e with | none=>Hg.decomp e | some m=>T.getD m []
def replL (fnd:Int→Option Nat) (T:List (List Int)) (text:List Int):List Int:=text.flatMap (replE fnd T)
def tabStep (to:Nat→List Int) (fnd:Int→Option Nat) (skip:Nat→Bool) (T:List (List Int)) (i:Nat):List (List Int):=if skip i=true then T else T.set i (replL fnd T (to i))
def tabR (to:Nat→List Int) (fnd:Int→Option Nat) (skip:Nat→Bool) (n:Nat):Nat→List (List Int)
 | 0=>List.replicate n []
 | r+1=>(List.range n).foldl (tabStep to fnd skip) (tabR to fnd skip n r)
section
variable {n:Nat} {frm:Nat→Int} {to:Nat→List Int} {fnd fnd':Int→Option Nat} {on:Int→Option (List Int)} {skip:Nat→Bool}
theorem tabStep_len (T:List (List Int)) (i:Nat):(tabStep to fnd skip T i).length=T.length:=by unfold tabStep;split <;> simp
theorem tabFold_len (s:List Nat):∀T:List (List Int),(s.foldl (tabStep to fnd skip) T).length=T.length:=by
 induction s with
 | nil=>intro T;rfl
 | cons x s ih=>intro T;exact (ih _).trans (tabStep_len T x)
structure MapsF (n:Nat) (frm:Nat→Int) (to:Nat→List Int) (fnd:Int→Option Nat) (on:Int→Option (List Int)) (skip:Nat→Bool):Prop where
 at_:∀i,i < n→skip i=false→on (frm i)=some (to i)
 fd:∀e m,fnd e=some m→m < n∧frm m=e∧skip m=false
 no:∀e,fnd e=none→Full on e (Hg.decomp e)
theorem flatten_map {l:List Int} {f:Int→List Int}:(l.map f).flatten=l.flatMap f:=by rw [List.flatMap_def]
theorem tab_sound (M:MapsF n frm to fnd on skip) (hsub:∀e m,fnd e=some m→fnd' e=some m) (s:List Nat) (hs:∀i ∈ s,i < n) :
  ∀i,i < n→skip i=false→(s.foldl (endStep to fnd') (List.replicate n false)).getD i false=true→Full on (frm i) ((s.foldl (tabStep to fnd skip) (List.replicate n [])).getD i []):=by
 have hlenE:∀s:List Nat,(s.foldl (endStep to fnd') (List.replicate n false)).length=n:=by
  intro s
  have:∀(s:List Nat) (T:List Bool),T.length=n→(s.foldl (endStep to fnd') T).length=n:=by
   intro s
   induction s with
   | nil=>intro T h;exact h
   | cons x s ih=>intro T h;exact ih _ (by simp [endStep,h])
  exact this s _ (by simp)
 have key:∀k (s:List Nat),s.length=k→(∀i ∈ s,i < n)→∀i,i < n→skip i=false→(s.foldl (endStep to fnd') (List.replicate n false)).getD i false=true→Full on (frm i) ((s.foldl (tabStep to fnd skip) (List.replicate n [])).getD i []):=by
  intro k
  induction k with
  | zero=>
   intro s hk _ i hi _ h
   have:s=[]:=List.eq_nil_of_length_eq_zero hk
   subst this
   simp [List.getD,hi] at h
  | succ k ih=>
   intro s hk hs i hi hsk h
   obtain ⟨s',x,rfl⟩:∃s' x,s=s'++[x]:=⟨s.dropLast,s.getLast (by rintro rfl;simp at hk),(List.dropLast_concat_getLast _).symm⟩
   have hs':∀i ∈ s',i < n:=fun j hj=>hs j (by simp [hj])
   have hx:x < n:=hs x (by simp)
   have IH:=ih s' (by simpa using hk) hs'
   rw [List.foldl_append] at h ⊢
   simp only [List.foldl_cons,List.foldl_nil] at h ⊢
   have l1:=hlenE s'
   have l2:(s'.foldl (tabStep to fnd skip) (List.replicate n [])).length=n:=by rw [tabFold_len];simp
   generalize s'.foldl (endStep to fnd') (List.replicate n false)=T at *
   generalize s'.foldl (tabStep to fnd skip) (List.replicate n [])=L at *
   by_cases e:x=i
   ·subst e
    have hT:endE to fnd' T x=true:=by
     simpa [endStep,List.getD,l1,hi] using h
    have hL:(tabStep to fnd skip L x).getD x []=replL fnd L (to x):=by
     unfold tabStep
     rw [if_neg (by rw [hsk];simp)]
     simp [List.getD,l2,hi]
    rw [hL]
    have hch:∀e ∈ to x,Full on e (replE fnd L e):=fun e he=>by
     unfold replE
     cases hf:fnd e with
     | none=>exact M.no e hf
     | some m=>
      obtain ⟨hm,hfm,hkm⟩:=M.fd e m hf
      have:=List.all_eq_true.1 hT e he
      rw [hsub e m hf] at this
      have h1:=IH m hm hkm this
      rw [hfm] at h1
      exact h1
    unfold replL
    rw [←flatten_map]
    refine .node (M.at_ x hi hsk) (by simp) (fun j hj hv=>?_)
    simp only [List.getElem_map]
    exact hch _ (List.getElem_mem hj)
   ·have hT:T.getD i false=true:=by
     simpa [endStep,List.getD,List.getElem?_set,e] using h
    have h1:=IH i hi hsk hT
    have:(tabStep to fnd skip L x).getD i []=L.getD i []:=by
     unfold tabStep
     split
     ·rfl
     ·simp [List.getD,e]
    rw [this]
    exact h1
 exact key s.length s rfl hs
theorem tab_le (M:MapsF n frm to fnd on skip) (s:List Nat) (hs:∀i ∈ s,i < n):∀(T:List (List Int)),T.length=n→(∀i l,i < n→skip i=false→Full on (frm i) l→(T.getD i []).length≤l.length)→
  ∀i l,i < n→skip i=false→Full on (frm i) l→((s.foldl (tabStep to fnd skip) T).getD i []).length≤l.length:=by
 induction s with
 | nil=>intro T _ h;exact h
 | cons x s ih=>
  intro T hl h
  rw [List.foldl_cons]
  refine ih (fun i hi=>hs i (by simp [hi])) _ (by rw [tabStep_len,hl]) (fun i l hi hsk hf=>?_)
  have hx:=hs x (by simp)
  by_cases e:x=i
  ·subst e
   have hL:(tabStep to fnd skip T x).getD x []=replL fnd T (to x):=by
    unfold tabStep
    rw [if_neg (by rw [hsk];simp)]
    simp [List.getD,hl,hi]
   rw [hL]
   cases hf with
   | leaf g=>rw [M.at_ x hi hsk] at g;cases g
   | @node _ to' vs g1 g2 g3=>
    rw [M.at_ x hi hsk] at g1
    injection g1 with g1
    subst g1
    have key:∀(to:List Int) (vs:List (List Int)),vs.length=to.length→(∀i,(hi:i < to.length)→(hv:i < vs.length)→Full on to[i] vs[i])→(replL fnd T to).length≤vs.flatten.length:=by
     intro to
     induction to with
     | nil=>intro vs _ _;simp [replL]
     | cons e to iht=>
      intro vs hvl hv
      cases vs with
      | nil=>simp at hvl
      | cons v vs=>
       have h1:=iht vs (by simpa using hvl) (fun i g1 g2=>by have:=hv (i+1) (by simp;omega) (by simp;omega);simpa using this)
       have h0:=hv 0 (by simp) (by simp)
       simp only [List.getElem_cons_zero] at h0
       have h2:(replE fnd T e).length≤v.length:=by
        unfold replE
        cases hfe:fnd e with
        | none=>rw [(M.no e hfe).func h0];exact Nat.le_refl _
        | some m=>
         obtain ⟨hm,hfm,hkm⟩:=M.fd e m hfe
         exact h m v hm hkm (by rw [hfm];exact h0)
       unfold replL at h1 ⊢
       rw [List.flatMap_cons,List.length_append,List.flatten_cons,List.length_append]
       omega
    exact key _ _ g2 g3
  ·have:(tabStep to fnd skip T x).getD i []=T.getD i []:=by
    unfold tabStep
    split
    ·rfl
    ·simp [List.getD,e]
   rw [this]
   exact h i l hi hsk hf
end
def tabM (ms:List Mp) (compat:Bool):List (List Int):=tabR (toM ms) (fndM ms compat) (skipM ms compat) ms.length ms.length
def dcM (ms:List Mp) (compat:Bool) (c:Int):List Int:=replE (fndM ms compat) (tabM ms compat) c
section
variable {ms:List Mp}
theorem Full_no (hh:NoHg ms) (compat:Bool) {e:Int} (h:fndM ms compat e=none):Full (onM ms compat) e (Hg.decomp e):=by
 by_cases h4:4≤Hg.kind e
 ·obtain ⟨d1,d2⟩:=decomp_kids h4
  have hon:onM ms compat e=some (Hg.decomp e):=if_pos h4
  have:=Full.node (on:=onM ms compat) (vs:=(Hg.decomp e).map (fun x=>[x])) hon (by simp) (fun i h1 h2=>by
   simp only [List.getElem_map]
   obtain ⟨_,g2,g3⟩:=d2 _ (List.getElem_mem h1)
   refine .leaf (onM_none_kind hh compat g3 ?_)
   unfold hk at g2
   split at g2
   ·cases g2
   ·omega)
  have e1:((Hg.decomp e).map (fun x=>[x])).flatten=Hg.decomp e:=by rw [←List.flatMap_def];simp
  rw [e1] at this
  exact this
 ·rw [decomp_no (by omega)]
  refine .leaf ?_
  unfold onM
  rw [if_neg h4,h]
  rfl
theorem mapsF (hs:StF ms) (hh:NoHg ms) (compat:Bool):MapsF ms.length (frmM ms) (toM ms) (fndM ms compat) (onM ms compat) (skipM ms compat):=by
 refine ⟨fun i hi hk=>?_,fun e m h=>?_,fun e h=>Full_no hh compat h⟩
 ·rw [frmM_at hi,onM_frm hs hh compat hi,toM_at hi,if_pos]
  unfold skipM at hk
  cases compat <;> simp_all [List.getD]
 ·obtain ⟨hi,h1,h2⟩:=fndM_at h
  refine ⟨hi,by rw [frmM_at hi];exact h1,?_⟩
  unfold skipM
  rcases h2 with h2 | h2
  ·rw [h2];rfl
  ·simp [List.getD,hi,h2]
theorem all_full (hs:StF ms) (hh:NoHg ms) (he:endB ms=true) (hl:longB ms=false) (compat:Bool):∀i,i < ms.length→∃l,Full (onM ms compat) (frmM ms i) l∧l.length≤64:=by
 intro i hi
 have h1:=lensM_ok hs hh he compat i hi
 have hle:(lensM ms compat).getD i 0≤64:=by
  unfold longB at hl
  have:=List.any_eq_false.1 hl i (List.mem_range.2 hi)
  simp at this
  cases compat
  ·simpa using this.1
  ·simpa using this.2
 obtain ⟨l,g1,g2⟩:=h1.full (by unfold capE;omega)
 rw [frmM_at hi]
 refine ⟨l,g1,?_⟩
 have:=g2 (by unfold capE;omega)
 omega
def TabLe (ms:List Mp) (compat:Bool) (T:List (List Int)):Prop:=T.length=ms.length∧∀i l,i < ms.length→skipM ms compat i=false→Full (onM ms compat) (frmM ms i) l→(T.getD i []).length≤l.length
theorem TabLe.start (ms:List Mp) (compat:Bool):TabLe ms compat (List.replicate ms.length []):=⟨by simp,fun i l hi _ _=>by simp [List.getD,hi]⟩
theorem TabLe.step (hs:StF ms) (hh:NoHg ms) {compat:Bool} {T:List (List Int)} (h:TabLe ms compat T) {i:Nat} (hi:i < ms.length):TabLe ms compat (tabStep (toM ms) (fndM ms compat) (skipM ms compat) T i):=
 ⟨by rw [tabStep_len];exact h.1,tab_le (mapsF hs hh compat) [i] (fun j hj=>by simp at hj;subst hj;exact hi) T h.1 h.2⟩
theorem TabLe.fold (hs:StF ms) (hh:NoHg ms) {compat:Bool} (s:List Nat):∀{T:List (List Int)},TabLe ms compat T→(∀i ∈ s,i < ms.length)→TabLe ms compat (s.foldl (tabStep (toM ms) (fndM ms compat) (skipM ms compat)) T):=by
 induction s with
 | nil=>intro T h _;exact h
 | cons x s ih=>intro T h hx;exact ih (h.step hs hh (hx x (by simp))) (fun i hi=>hx i (by simp [hi]))
theorem TabLe.rounds (hs:StF ms) (hh:NoHg ms) (compat:Bool) (r:Nat):TabLe ms compat (tabR (toM ms) (fndM ms compat) (skipM ms compat) ms.length r):=by
 induction r with
 | zero=>exact TabLe.start ms compat
 | succ r ih=>exact ih.fold hs hh _ (fun i hi=>List.mem_range.1 hi)
def TabSk (ms:List Mp) (compat:Bool) (T:List (List Int)):Prop:=∀i,skipM ms compat i=true→T.getD i []=[]
theorem TabSk.step {compat:Bool} {T:List (List Int)} (h:TabSk ms compat T) (i:Nat):TabSk ms compat (tabStep (toM ms) (fndM ms compat) (skipM ms compat) T i):=by
 intro j hj
 unfold tabStep
 split
 ·exact h j hj
 ·next hi=>
  have:i≠j:=fun e=>by subst e;exact hi hj
  have:=h j hj
  simp_all [List.getD]
theorem TabLe.le64 (hs:StF ms) (hh:NoHg ms) (he:endB ms=true) (hl:longB ms=false) {compat:Bool} {T:List (List Int)} (h:TabLe ms compat T) {i:Nat} (hi:i < ms.length) (hk:skipM ms compat i=false):(T.getD i []).length≤64:=by
 obtain ⟨l,h1,h2⟩:=all_full hs hh he hl compat i hi
 have:=h.2 i l hi hk h1
 omega
theorem tabM_full (hs:StF ms) (hh:NoHg ms) (he:endB ms=true) (compat:Bool) {i:Nat} (hi:i < ms.length) (hk:skipM ms compat i=false):Full (onM ms compat) ms[i].frm ((tabM ms compat).getD i []):=by
 have hfl:∀j ∈ (List.replicate ms.length (List.range ms.length)).flatten,j < ms.length:=fun j hj=>by
  obtain ⟨l,h1,h2⟩:=List.mem_flatten.1 hj
  rw [List.eq_of_mem_replicate h1] at h2
  exact List.mem_range.1 h2
 have h0:=tab_sound (mapsF hs hh compat) (fndM_sub hs compat) (List.replicate ms.length (List.range ms.length)).flatten hfl i hi hk
 have e1:=iter_flat (endStep (toM ms) (fndM ms true)) ms.length (rnds ms.length (toM ms) (fndM ms true)) (fun _=>rfl) ms.length
 have e2:=iter_flat (tabStep (toM ms) (fndM ms compat) (skipM ms compat)) ms.length (tabR (toM ms) (fndM ms compat) (skipM ms compat) ms.length) (fun _=>rfl) ms.length
 simp only [rnds,tabR] at e1 e2
 rw [e1,e2] at h0
 have hl:=(rnds_ok ms.length (toM ms) (fndM ms true) ms.length).1
 have:(rnds ms.length (toM ms) (fndM ms true) ms.length).getD i false=true:=by
  unfold endB at he
  have hi':i < (rnds ms.length (toM ms) (fndM ms true) ms.length).length:=by rw [hl];exact hi
  have:=List.all_eq_true.1 he _ (List.getElem_mem hi')
  simpa [List.getD,hi'] using this
 have h1:=h0 this
 rw [frmM_at hi] at h1
 exact h1
theorem dcM_full (hs:StF ms) (hh:NoHg ms) (he:endB ms=true) (compat:Bool) (c:Int):Full (onM ms compat) c (dcM ms compat c):=by
 unfold dcM replE
 cases hf:fndM ms compat c with
 | none=>exact Full_no hh compat hf
 | some m=>
  obtain ⟨hm,h1,_⟩:=fndM_at hf
  have hk:=((mapsF hs hh compat).fd c m hf).2.2
  have:=tabM_full hs hh he compat hm hk
  rw [h1] at this
  exact this
theorem dcM_len (hs:StF ms) (hh:NoHg ms) (he:endB ms=true) (hl:longB ms=false) (compat:Bool) (c:Int):(dcM ms compat c).length≤64:=by
 unfold dcM replE
 cases hf:fndM ms compat c with
 | none=>
  by_cases h4:4≤Hg.kind c
  ·have:=(decomp_kids h4).1;dsimp only;omega
  ·dsimp only;rw [decomp_no (by omega)];simp
 | some m=>
  obtain ⟨hm,h1,_⟩:=fndM_at hf
  have hk:=((mapsF hs hh compat).fd c m hf).2.2
  exact (TabLe.rounds hs hh compat ms.length).le64 hs hh he hl hm hk
theorem dcM_elem (hs:StF ms) (hh:NoHg ms) (he:endB ms=true) (compat:Bool) {c e:Int} (h:e ∈ dcM ms compat c):dcM ms compat e=[e]:=
 (dcM_full hs hh he compat e).func (.leaf ((dcM_full hs hh he compat c).done e h))
end
end Go.Proofs.YtijgbonhjcblcaaGreatDoor
namespace Go.Proofs.YtijgbonhjcblcaaGreatDoor
open Go.RowKit Go.Maps Go.WideMaps
theorem info_bool:(Tryz.prog.info? 4).map (fun i=>(i.zero,i.size,i.bytes))=some (some (.bool false),1,1):=by kernel_rfl
def repV (n:Nat) (v:Value):List Value:=List.replicate n v
theorem made_rep (v:Value) (hv:v.cells=#[v]) (n:Nat):madeCells v.cells n=(repV n v).toArray:=by
 rw [hv]
 unfold repV
 apply Array.ext
 ·simp [madeCells]
 ·intro i h1 h2
  simp [madeCells,Nat.mod_one]
theorem mk_bools (n:Nat) (hn:n≤1048576) (W:World):(Instr.makeSlice 83 (.int .i64 n) (.int .i64 n)).run Tryz.prog W=.ok (.slice (some ⟨W.heap.size,0,none⟩) n n) (W.alloc (.cells (repV n (Value.bool false)).toArray 4)):=by
 obtain ⟨i,hi,hz,hsize,hbytes⟩:=info_parts info_bool
 have:=run_make (P:=Tryz.prog) W 83 4 i (.bool false) Tryz.underlying83 hi hz .i64 .i64 n n (by omega) (by omega) (by rw [hbytes];omega) (by omega)
 rw [this,hsize]
 simp only [Int.toNat_natCast,Nat.mul_one,made_rep (.bool false) rfl]
theorem mk_ints (n:Nat) (hn:n≤1048576) (W:World):(Instr.makeSlice 37 (.int .i64 n) (.int .i64 n)).run Tryz.prog W=.ok (.slice (some ⟨W.heap.size,0,none⟩) n n) (W.alloc (.cells (repV n (Value.int .i64 0)).toArray 3)):=by
 obtain ⟨i,hi,hz,hsize,hbytes⟩:=info_parts info_int
 have:=run_make (P:=Tryz.prog) W 37 3 i (.int .i64 0) Tryz.underlying37 hi hz .i64 .i64 n n (by omega) (by omega) (by rw [hbytes];omega) (by omega)
 rw [this,hsize]
 simp only [Int.toNat_natCast,Nat.mul_one,made_rep (.int .i64 0) rfl]
theorem Box.sl {w:World} {b:Nat} {t:TypeId} {cs:List Value} (h:Box w b t cs):Sl w (some ⟨b,0,none⟩) cs:=fun _=>⟨b,0,rfl,fun j u hu=>by rw [Nat.zero_add];exact h.cell hu⟩
end Go.Proofs.YtijgbonhjcblcaaGreatDoor
namespace Go.Proofs.YtijgbonhjcblcaaGreatDoor
open Go.RowKit Go.Maps Go.WideMaps
end Go.Proofs.YtijgbonhjcblcaaGreatDoor
namespace Go.Proofs.YtijgbonhjcblcaaGreatDoor
open Go.RowKit Go.Maps Go.WideMaps
def LenB (L:List Int):Prop:=∀x ∈ L,0≤x∧x≤65
theorem LenB.getD {L:List Int} (h:LenB L) (i:Nat):0≤L.getD i 0∧L.getD i 0≤65:=by
 by_cases hi:i < L.length
 ·have:=h _ (List.getElem_mem hi)
  simpa [List.getD,hi] using this
 ·simp [List.getD,Nat.le_of_not_lt hi]
theorem lenV_bd {L:List Int} {to:Nat→List Int} {fnd:Int→Option Nat} (i:Nat):0≤lenV to fnd dlM capE L i∧lenV to fnd dlM capE L i≤65:=by unfold lenV capE;omega
theorem LenB.step {L:List Int} (h:LenB L) (to:Nat→List Int) (fnd:Int→Option Nat) (skip:Nat→Bool) (i:Nat):LenB (lenStep to fnd dlM capE skip L i):=by
 intro x hx
 unfold lenStep at hx
 rcases List.mem_or_eq_of_mem_set hx with hx | hx
 ·exact h x hx
 ·subst hx
  split
  ·omega
  ·exact lenV_bd i
theorem LenB.fold (to:Nat→List Int) (fnd:Int→Option Nat) (skip:Nat→Bool) (s:List Nat):∀{L:List Int},LenB L→LenB (s.foldl (lenStep to fnd dlM capE skip) L):=by
 induction s with
 | nil=>intro L h;exact h
 | cons x s ih=>intro L h;exact ih (h.step to fnd skip x)
end Go.Proofs.YtijgbonhjcblcaaGreatDoor
namespace Go.Proofs.YtijgbonhjcblcaaGreatDoor
open Go.RowKit Go.Maps Go.WideMaps
def RowsAt (w:World) (B:Option Addr) (T:List (List Int)):Prop:=∃vs:List Value,Sl w B vs∧vs.length=T.length∧∀i,(hi:i < T.length)→(hv:i < vs.length)→∃C c,vs[i]=.slice C T[i].length c∧T[i].length≤c∧Ints w C T[i]
theorem RowsAt.below {w w':World} {B:Option Addr} {T:List (List Int)} (h:RowsAt w B T) (hb:Below w.heap.size w w'):RowsAt w' B T:=by
 obtain ⟨vs,h1,h2,h3⟩:=h
 exact ⟨vs,h1.below hb,h2,fun i hi hv=>by obtain ⟨C,c,e1,e2,e3⟩:=h3 i hi hv;exact ⟨C,c,e1,e2,e3.below hb⟩⟩
theorem RowsAt.at {w:World} {B:Option Addr} {T:List (List Int)} (h:RowsAt w B T) {m:Nat} (hm:m < T.length):∃b o C c,B=some ⟨b,o,none⟩∧w.cell? ⟨b,o+m,none⟩=some (.slice C T[m].length c)∧T[m].length≤c∧Ints w C T[m]:=by
 obtain ⟨vs,h1,h2,h3⟩:=h
 have hv:m < vs.length:=by omega
 obtain ⟨C,c,e1,e2,e3⟩:=h3 m hm hv
 obtain ⟨b,o,hB,hc⟩:=h1.at hv
 exact ⟨b,o,C,c,hB,hc m _ (by rw [List.getElem?_eq_getElem hv,e1]),e2,e3⟩
theorem ints_off {W:World} {b i:Nat} {t:TypeId} {cs:List Value} {v:Value} {E:Option Addr} {R:List Int} (h:Ints W E R) (hX:Box W b t cs) (hv:∀(j:Nat) (z:Int),¬cs[j]?=some (Value.int .i64 z)):Ints (W.setCell ⟨b,i,none⟩ v) E R:=by
 intro hne
 obtain ⟨b',o,hA,hc⟩:=h hne
 refine ⟨b',o,hA,fun j u hu=>?_⟩
 have h1:=hc j u hu
 refine (World.cell?_setCell_far _ _ _ _ (fun e=>?_)).trans h1
 have e':b=b':=e
 subst e'
 obtain ⟨z,rfl⟩:∃z,u=.int .i64 z:=by
  have hm:=List.mem_of_getElem? hu
  obtain ⟨z,_,rfl⟩:=List.mem_map.1 hm
  exact ⟨z,rfl⟩
 unfold Box at hX
 simp [World.cell?,hX] at h1
 exact hv _ _ h1
def BoxRows (w:World) (b:Nat) (T:List (List Int)):Prop:=∃vs:List Value,Box w b 37 vs∧vs.length=T.length∧∀i,(hi:i < T.length)→(hv:i < vs.length)→∃C c,vs[i]=.slice C T[i].length c∧T[i].length≤c∧Ints w C T[i]
theorem BoxRows.lt {w:World} {b:Nat} {T:List (List Int)} (h:BoxRows w b T):b < w.heap.size:=by obtain ⟨vs,h1,_⟩:=h;exact h1.lt
theorem BoxRows.below {w w':World} {b:Nat} {T:List (List Int)} (h:BoxRows w b T) (hb:Below w.heap.size w w'):BoxRows w' b T:=by
 obtain ⟨vs,h1,h2,h3⟩:=h
 exact ⟨vs,h1.below hb h1.lt,h2,fun i hi hv=>by obtain ⟨C,c,e1,e2,e3⟩:=h3 i hi hv;exact ⟨C,c,e1,e2,e3.below hb⟩⟩
theorem BoxRows.set {w:World} {b:Nat} {T:List (List Int)} (h:BoxRows w b T) {i:Nat} {E:Option Addr} {l:List Int} {d:Nat} (hd:l.length≤d) (hE:Ints w E l):BoxRows (w.setCell ⟨b,i,none⟩ (.slice E l.length d)) b (T.set i l):=by
 obtain ⟨vs,h1,h2,h3⟩:=h
 have hno:∀(j:Nat) (z:Int),¬vs[j]?=some (Value.int .i64 z):=by
  intro j z e
  obtain ⟨hj,e2⟩:=List.getElem?_eq_some_iff.1 e
  obtain ⟨C,c,e1,_⟩:=h3 j (by omega) hj
  rw [e1] at e2
  cases e2
 refine ⟨_,h1.set i _,by simp [h2],fun j hj hv=>?_⟩
 rw [List.getElem_set,List.getElem_set]
 by_cases hij:i=j
 ·subst hij
  rw [if_pos rfl,if_pos rfl]
  exact ⟨E,d,rfl,hd,ints_off hE h1 hno⟩
 ·rw [if_neg hij,if_neg hij]
  simp only [List.length_set] at hj hv
  obtain ⟨C,c,e1,e2,e3⟩:=h3 j hj hv
  exact ⟨C,c,e1,e2,ints_off e3 h1 hno⟩
theorem BoxRows.cell {w:World} {b:Nat} {T:List (List Int)} (h:BoxRows w b T) {i:Nat} (hi:i < T.length):(∃v,w.cell? ⟨b,i,none⟩=some v)∧w.frozen? ⟨b,i,none⟩=false:=by
 obtain ⟨vs,h1,h2,h3⟩:=h
 exact ⟨⟨_,h1.cell (List.getElem?_eq_getElem (by omega))⟩,h1.free i⟩
theorem BoxRows.new (w:World) (n:Nat):BoxRows (w.alloc (.cells (repV n (Value.slice none 0 0)).toArray 37)) w.heap.size (List.replicate n []):=by
 refine ⟨_,Box.new w 37 (repV n (Value.slice none 0 0)) rfl,by simp [repV],fun i hi hv=>⟨none,0,?_,?_,?_⟩⟩
 ·simp [repV]
 ·simp
 ·rw [List.getElem_replicate];exact Sl.nil _ _
section
variable {fnd:Int→Option Nat} {T:List (List Int)}
end
def TabOk (ms:List Mp) (compat:Bool) (T:List (List Int)):Prop:=TabLe ms compat T∧TabSk ms compat T
theorem TabOk.start (ms:List Mp) (compat:Bool):TabOk ms compat (List.replicate ms.length []):=⟨TabLe.start ms compat,fun i _=>by
 by_cases hi:i < ms.length
 ·simp [List.getD,hi]
 ·simp [List.getD,hi]⟩
end Go.Proofs.YtijgbonhjcblcaaGreatDoor
namespace Go.Proofs.YtijgbonhjcblcaaGreatDoor
open Go.RowKit
def blk (A:Option Addr):Option Nat:=A.map (fun a=>a.block)
theorem ownBlock_blk (A:Option Addr) (n c:Nat):Value.ownBlock (.slice A n c)=blk A:=by cases A <;> rfl
def upd {α:Type} (f:Nat→α) (j:Nat) (v:α):Nat→α:=fun k=>if k=j then v else f k
theorem upd_at {α:Type} (f:Nat→α) (j:Nat) (v:α):upd f j v j=v:=if_pos rfl
theorem upd_ne {α:Type} {f:Nat→α} {j k:Nat} {v:α} (h:k≠j):upd f j v k=f k:=if_neg h
structure R4 (w:World) (base:Nat) (A:Nat→Option Addr) (C:Nat→Nat) (R:Nat→List Int):Prop where
 own:∀k,k < 4→w.ownsRow base 3 1 (.slice (A k) (R k).length (C k)) (R k).length ((R k).map (Value.int .i64))
 ne:∀j k,j < 4→k < 4→j≠k→blk (A j)=none∨blk (A j)≠blk (A k)
section
variable {w w':World} {base:Nat} {A:Nat→Option Addr} {C:Nat→Nat} {R:Nat→List Int}
theorem R4.nil (w:World) (base:Nat):R4 w base (fun _=>none) (fun _=>0) (fun _=>[]):=⟨fun _ _=>World.ownsRow_nil _ _ _ _,fun _ _ _ _ _=>.inl rfl⟩
theorem R4.lt (h:R4 w base A C R) {k q:Nat} (hk:k < 4) (hq:blk (A k)=some q):base≤q∧q < w.heap.size:=(h.own k hk).lt q (by rw [ownBlock_blk];exact hq)
theorem R4.keep (h:R4 w base A C R) {q:Nat} (hg:w.grownBy w' (some q)) (hq:q < base):R4 w' base A C R:=by
 refine ⟨fun k hk=>(h.own k hk).kept hg ?_,h.ne⟩
 rw [ownBlock_blk]
 cases hb:blk (A k) with
 | none=>exact .inl rfl
 | some g=>
  right
  intro e
  injection e with e
  have:=(h.lt hk hb).1
  omega
theorem R4.below (h:R4 w base A C R) (hb:Below w.heap.size w w'):R4 w' base A C R:=⟨fun k hk=>own_keep (h.own k hk) hb,h.ne⟩
theorem R4.put (h:R4 w base A C R) {j:Nat} (hj:j < 4) {B:Option Addr} {k:Nat} {zs:List Int} (ho:w'.ownsRow base 3 1 (.slice B zs.length k) zs.length (zs.map (Value.int .i64))) (hg:w.grownBy w' (blk (A j))) (hB:B=A j∨B=some ⟨w.heap.size,0,none⟩) :
  R4 w' base (upd A j B) (upd C j k) (upd R j zs):=by
 refine ⟨fun i hi=>?_,fun i l hi hl hne=>?_⟩
 ·by_cases e:i=j
  ·subst e
   rw [upd_at,upd_at,upd_at]
   exact ho
  ·rw [upd_ne e,upd_ne e,upd_ne e]
   refine (h.own i hi).kept hg ?_
   rw [ownBlock_blk]
   exact h.ne i j hi hj e
 ·have nb:∀i,i < 4→i≠j→blk (A i)=none∨blk (A i)≠blk B:=fun i hi e=>by
   rcases hB with rfl | rfl
   ·exact h.ne i j hi hj e
   ·cases hb:blk (A i) with
    | none=>exact .inl rfl
    | some g=>
     right
     intro e2
     have e3:g=w.heap.size:=by injection e2
     have:=(h.lt hi hb).2
     omega
  by_cases e:i=j
  ·subst e
   rw [upd_at,upd_ne (fun g=>hne g.symm)]
   cases hb:blk B with
   | none=>exact .inl rfl
   | some g=>
    right
    rcases nb l hl (fun g=>hne g.symm) with g1 | g1
    ·rw [g1];simp
    ·rw [hb] at g1;exact fun e=>g1 e.symm
  ·rw [upd_ne e]
   by_cases e2:l=j
   ·subst e2
    rw [upd_at]
    exact nb i hi e
   ·rw [upd_ne e2]
    exact h.ne i l hi hl hne
end
def lcs (A:Nat→Option Addr) (C:Nat→Nat) (R:Nat→List Int):List Value:=[.slice (A 0) (R 0).length (C 0),.slice (A 1) (R 1).length (C 1),.slice (A 2) (R 2).length (C 2),.slice (A 3) (R 3).length (C 3)]
theorem lcs_put (A:Nat→Option Addr) (C:Nat→Nat) (R:Nat→List Int) {j:Nat} (hj:j < 4) (B:Option Addr) (k:Nat) (zs:List Int):(lcs A C R).set j (.slice B zs.length k)=lcs (upd A j B) (upd C j k) (upd R j zs):=by
 match j,hj with
 | 0,_=>rfl
 | 1,_=>rfl
 | 2,_=>rfl
 | 3,_=>rfl
theorem lcs_len (A:Nat→Option Addr) (C:Nat→Nat) (R:Nat→List Int):(lcs A C R).length=4:=rfl
def mixR (r r':Nat→List Int) (j:Nat):Nat→List Int:=fun k=>if k < j then r' k else r k
theorem mixR_zero (r r':Nat→List Int):mixR r r' 0=r:=by funext k;unfold mixR;rw [if_neg (by omega)]
theorem mixR_next {r r':Nat→List Int} {j:Nat}:upd (mixR r r' j) j (r' j)=mixR r r' (j+1):=by
 funext k
 unfold upd mixR
 by_cases e:k=j
 ·subst e;rw [if_pos rfl,if_pos (by omega)]
 ·rw [if_neg e]
  by_cases g:k < j
  ·rw [if_pos g,if_pos (by omega)]
  ·rw [if_neg g,if_neg (by omega)]
theorem mixR_same {r r':Nat→List Int} {j:Nat} (h:r' j=r j):mixR r r' (j+1)=mixR r r' j:=by
 funext k
 unfold mixR
 by_cases e:k=j
 ·subst e;rw [if_pos (by omega),if_neg (by omega),h]
 ·by_cases g:k < j
  ·rw [if_pos g,if_pos (by omega)]
  ·rw [if_neg g,if_neg (by omega)]
theorem mixR_all {r r':Nat→List Int} {A:Nat→Option Addr} {C:Nat→Nat} {w:World} {base:Nat} (h:R4 w base A C (mixR r r' 4)):R4 w base A C r'∧lcs A C (mixR r r' 4)=lcs A C r':=
 ⟨⟨fun k hk=>by have:=h.own k hk;unfold mixR at this;simp only [if_pos hk] at this;exact this,h.ne⟩,rfl⟩
theorem rows_lcs {w:World} {base:Nat} {A:Nat→Option Addr} {C:Nat→Nat} {R:Nat→List Int} (h:R4 w base A C R) {k:Nat} (hk:k≤4) {E:Option Addr} (hE:Sl w E ((lcs A C R).take k)):RowsAt w E ((List.range k).map R):=by
 refine ⟨(lcs A C R).take k,hE,by rw [List.length_take,lcs_len];simp;omega,fun i hi hv=>?_⟩
 have hi4:i < 4:=by simp at hi;omega
 refine ⟨A i,C i,?_,?_,?_⟩
 ·rw [List.getElem_take,List.getElem_map,List.getElem_range]
  match i,hi4 with
  | 0,_=>rfl
  | 1,_=>rfl
  | 2,_=>rfl
  | 3,_=>rfl
 ·rw [List.getElem_map,List.getElem_range]
  obtain ⟨_,_,hv,hc⟩:=own_form (h.own i hi4)
  injection hv with _ _ hv
  subst hv
  exact hc
 ·rw [List.getElem_map,List.getElem_range]
  exact Sl.of_own (h.own i hi4)
end Go.Proofs.YtijgbonhjcblcaaGreatDoor
namespace Go.Proofs.YtijgbonhjcblcaaGreatDoor
open Go.RowKit
section
variable {P:Program} {ops:Array Oper} {Q:Exit→Act→World→Prop} {md:Region.Mode} {S:World→Prop}
theorem anyH_unit {i:Nat} {oi:Oper} {fuel:Nat} {listed:Array Bool} {a:Act} {w w':World} (d:Option Tmp) (hi:ops[i]?=some oi) (hd:oi.dst=d)
  (hr:Region.ready md ops listed=[i]) (hw:Region.wanted oi (yielded ops a.tmps)=true) (he:(execOp a.eval oi).run P w=.ok .skip w') (hS:S w')
  (h:wpAnyH P md ops Q S fuel (listed.setIfInBounds i true) (a.put d undef) w'):wpAnyH P md ops Q S (fuel+1) listed a w:=by
 subst hd
 refine anyH_do hi hr hw (fun K hK=>?_)
 unfold Oper.wp
 rw [he]
 simp only [Oper.upon]
 exact hK.out _ _ hS (fun _=>h)
theorem anyH_app {i:Nat} {oi:Oper} {fuel:Nat} {listed:Array Bool} {a:Act} {w:World} (d:Option Tmp) (hi:ops[i]?=some oi) (hd:oi.dst=d)
  (hr:Region.ready md ops listed=[i]) (hw:Region.wanted oi (yielded ops a.tmps)=true) (s x:Operand) (t e:TypeId) (z:Value) (size bytes:Nat)
  (ho:oi.op=.call { callee:=.builtin .append,args:=#[s,x],argTypes:=#[t,t] }) (ht:P.underlying t=some (.slice e))
  (hinfo:(P.info? e).map (fun i=>(i.zero,i.size,i.bytes))=some (some z,size,bytes)) (hzs:z.cells.size=size) (hsz:0 < size) (hby:0 < bytes)
  {base:Nat} {A:Option Addr} {n c:Nat} {xs:List Value} (hs:a.eval s=.slice A n c) (hown:w.ownsRow base e size (.slice A n c) n xs)
  {A':Option Addr} {m c':Nat} {news:List Value} (hx:a.eval x=.slice A' m c') (hrow:Sl w A' news) (hl:news.length=m*size) (h1:∀u ∈ news,u.oneCell'=true)
  (hlim:(n+m)*bytes≤140737488355328) (hbase:base≤w.heap.size)
  (h:∀B k w',w'.ownsRow base e size (.slice B (n+m) k) (n+m) (xs++news)→n+m≤k→Below base w w'→w.grownBy w' (Value.ownBlock (.slice A n c))→(B=A∨B=some ⟨w.heap.size,0,none⟩)→
   S w'∧wpAnyH P md ops Q S fuel (listed.setIfInBounds i true) (a.put d (.slice B (n+m) k)) w'):wpAnyH P md ops Q S (fuel+1) listed a w:=by
 subst hd
 refine anyH_do hi hr hw (fun K hK=>?_)
 obtain ⟨B,k,w',hrun,h2,h3,h4,h5,h6⟩:=run_app (P:=P) t oi.type e z size bytes ht hinfo hzs hsz hby hown (c':=c') hrow hl h1 hlim hbase
 unfold Oper.wp execOp
 simp only [ho,resolve,invoke,builtin,Sem.run_bind,Sem.run_pure,Result.andThen_ok,List.map_toArray,List.map_cons,List.map_nil,hs,hx,hrun]
 have:=h B k w' h2 h3 h4 h5 h6
 exact hK.out _ _ this.1 (fun _=>this.2)
end
section
variable {P:Program} {w:World}
theorem wpList_app0 {ops:Array Oper} {rest:List Oper} {o:Oper} {a:Act} {Q:Exit→Act→World→Prop} (s x:Operand) (t e:TypeId) (z:Value) (size bytes:Nat)
  (hgd:o.guard=none) (ho:o.op=.call { callee:=.builtin .append,args:=#[s,x],argTypes:=#[t,t] }) (ht:P.underlying t=some (.slice e))
  (hinfo:(P.info? e).map (fun i=>(i.zero,i.size,i.bytes))=some (some z,size,bytes)) (hzs:z.cells.size=size) (hsz:0 < size) (hby:0 < bytes)
  (hs:a.eval s=.slice none 0 0)
  {A':Option Addr} {m c':Nat} {news:List Value} (hx:a.eval x=.slice A' m c') (hr:Sl w A' news) (hl:news.length=m*size) (h1:∀u ∈ news,u.oneCell'=true)
  (hlim:m*bytes≤140737488355328)
  (h:∀B k w',w'.ownsRow w.heap.size e size (.slice B m k) m news→m≤k→Below w.heap.size w w'→wpList P ops Q rest (a.put o.dst (.slice B m k)) w'):wpList P ops Q (o::rest) a w:=by
 refine wpList_app s x t e z size bytes hgd ho ht hinfo hzs hsz hby hs (World.ownsRow_nil w w.heap.size _ _) hx hr hl h1 (by rw [Nat.zero_add];exact hlim) (Nat.le_refl _) ?_
 intro B k w' h2 h3 h4 _ _
 rw [Nat.zero_add] at *
 exact h B k w' h2 h3 h4
end
end Go.Proofs.YtijgbonhjcblcaaGreatDoor
namespace Go.Proofs.YtijgbonhjcblcaaGreatDoor
open Go.RowKit Go.Maps Go.WideMaps
end Go.Proofs.YtijgbonhjcblcaaGreatDoor
namespace Go.Proofs.YtijgbonhjcblcaaGreatDoor.Can
section
variable {cl:Int→Int}
end
end Go.Proofs.YtijgbonhjcblcaaGreatDoor.Can
namespace Go.Proofs.YtijgbonhjcblcaaGreatDoor
end Go.Proofs.YtijgbonhjcblcaaGreatDoor
namespace Go.Proofs.YtijgbonhjcblcaaGreatDoor.Cps
open Go.Proofs.YtijgbonhjcblcaaGreatDoor
structure CSt where
 pre:List Int
 st:Option Int
 bt:List Int
def CSt.out (s:CSt):List Int:=s.pre++(s.st.toList++s.bt)
def s0:CSt:=⟨[],none,[]⟩
section
variable (cl:Int→Int) (pr:Int→Int→Option Int)
def free (s:CSt) (c:Int):Bool:=match s.bt.getLast? with | none=>true | some b=>decide (cl b < cl c)
def put (s:CSt) (c:Int):CSt:=if cl c=0 then ⟨s.out,some c,[]⟩ else ⟨s.pre,s.st,s.bt++[c]⟩
def join (s:CSt) (c:Int):Option Int:=match s.st with | some L=>if free cl s c=true then pr L c else none | none=>none
def step (s:CSt) (c:Int):CSt:=match join cl pr s c with | some p=>⟨s.pre,some p,s.bt⟩ | none=>put cl s c
def run (s:CSt) (t:List Int):CSt:=t.foldl (step cl pr) s
def text (t:List Int):List Int:=(run cl pr s0 t).out
end
section
variable {cl:Int→Int} {pr:Int→Int→Option Int}
theorem put_out (s:CSt) (c:Int):(put cl s c).out=s.out++[c]:=by
 unfold put
 split <;> simp [CSt.out]
theorem join_some {s:CSt} {c p:Int} (h:join cl pr s c=some p):∃L,s.st=some L∧free cl s c=true∧pr L c=some p:=by
 unfold join at h
 split at h
 ·next L hL=>
  split at h
  ·next hf=>exact ⟨L,hL,hf,h⟩
  ·cases h
 ·cases h
theorem step_some {s:CSt} {c p:Int} (h:join cl pr s c=some p):step cl pr s c=⟨s.pre,some p,s.bt⟩:=by unfold step;rw [h]
theorem step_none {s:CSt} {c:Int} (h:join cl pr s c=none):step cl pr s c=put cl s c:=by unfold step;rw [h]
end
section
variable {cl:Int→Int} {pr:Int→Int→Option Int} {D:Int→List Int}
theorem inv_move (c:Int) (q:List Int) (hc:cl c≠0) (h:∀y ∈ q,cl y≠0∧cl y≠cl c):Can.Inv cl (c::q) (q++[c]):=by
 induction q with
 | nil=>exact Can.Inv.refl _
 | cons y r ih=>
  have hy:=h y (by simp)
  exact (Can.Inv.swap r hc hy.1 (fun e=>hy.2 e.symm)).trans ((ih (fun z hz=>h z (by simp [hz]))).cons y)
structure Und (cl:Int→Int) (D:Int→List Int) (u:List Int) (s:CSt):Prop where
 inv:Can.Inv cl (s.out.flatMap D) u
 bts:∀b ∈ s.bt,D b=[b]∧cl b≠0
 pw:s.bt.Pairwise (fun x y=>cl x≤cl y)
 top:∀b ∈ s.bt,∃x,u.getLast?=some x∧cl b≤cl x
theorem flat_self {l:List Int} (h:∀b ∈ l,D b=[b]):l.flatMap D=l:=by
 induction l with
 | nil=>rfl
 | cons b l ih=>rw [List.flatMap_cons,h b (by simp),ih (fun x hx=>h x (by simp [hx]))];rfl
theorem last_le {l:List Int} (hp:l.Pairwise (fun x y=>cl x≤cl y)) {b:Int} (hb:l.getLast?=some b):∀x ∈ l,cl x≤cl b:=by
 obtain ⟨r,rfl⟩:∃r,l=r++[b]:=by
  cases hl:l with
  | nil=>rw [hl] at hb;cases hb
  | cons x y=>
   rw [hl] at hb
   refine ⟨(x::y).dropLast,?_⟩
   have h1:(x::y).getLast (by simp)=b:=by rw [List.getLast?_eq_some_getLast (by simp)] at hb;injection hb
   rw [←h1,List.dropLast_concat_getLast]
 intro x hx
 rcases List.mem_append.1 hx with hx | hx
 ·exact (List.pairwise_append.1 hp).2.2 x hx b (by simp)
 ·simp at hx;subst hx;omega
theorem Und.step (hcl:∀x,0≤cl x) (hD:∀L c p,pr L c=some p→D p=D L++D c) {u:List Int} {s:CSt} {c:Int} (h:Und cl D u s) (hc:D c=[c]) (hok:cl c≠0→∀x,u.getLast?=some x→cl x≤cl c):Und cl D (u++[c]) (step cl pr s c):=by
 have hlast:(u++[c]).getLast?=some c:=by simp
 have hlt:cl c≠0→∀b ∈ s.bt,cl b≤cl c:=fun h0 b hb=>by
  obtain ⟨x,h1,h2⟩:=h.top b hb
  have:=hok h0 x h1
  omega
 cases hj:join cl pr s c with
 | none=>
  rw [step_none hj]
  have hi:Can.Inv cl ((put cl s c).out.flatMap D) (u++[c]):=by
   rw [put_out,List.flatMap_append]
   have:[c].flatMap D=[c]:=by simp [hc]
   rw [this]
   exact h.inv.append (Can.Inv.refl _)
  by_cases h0:cl c=0
  ·have e:(put cl s c).bt=[]:=by unfold put;rw [if_pos h0]
   exact ⟨hi,by rw [e];simp,by rw [e];simp,by rw [e];simp⟩
  ·have e:(put cl s c).bt=s.bt++[c]:=by unfold put;rw [if_neg h0]
   refine ⟨hi,?_,?_,?_⟩ <;> rw [e]
   ·intro b hb
    rcases List.mem_append.1 hb with hb | hb
    ·exact h.bts b hb
    ·simp at hb;subst hb;exact ⟨hc,h0⟩
   ·rw [List.pairwise_append]
    exact ⟨h.pw,by simp,fun a ha b hb=>by simp at hb;subst hb;exact hlt h0 a ha⟩
   ·intro b hb
    refine ⟨c,hlast,?_⟩
    rcases List.mem_append.1 hb with hb | hb
    ·exact hlt h0 b hb
    ·simp at hb;subst hb;omega
 | some p=>
  obtain ⟨L,h1,h2,h3⟩:=join_some hj
  rw [step_some hj]
  have hDp:=hD L c p h3
  rw [hc] at hDp
  have hall:∀b ∈ s.bt,cl b < cl c:=by
   intro b hb
   unfold free at h2
   cases hl:s.bt.getLast? with
   | none=>rw [List.getLast?_eq_none_iff] at hl;rw [hl] at hb;cases hb
   | some y=>
    rw [hl] at h2
    have h4:cl y < cl c:=by simpa using h2
    have:=last_le h.pw hl b hb
    omega
  refine ⟨?_,h.bts,h.pw,fun b hb=>⟨c,hlast,by have:=hall b hb;omega⟩⟩
  have e1:(CSt.out ⟨s.pre,some p,s.bt⟩).flatMap D=s.pre.flatMap D++(D L++(c::s.bt)):=by
   simp [CSt.out,hDp,flat_self (fun b hb=>(h.bts b hb).1)]
  have e2:s.out.flatMap D++[c]=s.pre.flatMap D++(D L++(s.bt++[c])):=by
   simp [CSt.out,h1,flat_self (fun b hb=>(h.bts b hb).1)]
  rw [e1]
  have hmv:Can.Inv cl (c::s.bt) (s.bt++[c]):=by
   by_cases hb:s.bt=[]
   ·rw [hb];exact Can.Inv.refl _
   ·obtain ⟨y,hy⟩:=List.exists_mem_of_ne_nil _ hb
    have h5:=hall y hy
    have h6:=hcl y
    exact inv_move c _ (by omega) (fun z hz=>⟨(h.bts z hz).2,by have:=hall z hz;omega⟩)
  refine ((Can.Inv.refl (cl:=cl) (s.pre.flatMap D)).append ((Can.Inv.refl (cl:=cl) (D L)).append hmv)).trans ?_
  rw [←e2]
  exact h.inv.append (Can.Inv.refl _)
end
end Go.Proofs.YtijgbonhjcblcaaGreatDoor.Cps
namespace Go.Proofs.YtijgbonhjcblcaaGreatDoor
open Go.RowKit
def usN (x:Nrm):Nrm:=if nErr x=0 then x else ⟨[],[],[]⟩
structure NOk (x:Nrm):Prop where
 st:StF x.dec
 hg:NoHg x.dec
 co:CodesOk x.dec
 en:endB x.dec=true
 lo:longB x.dec=false
 kd:∀m ∈ x.dec,m.tag.size=0→m.to.length=1∨m.to.length=2
theorem usN_ok (x:Nrm):NOk (usN x):=by
 unfold usN
 split
 ·next h=>
  obtain ⟨c,h1,h2⟩:=nErr_ck6 h
  refine ⟨StF_of c.t,NoHg_of c.d,mapErr_codes c.m,h1,h2,fun m hm ht=>?_⟩
  have:=List.any_eq_false.1 c.k m hm
  unfold kindB at this
  simp [ht] at this
  omega
 ·exact ⟨fun i j hi=>by simp at hi,fun i hi=>by simp at hi,fun i hi=>by simp at hi,rfl,rfl,fun m hm=>by simp at hm⟩
def keyP (m:Mp):Int × Int:=(m.to.getD 0 0,m.to.getD 1 0)
section
variable {x:Nrm}
end
end Go.Proofs.YtijgbonhjcblcaaGreatDoor
namespace Go.Proofs.YtijgbonhjcblcaaGreatDoor
open Go.RowKit Go.Maps Go.WideMaps
theorem results_nrm {fn:Func} (hr:fn.results=#[.cell 2 28]) (tmps:Array Value) (w:World) {b:Nat} {v0 v1 v2:Value} (ha:tmps.getD 2 undef=.pointer (some ⟨b,0,none⟩))
  (c0:w.cell? ⟨b,0,none⟩=some v0) (c1:w.cell? ⟨b,1,none⟩=some v1) (c2:w.cell? ⟨b,2,none⟩=some v2) :
  (results fn tmps).run Tryz.prog w=.ok (.agg #[v0,v1,v2]) w:=by
 unfold results
 rw [hr]
 simp only [ha,List.mapM_toArray,List.mapM_cons,List.mapM_nil,asAddr]
 go_simp
theorem NrmAt.empty (w:World):NrmAt w none 0 none 0 none 0 ⟨[],[],[]⟩:=⟨Sl.nil _ _,Mps.nil _ _,Sl.nil _ _,rfl,rfl,rfl⟩
theorem usN_bad {x:Nrm} (h:¬nErr x=0):usN x=⟨[],[],[]⟩:=if_neg h
theorem usN_good {x:Nrm} (h:nErr x=0):usN x=x:=if_pos h
def usV (x:Nrm) (A0:Option Addr) (k0:Nat) (A1:Option Addr) (k1:Nat) (A2:Option Addr) (k2:Nat):Value:=if nErr x=0 then .agg #[.slice A0 x.cls.length k0,.slice A1 x.dec.length k1,.slice A2 x.exc.length k2] else .agg #[.slice none 0 0,.slice none 0 0,.slice none 0 0]
theorem usV_bad {x:Nrm} (A0:Option Addr) (k0:Nat) (A1:Option Addr) (k1:Nat) (A2:Option Addr) (k2:Nat) (h:¬nErr x=0):usV x A0 k0 A1 k1 A2 k2=.agg #[.slice none 0 0,.slice none 0 0,.slice none 0 0]:=if_neg h
theorem usV_good {x:Nrm} (A0:Option Addr) (k0:Nat) (A1:Option Addr) (k1:Nat) (A2:Option Addr) (k2:Nat) (h:nErr x=0):usV x A0 k0 A1 k1 A2 k2=.agg #[.slice A0 x.cls.length k0,.slice A1 x.dec.length k1,.slice A2 x.exc.length k2]:=if_pos h
theorem usV_at {w:World} {A0:Option Addr} {n0:Nat} {A1:Option Addr} {n1:Nat} {A2:Option Addr} {n2:Nat} {x:Nrm} (h:NrmAt w A0 n0 A1 n1 A2 n2 x) (k0 k1 k2:Nat):∃B0 c0 B1 c1 B2 c2,usV x A0 k0 A1 k1 A2 k2=.agg #[.slice B0 (usN x).cls.length c0,.slice B1 (usN x).dec.length c1,.slice B2 (usN x).exc.length c2]∧
  ∀W,Below w.heap.size w W→NrmAt W B0 (usN x).cls.length B1 (usN x).dec.length B2 (usN x).exc.length (usN x):=by
 by_cases hc:nErr x=0
 ·rw [usN_good hc,usV_good _ _ _ _ _ _ hc]
  exact ⟨_,_,_,_,_,_,rfl,fun W hb=>⟨h.s0.below hb,h.s1.below hb,h.s2.below hb,rfl,rfl,rfl⟩⟩
 ·rw [usN_bad hc,usV_bad _ _ _ _ _ _ hc]
  exact ⟨none,0,none,0,none,0,rfl,fun W _=>NrmAt.empty W⟩
theorem NrmSz.us {x:Nrm} (h:NrmSz x):NrmSz (usN x):=by
 unfold usN
 split
 ·exact h
 ·exact ⟨by simp,⟨by simp,fun i hi=>by simp at hi⟩,by simp⟩
end Go.Proofs.YtijgbonhjcblcaaGreatDoor
namespace Go.Proofs.YtijgbonhjcblcaaGreatDoor
open Go.RowKit
theorem RetOwnI.hg {zs:List Int} {w w':World} {e:Ending} (h:RetOwnI zs w e w'):RetHg zs w e w':=by
 obtain ⟨A,c,he,ho,hb⟩:=h
 refine ⟨A,c,he,?_,Sl.of_own ho,hb⟩
 obtain ⟨_,_,hv,hc⟩:=own_form ho
 injection hv with _ _ hv
 subst hv
 exact hc
end Go.Proofs.YtijgbonhjcblcaaGreatDoor
namespace Go.Proofs.YtijgbonhjcblcaaGreatDoor
open Go.RowKit Go.Maps Go.WideMaps
def flM (x:Nrm) (compat:Bool) (t:List Int):List Int:=t.flatMap (dcM x.dec compat)
theorem flM_len {x:Nrm} (h:NOk x) (compat:Bool) (t:List Int):(flM x compat t).length≤64*t.length:=by
 unfold flM
 induction t with
 | nil=>simp
 | cons c t ih=>have:=dcM_len h.st h.hg h.en h.lo compat c;rw [List.flatMap_cons,List.length_append,List.length_cons];omega
theorem onM_codes {ms:List Mp} (hc:CodesOk ms) {compat:Bool} {c:Int} {to:List Int} (h:onM ms compat c=some to):∀e ∈ to,iok e:=by
 intro e he
 unfold onM at h
 split at h
 ·next h4=>
  injection h with h
  subst h
  exact iok_code ((decomp_kids h4).2 e he).1
 ·cases hf:fndM ms compat c with
  | none=>rw [hf] at h;cases h
  | some m=>
   rw [hf] at h
   obtain ⟨hm,_⟩:=fndM_at hf
   simp only [Option.map_some,Option.some.injEq] at h
   rw [toM_at hm] at h
   subst h
   exact iok_code ((hc m hm).2.2 e he)
theorem full_iok {ms:List Mp} (hc:CodesOk ms) {compat:Bool} {c:Int} {l:List Int} (h:Full (onM ms compat) c l):iok c→∀e ∈ l,iok e:=by
 induction h with
 | leaf h=>intro h1 e he;simp at he;subst he;exact h1
 | @node c to vs h1 h2 _ ih=>
  intro _ e he
  obtain ⟨v,hv,he⟩:=List.mem_flatten.1 he
  obtain ⟨i,hi,rfl⟩:=List.getElem_of_mem hv
  exact ih i (by omega) hi (onM_codes hc h1 _ (List.getElem_mem (by omega))) e he
theorem fl_facts {x:Nrm} (h:NOk x) (compat:Bool) {t:List Int} (ht:∀c ∈ t,iok c):(∀c ∈ Can.srt (clz x.cls) (flM x compat t),iok c∧dcM x.dec compat c=[c])∧Can.Ok (clz x.cls) (Can.srt (clz x.cls) (flM x compat t)):=by
 refine ⟨fun c hc=>?_,Can.srt_ok _⟩
 have hm:=(Can.srt_perm (flM x compat t)).mem_iff.1 hc
 unfold flM at hm
 obtain ⟨e,he,hce⟩:=List.mem_flatMap.1 hm
 exact ⟨full_iok h.co (dcM_full h.st h.hg h.en compat e) (ht e he) c hce,dcM_elem h.st h.hg h.en compat hce⟩
end Go.Proofs.YtijgbonhjcblcaaGreatDoor
namespace Go.Proofs.YtijgbonhjcblcaaGreatDoor
open Go.RowKit Go.Maps Go.WideMaps
def mkF (f:Int→Option Value):Int→Option Int:=fun c=>(f c).map (fun _=>0)
theorem mkF_none {f:Int→Option Value} {c:Int}:mkF f c=none ↔ f c=none:=by unfold mkF;cases f c <;> simp
theorem mkF_put (f:Int→Option Value) (c:Int) (v:Value):mkF (fun y=>if y=c then some v else f y)=putM (mkF f) c 0:=by
 funext x
 unfold mkF putM
 by_cases e:x=c
 ·simp [e]
 ·simp [e]
theorem grown_belowB {a w w':World} {r:Option Nat} {B:Nat} (h:a.grownBy w r) (g:Below B w w') (hB:a.heap.size≤B):a.grownBy w' r:=
 ⟨g.os.trans h.os,g.tape.trans h.tape,g.output.trans h.output,Nat.le_trans h.size g.size,fun k hk hne=>(g.block k (Nat.lt_of_lt_of_le hk hB)).trans (h.block k hk hne)⟩
theorem Sl.grownM {W W':World} {U:Nat} {A:Option Addr} {cs:List Value} (h:Sl W A cs) (hg:W.grownBy W' (some U)) (hU:∀o,W.cell? ⟨U,o,none⟩=none):Sl W' A cs:=by
 intro hne
 obtain ⟨b,o,rfl,hc⟩:=h hne
 refine ⟨b,o,rfl,fun j u hu=>?_⟩
 have h1:=hc j u hu
 have hq:b≠U:=fun e=>by rw [e,hU] at h1;cases h1
 exact (World.cell?_of_block (hg.block b (World.block_lt_of_cell? W _ h1) (fun e=>hq (by injection e)))).trans h1
theorem Full.noway {on:Int→Option (List Int)} {c:Int} {l:List Int} (h:Full on c l):¬Path on c c:=by
 have key:∀{c l},Full on c l→∀d,Path on c d→¬Path on d c:=by
  intro c l h
  induction h with
  | leaf h=>
   intro d p _
   rcases p.head with ⟨to,h1,_⟩ | ⟨x,⟨to,h1,_⟩,_⟩
   ·rw [h] at h1;cases h1
   ·rw [h] at h1;cases h1
  | @node c to vs h1 h2 h3 ih=>
   have step:∀x,Edge on c x→∀y,Path on x y→¬Path on y x:=fun x ⟨to',g1,g2⟩ y=>by
    rw [h1] at g1
    injection g1 with g1
    subst g1
    obtain ⟨i,hi,rfl⟩:=List.getElem_of_mem g2
    exact ih i hi (by omega) y
   intro d p q
   rcases p.head with e | ⟨x,e,p2⟩
   ·have q2:Path on d d:=by
     rcases q.head with e2 | ⟨y,e2,q3⟩
     ·exact .more (.one e2) e
     ·exact .more q e
    exact step d e d q2 q2
   ·have q3:Path on d x:=.more q e
    exact step x e d p2 q3
 intro p
 exact key h c p p
def uM (ms:List Mp):List Int:=fsM ms++(List.range 11172).map (fun i:Nat=>44032+(i:Int))
theorem uM_len (ms:List Mp):(uM ms).length=ms.length+11172:=by unfold uM fsM;simp
theorem onM_uM {ms:List Mp} {b:Bool} {c:Int} {to:List Int} (h:onM ms b c=some to):c ∈ uM ms:=by
 unfold uM
 rw [List.mem_append]
 unfold onM at h
 split at h
 ·next h4=>
  right
  have hr:44032≤c∧c≤55203:=by
   have h5:=(Hg.kind_range c).2
   by_cases h44:Hg.kind c=4
   ·have:=kind_is4 h44;omega
   ·have:=kind_is5 (show Hg.kind c=5 by omega);omega
  exact List.mem_map.2 ⟨(c - 44032).toNat,List.mem_range.2 (by omega),by omega⟩
 ·left
  cases hf:fndM ms b c with
  | none=>rw [hf] at h;cases h
  | some i=>
   obtain ⟨hi,h1,_⟩:=fndM_at hf
   exact List.mem_map.2 ⟨ms[i],List.getElem_mem hi,h1⟩
structure XM (A0:Option Addr) (n0 k0:Nat) (A1:Option Addr) (n1 k1:Nat) (A2:Option Addr) (n2 k2:Nat) (ms:List Mp) (compat:Bool) (s:Nat) (w:World) (n:Nat) (f:Int→Option Value):Prop where
 bN:Box w s 28 [.slice A0 n0 k0,.slice A1 n1 k1,.slice A2 n2 k2]
 bB:Box w (s+1) 4 [.bool compat]
 mp:MapI w (s+2) n f
 bM:Box w (s+3) 163 [.map (some (s+2))]
 bX:Box w (s+4) 120 [.func (.func 117) #[] #[.pointer (some ⟨s+3,0,none⟩),.pointer (some ⟨s,0,none⟩),.pointer (some ⟨s+1,0,none⟩),.pointer (some ⟨s+4,0,none⟩)]]
 fd:∀c v,f c=some v→∃E d l,v=.slice E l.length d∧l.length≤d∧Full (onM ms compat) c l∧Ints w E l
section
variable {A0:Option Addr} {n0 k0:Nat} {A1:Option Addr} {n1 k1:Nat} {A2:Option Addr} {n2 k2:Nat} {ms:List Mp} {compat:Bool} {s:Nat} {w w':World} {n:Nat} {f:Int→Option Value}
theorem XM.below (h:XM A0 n0 k0 A1 n1 k1 A2 n2 k2 ms compat s w n f) (hb:Below w.heap.size w w'):XM A0 n0 k0 A1 n1 k1 A2 n2 k2 ms compat s w' n f:=
 ⟨h.bN.below hb h.bN.lt,h.bB.below hb h.bB.lt,h.mp.below hb,h.bM.below hb h.bM.lt,h.bX.below hb h.bX.lt,fun c v e=>by
  obtain ⟨E,d,l,h1,h2,h3,h4⟩:=h.fd c v e
  exact ⟨E,d,l,h1,h2,h3,h4.below hb⟩⟩
theorem XM.belowB {B:Nat} (h:XM A0 n0 k0 A1 n1 k1 A2 n2 k2 ms compat s w n f) (hb:Below B w w') (hB:s+4 < B) (hfd:∀c v,f c=some v→∃E d l,v=.slice E l.length d∧l.length≤d∧Full (onM ms compat) c l∧Ints w' E l):XM A0 n0 k0 A1 n1 k1 A2 n2 k2 ms compat s w' n f:=
 ⟨h.bN.below hb (by omega),h.bB.below hb (by omega),by
  obtain ⟨D,⟨es,clock,g1,g2⟩,g3⟩:=h.mp
  exact ⟨D,⟨es,clock,(hb.block _ (by omega)).trans g1,g2⟩,g3⟩,h.bM.below hb (by omega),h.bX.below hb (by omega),hfd⟩
theorem XM.put (h:XM A0 n0 k0 A1 n1 k1 A2 n2 k2 ms compat s w n f) {m:Nat} {c:Int} {E:Option Addr} {d:Nat} {l:List Int} (hm:MapI w' (s+2) m (fun y=>if y=c then some (.slice E l.length d) else f y)) (hg:w.grownBy w' (some (s+2)))
  (hd:l.length≤d) (hf:Full (onM ms compat) c l) (hE:Ints w E l):XM A0 n0 k0 A1 n1 k1 A2 n2 k2 ms compat s w' m (fun y=>if y=c then some (.slice E l.length d) else f y):=by
 refine ⟨h.bN.grown hg (by simp),h.bB.grown hg (by simp),hm,h.bM.grown hg (by simp),h.bX.grown hg (by simp),fun x v e=>?_⟩
 by_cases hx:x=c
 ·rw [if_pos hx] at e
  injection e with e
  subst hx
  exact ⟨E,d,l,e.symm,hd,hf,Sl.grownM hE hg h.mp.nocell⟩
 ·rw [if_neg hx] at e
  obtain ⟨E',d',l',h1,h2,h3,h4⟩:=h.fd x v e
  exact ⟨E',d',l',h1,h2,h3,Sl.grownM h4 hg h.mp.nocell⟩
end
structure XRet (A0:Option Addr) (n0 k0:Nat) (A1:Option Addr) (n1 k1:Nat) (A2:Option Addr) (n2 k2:Nat) (ms:List Mp) (compat:Bool) (s:Nat) (c:Int) (l:List Int) (w:World) (n:Nat) (f:Int→Option Value) (E:Option Addr) (w':World) (n':Nat) (f':Int→Option Value):Prop where
 ints:Ints w' E l
 st:XM A0 n0 k0 A1 n1 k1 A2 n2 k2 ms compat s w' n' f'
 gr:w.grownBy w' (some (s+2))
 pot:n'+unmarked (uM ms) (mkF f')≤n+unmarked (uM ms) (mkF f)
 fr:∀x E' m d,f' x=some (.slice E' m d)→f x=some (.slice E' m d)∨m=0∨∀b o,E'=some ⟨b,o,none⟩→w.heap.size≤b
 mks:∀x,f' x≠none→f x≠none∨x=c∨Path (onM ms compat) c x
def XRetE (A0:Option Addr) (n0 k0:Nat) (A1:Option Addr) (n1 k1:Nat) (A2:Option Addr) (n2 k2:Nat) (ms:List Mp) (compat:Bool) (s:Nat) (c:Int) (l:List Int) (w:World) (n:Nat) (f:Int→Option Value) (e:Ending) (w':World):Prop:=
 ∃E d n' f',e=.returned (.slice E l.length d)∧l.length≤d∧XRet A0 n0 k0 A1 n1 k1 A2 n2 k2 ms compat s c l w n f E w' n' f'
def XOk (A0:Option Addr) (n0 k0:Nat) (A1:Option Addr) (n1 k1:Nat) (A2:Option Addr) (n2 k2:Nat) (ms:List Mp) (compat:Bool) (s:Nat) (w0:World) (c:Int) (l:List Int):Prop:=
 iok c→l.length≤4096→∀(w:World) (n:Nat) (f:Int→Option Value),XM A0 n0 k0 A1 n1 k1 A2 n2 k2 ms compat s w n f→Below s w0 w→n+unmarked (uM ms) (mkF f)≤1000000000→
  Calls Tryz.prog 117 #[.int .i64 c,.pointer (some ⟨s+3,0,none⟩),.pointer (some ⟨s,0,none⟩),.pointer (some ⟨s+1,0,none⟩),.pointer (some ⟨s+4,0,none⟩)] w
   (XRetE A0 n0 k0 A1 n1 k1 A2 n2 k2 ms compat s c l w n f)
def Apart (f:Int→Option Value) (B:Option Addr):Prop:=∀x E m d b o b' o',f x=some (.slice E m d)→E=some ⟨b,o,none⟩→B=some ⟨b',o',none⟩→m=0∨b≠b'
section
variable {A0:Option Addr} {n0 k0:Nat} {A1:Option Addr} {n1 k1:Nat} {A2:Option Addr} {n2 k2:Nat} {ms:List Mp} {compat:Bool} {s:Nat} {w w':World} {n:Nat} {f:Int→Option Value}
theorem XM.app (h:XM A0 n0 k0 A1 n1 k1 A2 n2 k2 ms compat s w n f) {base m k:Nat} {ty:TypeId} {B:Option Addr} {xs:List Value} (ho:w.ownsRow base ty 1 (.slice B m k) m xs) (hap:Apart f B) (hg:w.grownBy w' (Value.ownBlock (.slice B m k))) (hb:Below base w w') (hB:s+4 < base):XM A0 n0 k0 A1 n1 k1 A2 n2 k2 ms compat s w' n f:=by
 refine h.belowB hb hB fun c v e=>?_
 obtain ⟨E,d,l,h1,h2,h3,h4⟩:=h.fd c v e
 refine ⟨E,d,l,h1,h2,h3,fun hne=>?_⟩
 obtain ⟨b,o,rfl,hc⟩:=h4 hne
 refine ⟨b,o,rfl,fun j u hu=>?_⟩
 have hlt:=World.block_lt_of_cell? w _ (hc j u hu)
 refine (World.cell?_of_block (hg.block b hlt ?_)).trans (hc j u hu)
 intro e2
 cases B with
 | none=>simp [Value.ownBlock] at e2
 | some a=>
  obtain ⟨g,cap,cur,hv⟩:∃g cap cur,(Value.slice (some a) m k)=.slice (some ⟨g,0,none⟩) m cap∧w.heap[g]?=some (.cells cur ty (0,0)):=by
   rcases ho.2 with ⟨hv,_⟩ | ⟨g,cap,cur,hv,_,hg2,_⟩
   ·cases hv
   ·exact ⟨g,cap,cur,hv,hg2⟩
  have hv1:=hv.1
  injection hv1 with hv1
  injection hv1 with hv1
  subst hv1
  simp only [Value.ownBlock,Option.some.injEq] at e2
  subst h1
  rcases hap c _ _ _ b o g 0 e rfl rfl with h0 | h0
  ·have:l=[]:=List.eq_nil_of_length_eq_zero h0
   subst this
   exact hne rfl
  ·exact h0 e2
theorem XM.apart_new (h:XM A0 n0 k0 A1 n1 k1 A2 n2 k2 ms compat s w n f):Apart f (some ⟨w.heap.size,0,none⟩):=by
 intro x E m d b o b' o' e hE hB
 obtain ⟨E2,d2,l,h1,h2,h3,h4⟩:=h.fd x _ e
 injection h1 with g1 g2 g3
 subst g1;subst g2
 by_cases h0:l=[]
 ·left;rw [h0];rfl
 ·right
  obtain ⟨b2,o2,hA,hc⟩:=h4 (by simpa using h0)
  rw [hE] at hA
  injection hA with hA
  injection hA with i1 i2
  subst i1;subst i2
  injection hB with hB
  injection hB with j1 j2
  obtain ⟨y,r,rfl⟩:∃y r,l=y::r:=by cases l with | nil=>exact absurd rfl h0 | cons y r=>exact ⟨y,r,rfl⟩
  have:=World.block_lt_of_cell? w _ (hc 0 _ rfl)
  simp at this
  omega
theorem Apart.nil (f:Int→Option Value):Apart f none:=by intro _ _ _ _ _ _ _ _ _ _ h;cases h
end
theorem zero_intsM (w:World):(zeroValue 37).run Tryz.prog w=.ok (.slice none 0 0) w:=by kernel_rfl
end Go.Proofs.YtijgbonhjcblcaaGreatDoor
