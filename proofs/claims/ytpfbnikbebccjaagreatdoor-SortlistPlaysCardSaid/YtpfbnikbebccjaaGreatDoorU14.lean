import Derived.Test.YtpfbnikbebccjaaGreatDoorU00
import Derived.Test.YtpfbnikbebccjaaGreatDoorU04
import Derived.Test.YtpfbnikbebccjaaGreatDoorU07
import Derived.Test.YtpfbnikbebccjaaGreatDoorU08
import Derived.Test.YtpfbnikbebccjaaGreatDoorU10
import Derived.Test.YtpfbnikbebccjaaGreatDoorU11
import Derived.Test.YtpfbnikbebccjaaGreatDoorU13
set_option maxRecDepth 100000
set_option maxHeartbeats 51200000
namespace Go.Proofs.YtpfbnikbebccjaaGreatDoor
open Option renaming none->N,some->Z
open Value renaming int->I,slice->H
open IntKind renaming i64->J
open Go.Proofs.Tryz
section
open Go.RowKit
section
variable (on:Int->Option (Li))
inductive bY:Int->Li->Prop
 |leaf {c:Int}:on c=N->bY c [c]
 |node {c:Int} {to:Li} {vs:List (Li)}:on c=Z to->vs.length=to.length->(∀i,(hi:i<to.length)->(hv:i<vs.length)->bY to[i] vs[i])->bY c vs.flatten
end
section
variable {on:Int->Option (Li)}{cap:Int}
theorem bY.func{c:Int}{l:Li}(h:bY on c l):∀{l'},bY on c l'->l=l':=by
 induction h with
 |leaf h=>
  intro l' h';cases h' with
  |leaf _=>rfl
  |node h1 _ _=>rw[h]at h1;cases h1
 |node h1 h2 _ ih=>
  intro l' h';cases h' with
  |leaf h=>rw[h]at h1;cases h1
  | @node _ to' vs' g1 g2 g3=>
   rw[h1]at g1;injection g1 with g1;subst g1;congr 1;refine List.ext_getElem (by omega) fun i hi hi'=>?_
   exact ih i (by omega) hi (g3 i (by omega) hi')
theorem bY.done{c:Int}{l:Li}(h:bY on c l):∀e∈l,on e=N:=by
 induction h with
 |leaf h=>intro e he;simp at he;subst he;exact h
 |node h1 h2 _ ih=>
  intro e he;obtain⟨v,hv,he⟩:=List.mem_flatten.1 he;obtain⟨i,hi,rfl⟩:=List.getElem_of_mem hv;exact ih i (by omega) hi e he
theorem Sz.full{c v:Int}(h:Sz on cap c v)(hcap:1<=cap):∃l,bY on c l/\(v<cap->(l.length:Int)<=v):=by
 induction h with
 | @leaf c h=>
  rcases h with h|h
  ·exact⟨[c],.leaf h,fun _=>by simp⟩
  exact⟨[],by simpa using bY.node (vs:=[]) h rfl (fun i hi=>by simp at hi),fun _=>by simp⟩
 | @node c to vs h1 h2 h3 h4 ih=>
  have hch:∀i:Nat,∃l:Li,∀(hi:i<to.length)(hv:i<vs.length),bY on to[i] l/\(vs[i]<cap->(l.length:Int)<=vs[i]):=fun i=>by
   by_cases hi:i<to.length
   ·obtain⟨l,g1,g2⟩:=ih i hi (by omega)
    exact⟨l,fun _ _=>⟨g1,g2⟩⟩
   exact⟨[],fun h=>absurd h hi⟩
  refine⟨((List.range to.length).map (fun i=>(hch i).choose)).flatten,.node h1 (by simp) (fun i h1 h2=>?_),fun hv=>?_⟩
  ·simp only[List.getElem_map,List.getElem_range]
   exact((hch i).choose_spec h1 (by omega)).1
  have hpos:∀v∈vs,0<=v:=fun v hv=>by
   obtain⟨i,hi,rfl⟩:=List.getElem_of_mem hv;have:=(h4 i (by omega) hi).bd hcap;omega
  rw[rO hpos (by omega)]at hv|-;have hs:vs.sum<cap:=by omega
  have key:∀(ls:List (Li))(vs:Li),ls.length=vs.length->(∀v∈vs,0<=v)->vs.sum<cap->(∀i,(h1:i<ls.length)->(h2:i<vs.length)->vs[i]<cap->(ls[i].length:Int)<=vs[i])->(ls.flatten.length:Int)<=vs.sum:=by
   intro ls;induction ls with
   |nil=>intro vs hl _ _ _;cases vs with|nil=>simp|cons _ _=>simp at hl
   |cons l ls ihl=>
    intro vs hl hp hs hle;cases vs with
    |nil=>simp at hl
    |cons v vs=>
     rw[List.sum_cons]at hs;have hq:0<=vs.sum:=DH (fun v hv=>hp v (by simp[hv]));have h0:=hle 0 (by simp) (by simp) (by simp only[List.getElem_cons_zero];omega);simp only[List.getElem_cons_zero]at h0;have hv0:=hp v (by simp)
     have h1:=ihl vs (by simpa using hl) (fun v hv=>hp v (by simp[hv])) (by omega) (fun i g1 g2 g3=>by
      have:=hle (i+1) (by simp;omega) (by simp;omega)
      simp only[List.getElem_cons_succ]at this
      exact this g3)
     rw[List.flatten_cons,List.length_append,List.sum_cons];omega
  have:=key ((List.range to.length).map (fun i=>(hch i).choose)) vs (by simp[h3]) hpos hs (fun i g1 g2 g3=>by
   simp only[List.getElem_map,List.getElem_range]
   simp at g1
   exact((hch i).choose_spec g1 g2).2 g3)
  omega
end
def gT(fnd:Int->Option Nat)(T:List (Li))(e:Int):Li:=match fnd e with|none=>Hg.decomp e|some m=>T.getD m []
def eG(fnd:Int->Option Nat)(T:List (Li))(text:Li):Li:=text.flatMap (gT fnd T)
def cP(to:Nat->Li)(fnd:Int->Option Nat)(skip:Nat->Bool)(T:List (Li))(i:Nat):List (Li):=if skip i=true then T else T.set i (eG fnd T (to i))
def jH(to:Nat->Li)(fnd:Int->Option Nat)(skip:Nat->Bool)(n:Nat):Nat->List (Li)
 |0=>List.replicate n []
 |r+1=>(List.range n).foldl (cP to fnd skip) (jH to fnd skip n r)
section
variable {n:Nat}{frm:Nat->Int}{to:Nat->Li}{fnd fnd':Int->Option Nat}{on:Int->Option (Li)}{skip:Nat->Bool}
theorem uG(T:List (Li))(i:Nat):(cP to fnd skip T i).length=T.length:=by unfold cP;split<;>simp
theorem zAj(s:List Nat):∀T:List (Li),(s.foldl (cP to fnd skip) T).length=T.length:=by
 induction s with
 |nil=>intro T;rfl
 |cons x s ih=>intro T;exact(ih _).trans (uG T x)
structure qO(n:Nat)(frm:Nat->Int)(to:Nat->Li)(fnd:Int->Option Nat)(on:Int->Option (Li))(skip:Nat->Bool):Prop where
 at_:∀i,i<n->skip i=false->on (frm i)=Z (to i)
 fd:∀e m,fnd e=Z m->m<n/\frm m=e/\skip m=false
 no:∀e,fnd e=N->bY on e (Hg.decomp e)
theorem NI{l:Li}{f:Int->Li}:(l.map f).flatten=l.flatMap f:=by rw[List.flatMap_def]
theorem zAm(M:qO n frm to fnd on skip)(hsub:∀e m,fnd e=Z m->fnd' e=Z m)(s:List Nat)(hs:∀i∈s,i<n):
  ∀i,i<n->skip i=false->(s.foldl (aP to fnd') (List.replicate n false)).getD i false=true->bY on (frm i) ((s.foldl (cP to fnd skip) (List.replicate n [])).getD i []):=by
 have hlenE:∀s:List Nat,(s.foldl (aP to fnd') (List.replicate n false)).length=n:=by
  intro s;have:∀(s:List Nat)(T:List Bool),T.length=n->(s.foldl (aP to fnd') T).length=n:=by
   intro s;induction s with
   |nil=>intro T h;exact h
   |cons x s ih=>intro T h;exact ih _ (by simp[aP,h])
  exact this s _ (by simp)
 have key:∀k(s:List Nat),s.length=k->(∀i∈s,i<n)->∀i,i<n->skip i=false->(s.foldl (aP to fnd') (List.replicate n false)).getD i false=true->bY on (frm i) ((s.foldl (cP to fnd skip) (List.replicate n [])).getD i []):=by
  intro k;induction k with
  |zero=>
   intro s hk _ i hi _ h;have:s=[]:=List.eq_nil_of_length_eq_zero hk;subst this;simp[List.getD,hi]at h
  |succ k ih=>
   intro s hk hs i hi hsk h;obtain⟨s',x,rfl⟩:∃s' x,s=s'++[x]:=⟨s.dropLast,s.getLast (by rintro rfl;simp at hk),(List.dropLast_concat_getLast _).symm⟩;have hs':∀i∈s',i<n:=fun j hj=>hs j (by simp[hj])
   have hx:x<n:=hs x (by simp);have IH:=ih s' (by simpa using hk) hs';rw[List.foldl_append]at h|-;simp only[List.foldl_cons,List.foldl_nil]at h|-;have l1:=hlenE s';have l2:(s'.foldl (cP to fnd skip) (List.replicate n [])).length=n:=by rw[zAj];simp
   generalize s'.foldl (aP to fnd') (List.replicate n false)=T at *;generalize s'.foldl (cP to fnd skip) (List.replicate n [])=L at *;by_cases e:x=i
   ·subst e
    have hT:iL to fnd' T x=true:=by
     simpa[aP,List.getD,l1,hi]using h
    have hL:(cP to fnd skip L x).getD x []=eG fnd L (to x):=by
     unfold cP;rw[if_neg (by rw[hsk];simp)];simp[List.getD,l2,hi]
    rw[hL]
    have hch:∀e∈to x,bY on e (gT fnd L e):=fun e he=>by
     unfold gT;cases hf:fnd e with
     |none=>exact M.no e hf
     |some m=>
      obtain⟨hm,hfm,hkm⟩:=M.fd e m hf;have:=List.all_eq_true.1 hT e he;rw[hsub e m hf]at this;have h1:=IH m hm hkm this;rw[hfm]at h1;exact h1
    unfold eG;rw[<-NI];refine .node (M.at_ x hi hsk) (by simp) (fun j hj hv=>?_);simp only[List.getElem_map];exact hch _ (List.getElem_mem hj)
   have hT:T.getD i false=true:=by
    simpa[aP,List.getD,List.getElem?_set,e]using h
   have h1:=IH i hi hsk hT;have:(cP to fnd skip L x).getD i []=L.getD i []:=by
    unfold cP;split
    ·rfl
    simp[List.getD,e]
   rw[this];exact h1
 exact key s.length s rfl hs
theorem zAl(M:qO n frm to fnd on skip)(s:List Nat)(hs:∀i∈s,i<n):∀(T:List (Li)),T.length=n->(∀i l,i<n->skip i=false->bY on (frm i) l->(T.getD i []).length<=l.length)->
  ∀i l,i<n->skip i=false->bY on (frm i) l->((s.foldl (cP to fnd skip) T).getD i []).length<=l.length:=by
 induction s with
 |nil=>intro T _ h;exact h
 |cons x s ih=>
  intro T hl h;rw[List.foldl_cons];refine ih (fun i hi=>hs i (by simp[hi])) _ (by rw[uG,hl]) (fun i l hi hsk hf=>?_);have hx:=hs x (by simp);by_cases e:x=i
  ·subst e
   have hL:(cP to fnd skip T x).getD x []=eG fnd T (to x):=by
    unfold cP;rw[if_neg (by rw[hsk];simp)];simp[List.getD,hl,hi]
   rw[hL];cases hf with
   |leaf g=>rw[M.at_ x hi hsk]at g;cases g
   | @node _ to' vs g1 g2 g3=>
    rw[M.at_ x hi hsk]at g1;injection g1 with g1;subst g1;have key:∀(to:Li)(vs:List (Li)),vs.length=to.length->(∀i,(hi:i<to.length)->(hv:i<vs.length)->bY on to[i] vs[i])->(eG fnd T to).length<=vs.flatten.length:=by
     intro to;induction to with
     |nil=>intro vs _ _;simp[eG]
     |cons e to iht=>
      intro vs hvl hv;cases vs with
      |nil=>simp at hvl
      |cons v vs=>
       have h1:=iht vs (by simpa using hvl) (fun i g1 g2=>by have:=hv (i+1) (by simp;omega) (by simp;omega);simpa using this);have h0:=hv 0 (by simp) (by simp);simp only[List.getElem_cons_zero]at h0;have h2:(gT fnd T e).length<=v.length:=by
        unfold gT;cases hfe:fnd e with
        |none=>rw[(M.no e hfe).func h0];exact Nat.le_refl _
        |some m=>
         obtain⟨hm,hfm,hkm⟩:=M.fd e m hfe;exact h m v hm hkm (by rw[hfm];exact h0)
       unfold eG at h1|-;rw[List.flatMap_cons,List.length_append,List.flatten_cons,List.length_append];omega
    exact key _ _ g2 g3
  have:(cP to fnd skip T x).getD i []=T.getD i []:=by
   unfold cP;split
   ·rfl
   simp[List.getD,e]
  rw[this];exact h i l hi hsk hf
end
def iW(ms:List Mp)(compat:Bool):List (Li):=jH (toM ms) (aB ms compat) (aV ms compat) ms.length ms.length
def dcM(ms:List Mp)(compat:Bool)(c:Int):Li:=gT (aB ms compat) (iW ms compat) c
section
variable {ms:List Mp}
theorem uQ(hh:dE ms)(compat:Bool){e:Int}(h:aB ms compat e=N):bY (onM ms compat) e (Hg.decomp e):=by
 by_cases h4:4<=Hg.kind e
 ·obtain⟨d1,d2⟩:=lJ h4
  have hon:onM ms compat e=Z (Hg.decomp e):=if_pos h4
  have:=bY.node (on:=onM ms compat) (vs:=(Hg.decomp e).map (fun x=>[x])) hon (by simp) (fun i h1 h2=>by
   simp only[List.getElem_map]
   obtain⟨_,g2,g3⟩:=d2 _ (List.getElem_mem h1)
   refine .leaf (zR hh compat g3 ?_)
   unfold hk at g2
   split at g2
   ·cases g2
   ·omega)
  have e1:((Hg.decomp e).map (fun x=>[x])).flatten=Hg.decomp e:=by rw[<-List.flatMap_def];simp
  rw[e1]at this;exact this
 rw[lK (by omega)];refine .leaf ?_;unfold onM;rw[if_neg h4,h];rfl
theorem pM(hs:StF ms)(hh:dE ms)(compat:Bool):qO ms.length (jT ms) (toM ms) (aB ms compat) (onM ms compat) (aV ms compat):=by
 refine⟨fun i hi hk=>?_,fun e m h=>?_,fun e h=>uQ hh compat h⟩
 ·rw[gK hi,mK hs hh compat hi,kW hi,if_pos]
  unfold aV at hk;cases compat<;>simp_all [List.getD]
 obtain⟨hi,h1,h2⟩:=gR h;refine⟨hi,by rw[gK hi];exact h1,?_⟩;unfold aV;rcases h2 with h2|h2
 ·rw[h2];rfl
 simp[List.getD,hi,h2]
theorem GN(hs:StF ms)(hh:dE ms)(he:dH ms=true)(hl:fF ms=false)(compat:Bool):∀i,i<ms.length->∃l,bY (onM ms compat) (jT ms i) l/\l.length<=64:=by
 intro i hi;have h1:=nD hs hh he compat i hi;have hle:(gL ms compat).getD i 0<=64:=by
  unfold fF at hl;have:=List.any_eq_false.1 hl i (List.mem_range.2 hi);simp at this;cases compat
  ·simpa using this.1
  simpa using this.2
 obtain⟨l,g1,g2⟩:=h1.full (by unfold aH;omega);rw[gK hi];refine⟨l,g1,?_⟩;have:=g2 (by unfold aH;omega);omega
def fN(ms:List Mp)(compat:Bool)(T:List (Li)):Prop:=T.length=ms.length/\∀i l,i<ms.length->aV ms compat i=false->bY (onM ms compat) (jT ms i) l->(T.getD i []).length<=l.length
theorem fN.start(ms:List Mp)(compat:Bool):fN ms compat (List.replicate ms.length []):=⟨by simp,fun i l hi _ _=>by simp[List.getD,hi]⟩
theorem fN.step(hs:StF ms)(hh:dE ms){compat:Bool}{T:List (Li)}(h:fN ms compat T){i:Nat}(hi:i<ms.length):fN ms compat (cP (toM ms) (aB ms compat) (aV ms compat) T i):=
 ⟨by rw[uG];exact h.1,zAl (pM hs hh compat) [i] (fun j hj=>by simp at hj;subst hj;exact hi) T h.1 h.2⟩
theorem fN.fold(hs:StF ms)(hh:dE ms){compat:Bool}(s:List Nat):∀{T:List (Li)},fN ms compat T->(∀i∈s,i<ms.length)->fN ms compat (s.foldl (cP (toM ms) (aB ms compat) (aV ms compat)) T):=by
 induction s with
 |nil=>intro T h _;exact h
 |cons x s ih=>intro T h hx;exact ih (h.step hs hh (hx x (by simp))) (fun i hi=>hx i (by simp[hi]))
theorem fN.rounds(hs:StF ms)(hh:dE ms)(compat:Bool)(r:Nat):fN ms compat (jH (toM ms) (aB ms compat) (aV ms compat) ms.length r):=by
 induction r with
 |zero=>exact fN.start ms compat
 |succ r ih=>exact ih.fold hs hh _ (fun i hi=>List.mem_range.1 hi)
def oE(ms:List Mp)(compat:Bool)(T:List (Li)):Prop:=∀i,aV ms compat i=true->T.getD i []=[]
theorem oE.step{compat:Bool}{T:List (Li)}(h:oE ms compat T)(i:Nat):oE ms compat (cP (toM ms) (aB ms compat) (aV ms compat) T i):=by
 intro j hj;unfold cP;split
 ·exact h j hj
 next hi=>
 have:i≠j:=fun e=>by subst e;exact hi hj
 have:=h j hj;simp_all [List.getD]
theorem fN.le64(hs:StF ms)(hh:dE ms)(he:dH ms=true)(hl:fF ms=false){compat:Bool}{T:List (Li)}(h:fN ms compat T){i:Nat}(hi:i<ms.length)(hk:aV ms compat i=false):(T.getD i []).length<=64:=by
 obtain⟨l,h1,h2⟩:=GN hs hh he hl compat i hi;have:=h.2 i l hi hk h1;omega
theorem zAk(hs:StF ms)(hh:dE ms)(he:dH ms=true)(compat:Bool){i:Nat}(hi:i<ms.length)(hk:aV ms compat i=false):bY (onM ms compat) ms[i].frm ((iW ms compat).getD i []):=by
 have hfl:∀j∈(List.replicate ms.length (List.range ms.length)).flatten,j<ms.length:=fun j hj=>by
  obtain⟨l,h1,h2⟩:=List.mem_flatten.1 hj;rw[List.eq_of_mem_replicate h1]at h2;exact List.mem_range.1 h2
 have h0:=zAm (pM hs hh compat) (xP hs compat) (List.replicate ms.length (List.range ms.length)).flatten hfl i hi hk;have e1:=pH (aP (toM ms) (aB ms true)) ms.length (bR ms.length (toM ms) (aB ms true)) (fun _=>rfl) ms.length;have e2:=pH (cP (toM ms) (aB ms compat) (aV ms compat)) ms.length (jH (toM ms) (aB ms compat) (aV ms compat) ms.length) (fun _=>rfl) ms.length;simp only[bR,jH]at e1 e2;rw[e1,e2]at h0;have hl:=(kT ms.length (toM ms) (aB ms true) ms.length).1;have:(bR ms.length (toM ms) (aB ms true) ms.length).getD i false=true:=by
  unfold dH at he;have hi':i<(bR ms.length (toM ms) (aB ms true) ms.length).length:=by rw[hl];exact hi
  have:=List.all_eq_true.1 he _ (List.getElem_mem hi');simpa[List.getD,hi']using this
 have h1:=h0 this;rw[gK hi]at h1;exact h1
theorem oR(hs:StF ms)(hh:dE ms)(he:dH ms=true)(compat:Bool)(c:Int):bY (onM ms compat) c (dcM ms compat c):=by
 unfold dcM gT;cases hf:aB ms compat c with
 |none=>exact uQ hh compat hf
 |some m=>
  obtain⟨hm,h1,_⟩:=gR hf;have hk:=((pM hs hh compat).fd c m hf).2.2;have:=zAk hs hh he compat hm hk;rw[h1]at this;exact this
theorem wT(hs:StF ms)(hh:dE ms)(he:dH ms=true)(hl:fF ms=false)(compat:Bool)(c:Int):(dcM ms compat c).length<=64:=by
 unfold dcM gT;cases hf:aB ms compat c with
 |none=>
  by_cases h4:4<=Hg.kind c
  ·have:=(lJ h4).1;dsimp only;omega
  dsimp only;rw[lK (by omega)];simp
 |some m=>
  obtain⟨hm,h1,_⟩:=gR hf;have hk:=((pM hs hh compat).fd c m hf).2.2;exact(fN.rounds hs hh compat ms.length).le64 hs hh he hl hm hk
theorem LD(hs:StF ms)(hh:dE ms)(he:dH ms=true)(compat:Bool){c e:Int}(h:e∈dcM ms compat c):dcM ms compat e=[e]:=
 (oR hs hh he compat e).func (.leaf ((oR hs hh he compat c).done e h))
end
end
section
open Go.RowKit Go.Maps Go.WideMaps
def fC(ms:List Mp)(compat:Bool)(c:Int):Int:=match aB ms compat c with|some i=>(i:Int)|none=>-1
def gC(compat:Bool)(c:Int)(m:Mp):Bool:=decide (m.frm=c)&&(compat||decide (m.tag.size=0))
theorem NL{ms:List Mp}{compat:Bool}{c:Int}{i:Nat}(hi:i<ms.length)(h:gC compat c ms[i]=true)(hno:∀t,(ht:t<ms.length)->t<i->gC compat c ms[t]=false):fC ms compat c=i:=by
 have:aB ms compat c=Z i:=by
  unfold aB;rw[List.findIdx?_eq_some_iff_getElem];exact⟨hi,h,fun j hj=>by have:=hno j (by omega) hj;unfold gC at this;rw[Bool.not_eq_true];exact this⟩
 unfold fC;rw[this]
theorem NN{ms:List Mp}{compat:Bool}{c:Int}(hno:∀t,(ht:t<ms.length)->gC compat c ms[t]=false):fC ms compat c=-1:=by
 have:aB ms compat c=N:=by
  unfold aB;rw[List.findIdx?_eq_none_iff];intro m hm;obtain⟨i,hi,rfl⟩:=List.getElem_of_mem hm;exact hno i hi
 unfold fC;rw[this]
theorem oW(A:Oa)(n k:Nat)(ms:List Mp)(c:Int)(compat:Bool)(w:Wv)(hA:Mps w A ms)(hn:ms.length=n)(hbig:n<=1048576):
  Calls prog 76 #[H A n k,I J c,.bool compat] w fun e w'=>e=.returned (I J (fC ms compat c))/\w=w':=by
 subst hn;have H1:=G (fun i(hi:i<ms.length)h hno=>NL (ms:=ms) (compat:=compat) (c:=c) hi h hno);have H0:=G (NN (ms:=ms) (compat:=compat) (c:=c));generalize fC ms compat c=R at *;have HA:=G hA;clear hA;go_enter func76,ntmps76;go_wp2_with fail;go_loop [7] (fun u=>∃i:Nat,i<=ms.length/\u=I J i/\(∀t,(ht:t<ms.length)->t<i->gC compat c ms[t]=false)) (fun u=>ms.length-(intOf u).toNat)
 case atStart=>exact⟨0,Nat.zero_le _,rfl,fun t _ h=>absurd h (Nat.not_lt_zero _)⟩
 obtain⟨i,hi,rfl,hno⟩:=hrel;have HNO:=G hno;clear hno;by_cases hlt:i<ms.length
 ·obtain⟨b1,o1,rfl,hbl,hcell⟩:=HA.out.at hlt
  obtain⟨C,cc,c0,c1,c2,_,_⟩:=hcell i hlt;have HB:=G (fun h=>H1.out i hlt h HNO.out);have HN:=G (fun h=>cW (P:=fun m=>gC compat c m=false) hlt HNO.out h);clear hcell HA;generalize ms[i]=mi at *;have K0:=G (fun(h:¬mi.frm=c)=>show gC compat c mi=false from by simp[gC,h]);have K1:=G (fun(h:mi.frm=c) (h2:compat=true)=>show gC compat c mi=true from by simp[gC,h,h2]);have K2:=G (fun(h:mi.frm=c) (h2:mi.tag.size=0)=>show gC compat c mi=true from by simp[gC,h,h2]);have K3:=G (fun(h:compat=false) (h2:¬mi.tag.size=0)=>show gC compat c mi=false from by simp[gC,h,h2]);generalize gC compat c mi=hb at *;obtain⟨mf,mt,mg⟩:=mi;dsimp only at *;by_cases hf:mf=c
  ·cases compat with
   |true=>
    have HR:=G (HB.out (K1.out hf rfl));subst hf;go_wp2_with fail;go_ret;exact⟨aE HR.out.symm,rfl⟩
   |false=>
    by_cases hg:mg.size=0
    ·have g0:mg.toList=[]:=gX hg
     have HR:=G (HB.out (K2.out hf hg));subst hf;go_wp2_with fail;go_ret;exact⟨aE HR.out.symm,rfl⟩
    have g0:¬mg.toList=[]:=gW hg;have g1:mg.toList.isEmpty=false:=by simpa using g0
    have HQ:=G (HN.out (K3.out rfl hg));subst hf;go_wp2_with fail;go_round
    case rel=>exact⟨i+1,by omega,by go_num,HQ.out⟩
    simp[intOf];omega
  have HQ:=G (HN.out (K0.out hf));go_wp2_with fail;go_round
  case rel=>exact⟨i+1,by omega,by go_num,HQ.out⟩
  simp[intOf];omega
 have HR:=G (H0.out (fun t ht=>HNO.out t ht (by omega)));go_wp2_with fail;go_ret;exact⟨aE HR.out.symm,rfl⟩
theorem OX:(prog.info? 4).map (fun i=>(i.zero,i.size,i.bytes))=Z (Z (.bool false),1,1):=by kernel_rfl
def eF(n:Nat)(v:Value):Lv:=List.replicate n v
theorem tG(v:Value)(hv:v.cells=#[v])(n:Nat):madeCells v.cells n=(eF n v).toArray:=by
 rw[hv];unfold eF;apply Array.ext
 ·simp[madeCells]
 intro i h1 h2;simp[madeCells,Nat.mod_one]
theorem SJ(n:Nat)(hn:n<=1048576)(W:Wv):(Instr.makeSlice 135 (I J n) (I J n)).run prog W=.ok (H (Z ⟨W.heap.size,0,N⟩) n n) (W.alloc (.cells (eF n (Value.bool false)).toArray 4)):=by
 obtain⟨i,hi,hz,hsize,hbytes⟩:=info_parts OX;have:=run_make (P:=prog) W 135 4 i (.bool false) underlying135 hi hz .i64 .i64 n n (by omega) (by omega) (by rw[hbytes];omega) (by omega);rw[this,hsize];simp only[Int.toNat_natCast,Nat.mul_one,tG (.bool false) rfl]
theorem SK(n:Nat)(hn:n<=1048576)(W:Wv):(Instr.makeSlice 49 (I J n) (I J n)).run prog W=.ok (H (Z ⟨W.heap.size,0,N⟩) n n) (W.alloc (.cells (eF n (Value.int .i64 0)).toArray 3)):=by
 obtain⟨i,hi,hz,hsize,hbytes⟩:=info_parts aM;have:=run_make (P:=prog) W 49 3 i (I J 0) underlying49 hi hz .i64 .i64 n n (by omega) (by omega) (by rw[hbytes];omega) (by omega);rw[this,hsize];simp only[Int.toNat_natCast,Nat.mul_one,tG (I J 0) rfl]
def FF(T:List Bool)(w:Wv)(e:Ending)(w':Wv):Prop:=∃A c,e=.returned (H A T.length c)/\T.length<=c/\Sl w' A (T.map Value.bool)/\By w w'
theorem Box.sl{w:Wv}{b:Nat}{t:TypeId}{cs:Lv}(h:Box w b t cs):Sl w (Z ⟨b,0,N⟩) cs:=fun _=>⟨b,0,rfl,fun j u hu=>by rw[Nat.zero_add];exact h.cell hu⟩
theorem LV(to:Nat->Li)(fnd:Int->Option Nat)(s:List Nat):∀T:List Bool,(s.foldl (aP to fnd) T).length=T.length:=by
 induction s with
 |nil=>intro T;rfl
 |cons x s ih=>intro T;exact(ih _).trans (by simp[aP])
theorem LR{to:Li}{fnd:Int->Option Nat}{T:List Bool}{k:Nat}(hk:k<to.length):(to.take (k+1)).all (fun e=>match fnd e with|none=>true|some m=>T.getD m false)=((to.take k).all (fun e=>match fnd e with|none=>true|some m=>T.getD m false)&&(match fnd to[k]with|none=>true|some m=>T.getD m false)):=by
 rw[List.take_succ_eq_append_getElem hk,List.all_append];simp
theorem pB(ms:List Mp)(compat:Bool)(c:Int):(aB ms compat c=N/\fC ms compat c=-1)\/∃m:Nat,m<ms.length/\aB ms compat c=Z m/\fC ms compat c=(m:Int):=by
 unfold fC;cases h:aB ms compat c with
 |none=>exact .inl ⟨rfl,rfl⟩
 |some i=>obtain⟨hi,_⟩:=gR h;exact .inr ⟨i,hi,rfl,rfl⟩
def jB(fnd:Int->Option Nat)(T:List Bool)(l:Li):Bool:=l.all (fun e=>match fnd e with|none=>true|some m=>T.getD m false)
theorem LW(A:Oa)(n k:Nat)(ms:List Mp)(w:Wv)(hA:Mps w A ms)(hn:ms.length=n)(hbig:n<=1048576)(hz:∀i,(hi:i<ms.length)->ms[i].to.length<=1048576):
  Calls prog 79 #[H A n k] w (FF (bR ms.length (toM ms) (aB ms true) ms.length) w):=by
 subst hn;have FD:=G (fun c W(hW:Mps W A ms)=>oW A ms.length k ms c true W hW rfl hbig);have HA:=G hA;have HZ:=G hz;have HF:=G (fun c=>pB ms true c);have hmk:=SJ ms.length hbig;clear hA hz;have HL:=G (fun r=>(kT ms.length (toM ms) (aB ms true) r).1);have HS:=G (fun r=>show bR ms.length (toM ms) (aB ms true) (r+1)=(List.range ms.length).foldl (aP (toM ms) (aB ms true)) (bR ms.length (toM ms) (aB ms true) r)from rfl);have H0:=U ((bR ms.length (toM ms) (aB ms true) 0).map Value.bool=eF ms.length (Value.bool false)) (by simp[bR,eF]);generalize bR ms.length (toM ms) (aB ms true)=RN at *;go_enter func79,ntmps79;go_wp2_with fail;have B0:By w (w.alloc (.cells (eF ms.length (Value.bool false)).toArray 4)):=ba _ _;have X0:Box (w.alloc (.cells (eF ms.length (Value.bool false)).toArray 4)) w.heap.size 4 (eF ms.length (Value.bool false)):=Box.new _ _ _ rfl;obtain⟨W0,hW0⟩:∃W0,(w.alloc (.cells (eF ms.length (Value.bool false)).toArray 4))=W0:=⟨_,rfl⟩;rw[hW0]at B0 X0|-;clear hW0;rw[<-H0.out]at X0;have X0':=G X0;clear X0 H0;go_loopw [4] (fun u wr=>∃r:Nat,r<=ms.length/\u=I J r/\Box wr w.heap.size 4 ((RN r).map Value.bool)/\By w wr) (fun u _=>ms.length-(intOf u).toNat)
 case atStart=>exact⟨0,Nat.zero_le _,rfl,X0'.out,B0⟩
 obtain⟨r,hr,rfl,hX,hb⟩:=hrel;have HX:=G hX;clear hX X0' B0;by_cases hlt:r<ms.length
 ·go_wp2_with fail
  have hT0:=HL.out r;have HNX:=G (HS.out r);generalize hR1:RN (r+1)=R1 at *;generalize hR0:RN r=T0 at *;have HR1:=G hR1;have HR0:=G hR0;clear hR1 hR0;go_loopw [5] (fun u wr=>∃i:Nat,i<=ms.length/\u=I J i/\Box wr w.heap.size 4 (((List.range i).foldl (aP (toM ms) (aB ms true)) T0).map Value.bool)/\By w wr) (fun u _=>ms.length-(intOf u).toNat)
  case atStart=>exact⟨0,Nat.zero_le _,rfl,HX.out,hb⟩
  clear HX hb;obtain⟨i,hi,rfl,hX,hb⟩:=hrel;have HX:=G hX;clear hX;by_cases hlti:i<ms.length
  ·obtain⟨b1,o1,rfl,hbl,hcell⟩:=(HA.out.below hb).at hlti
   obtain⟨C,cc,c0,c1,c2,hcc,hC⟩:=hcell i hlti;have hzi:=HZ.out i hlti;have hto:=kW hlti;have hTl:((List.range i).foldl (aP (toM ms) (aB ms true)) T0).length=ms.length:=by rw[LV];exact hT0
   have HST:=U ((List.range (i+1)).foldl (aP (toM ms) (aB ms true)) T0=((List.range i).foldl (aP (toM ms) (aB ms true)) T0).set i (jB (aB ms true) ((List.range i).foldl (aP (toM ms) (aB ms true)) T0) ms[i].to)) (by
    rw[List.range_succ,List.foldl_append]
    simp only[List.foldl_cons,List.foldl_nil]
    unfold aP iL jB
    rw[hto]
    rfl)
   clear hto hcell;generalize (List.range i).foldl (aP (toM ms) (aB ms true)) T0=T at *;generalize hT1:(List.range (i+1)).foldl (aP (toM ms) (aB ms true)) T0=T1 at *;have HT1:=G hT1;clear hT1;generalize ms[i].frm=mf at *;generalize ms[i].to=mt at *;generalize ms[i].tag=mg at *;have HC:=G hC;have HM:=G (HA.out.below hb);clear hC HA;go_wp2_with fail;go_loop [6,7] (fun v u=>∃k':Nat,k'<=mt.length/\v=.bool (jB (aB ms true) T (mt.take k'))/\u=I J k') (fun _ u=>mt.length-(intOf u).toNat)
   case atStart=>exact⟨0,Nat.zero_le _,rfl,rfl⟩
   obtain⟨k',hk',rfl,rfl⟩:=hrel;by_cases hltk:k' < mt.length
   ·obtain⟨b2,o2,rfl,hc2⟩:=HC.out.at hltk
    have d0:=hc2 k' hltk;have hAL:jB (aB ms true) T (mt.take (k'+1))=(jB (aB ms true) T (mt.take k')&&(match aB ms true mt[k']with|none=>true|some m=>T.getD m false)):=LR hltk;clear hc2;generalize mt[k']=z at *;generalize jB (aB ms true) T (mt.take k')=a at *;have FZ:=G (FD.out z wr HM.out);rcases HF.out z with⟨h1,h2⟩|⟨m,hm,h1,h2⟩
    ·rw[h1,Bool.and_true]at hAL
     rw[h2]at FZ;have HAL:=G hAL;clear hAL h1 h2;cases a with
     |true=>
      go_wp2_with fail;with_reducible refine FZ.out.mono ?_
      rintro e W' ⟨rfl,rfl⟩;go_wp2_with fail;go_round
      case rel=>exact⟨k'+1,by omega,by rw[HAL.out],by go_num⟩
      simp[intOf];omega
     |false=>
      go_wp2_with fail;with_reducible refine FZ.out.mono ?_
      rintro e W' ⟨rfl,rfl⟩;go_wp2_with fail;go_round
      case rel=>exact⟨k'+1,by omega,by rw[HAL.out],by go_num⟩
      simp[intOf];omega
    have hg:T.getD m false=T[m]'(by omega):=by simp[List.getD,hTl,hm]
    have e0:wr.cell? ⟨w.heap.size,m,N⟩=Z (.bool (T[m]'(by omega))):=HX.out.cell (by simp[hTl,hm]);rw[h1]at hAL;simp only[hg]at hAL;rw[h2]at FZ;generalize T[m]'(by omega)=tm at *;have HAL:=G hAL;clear hAL h1 h2 hg;cases a with
    |true=>
     cases tm with
     |true=>
      go_wp2_with fail;with_reducible refine FZ.out.mono ?_
      rintro e W' ⟨rfl,rfl⟩;go_wp2_with fail;go_round
      case rel=>exact⟨k'+1,by omega,by rw[HAL.out];rfl,by go_num⟩
      simp[intOf];omega
     |false=>
      go_wp2_with fail;with_reducible refine FZ.out.mono ?_
      rintro e W' ⟨rfl,rfl⟩;go_wp2_with fail;go_round
      case rel=>exact⟨k'+1,by omega,by rw[HAL.out];rfl,by go_num⟩
      simp[intOf];omega
    |false=>
     go_wp2_with fail;with_reducible refine FZ.out.mono ?_
     rintro e W' ⟨rfl,rfl⟩;go_wp2_with fail;go_round
     case rel=>exact⟨k'+1,by omega,by rw[HAL.out];rfl,by go_num⟩
     simp[intOf];omega
   obtain rfl:k'=mt.length:=by omega
   have e1:wr.frozen? ⟨w.heap.size,i,N⟩=false:=HX.out.free i;have e0:wr.cell? ⟨w.heap.size,i,N⟩=Z (.bool (T[i]'(by omega))):=HX.out.cell (by simp[hTl,hlti])
   have HK:=U (Box (wr.setCell ⟨w.heap.size,i,N⟩ (.bool (jB (aB ms true) T mt))) w.heap.size 4 (T1.map Value.bool)) (by
    have:=HX.out.set i (.bool (jB (aB ms true) T mt))
    rw[HST.out,List.map_set]
    exact this)
   have hb9:By w (wr.setCell ⟨w.heap.size,i,N⟩ (.bool (jB (aB ms true) T mt))):=hb.setCell (Nat.le_refl _) _;rw[List.take_length];generalize jB (aB ms true) T mt=x at *;go_wp2_with fail;go_roundw
   case rel=>exact⟨i+1,by omega,by go_num,by rw[HT1.out];exact HK.out,hb9⟩
   simp[intOf];omega
  obtain rfl:i=ms.length:=by omega
  go_wp2_with fail;go_roundw
  case rel=>exact⟨r+1,by omega,by go_num,by rw[HR1.out,HNX.out];exact HX.out,hb⟩
  simp[intOf];omega
 obtain rfl:r=ms.length:=by omega
 have hl:=HL.out ms.length;have HXB:=G (HX.out.sl);generalize RN ms.length=RR at *;go_wp2_with fail;go_ret;exact⟨Z ⟨w.heap.size,0,N⟩,ms.length,by rw[hl];rfl,by omega,HXB.out,hb⟩
def hH(L:Li):Prop:=∀x∈L,0<=x/\x<=65
theorem hH.getD{L:Li}(h:hH L)(i:Nat):0<=L.getD i 0/\L.getD i 0<=65:=by
 by_cases hi:i<L.length
 ·have:=h _ (List.getElem_mem hi)
  simpa[List.getD,hi]using this
 simp[List.getD,Nat.le_of_not_lt hi]
theorem wU(e:Int):0<=dlM e/\dlM e<=3:=by
 unfold dlM;by_cases h4:4<=Hg.kind e
 ·have:=(lJ h4).1;omega
 rw[lK (by omega)];simp
theorem yR{L:Li}(h:hH L)(fnd:Int->Option Nat)(e:Int):0<=iQ fnd dlM L e/\iQ fnd dlM L e<=65:=by
 unfold iQ;cases fnd e with
 |none=>have:=wU e;dsimp only;omega
 |some m=>exact h.getD m
theorem QT{L:Li}{to:Nat->Li}{fnd:Int->Option Nat}(i:Nat):0<=kP to fnd dlM aH L i/\kP to fnd dlM aH L i<=65:=by unfold kP aH;omega
theorem hH.step{L:Li}(h:hH L)(to:Nat->Li)(fnd:Int->Option Nat)(skip:Nat->Bool)(i:Nat):hH (dV to fnd dlM aH skip L i):=by
 intro x hx;unfold dV at hx;rcases List.mem_or_eq_of_mem_set hx with hx|hx
 ·exact h x hx
 subst hx;split
 ·omega
 exact QT i
theorem hH.fold(to:Nat->Li)(fnd:Int->Option Nat)(skip:Nat->Bool)(s:List Nat):∀{L:Li},hH L->hH (s.foldl (dV to fnd dlM aH skip) L):=by
 induction s with
 |nil=>intro L h;exact h
 |cons x s ih=>intro L h;exact ih (h.step to fnd skip x)
theorem yS(to:Nat->Li)(fnd:Int->Option Nat)(skip:Nat->Bool)(s:List Nat):∀L:Li,(s.foldl (dV to fnd dlM aH skip) L).length=L.length:=by
 induction s with
 |nil=>intro T;rfl
 |cons x s ih=>intro T;exact(ih _).trans (by simp[dV])
theorem yX(ms:List Mp)(compat:Bool)(r:Nat):(gM ms compat r).length=ms.length/\hH (gM ms compat r):=by
 induction r with
 |zero=>exact⟨by simp[gM],fun x hx=>by rw[List.eq_of_mem_replicate hx];omega⟩
 |succ r ih=>exact⟨by rw[gM,yS,ih.1],ih.2.fold _ _ _ _⟩
def iV(fnd:Int->Option Nat)(L:Li)(l:Li):Int:=(l.map (iQ fnd dlM L)).sum
theorem zAe{to:Li}{fnd:Int->Option Nat}{L:Li}{k:Nat}(hk:k<to.length):iV fnd L (to.take (k+1))=iV fnd L (to.take k)+iQ fnd dlM L to[k]:=by
 unfold iV;rw[List.take_succ_eq_append_getElem hk,List.map_append,List.sum_append];simp
theorem zAd{L:Li}(h:hH L)(fnd:Int->Option Nat)(l:Li):0<=iV fnd L l/\iV fnd L l<=65*l.length:=by
 unfold iV;induction l with
 |nil=>simp
 |cons x l ih=>
  have:=yR h fnd x;rw[List.map_cons,List.sum_cons,List.length_cons];omega
theorem QU(A:Oa)(n k:Nat)(ms:List Mp)(compat:Bool)(w:Wv)(hA:Mps w A ms)(hn:ms.length=n)(hbig:n<=1048576)(hz:∀i,(hi:i<ms.length)->ms[i].to.length<=1048576):
  Calls prog 80 #[H A n k,.bool compat] w (jN (gL ms compat) w):=by
 subst hn;have FD:=G (fun c W(hW:Mps W A ms)=>oW A ms.length k ms c compat W hW rfl hbig);have DC:=G (fun c W=>AO c W);have HA:=G hA;have HZ:=G hz;have HF:=G (fun c=>pB ms compat c);have hmk:=SK ms.length hbig;clear hA hz;have HL:=G (fun r=>yX ms compat r);have HS:=G (fun r=>show gM ms compat (r+1)=(List.range ms.length).foldl (dV (toM ms) (aB ms compat) dlM aH (aV ms compat)) (gM ms compat r)from rfl);have H0:=U ((gM ms compat 0).map (Value.int .i64)=eF ms.length (Value.int .i64 0)) (by simp[gM,eF]);have HE:=U (gL ms compat=gM ms compat ms.length) rfl;generalize gM ms compat=RN at *;generalize gL ms compat=RE at *;go_enter func80,ntmps80;go_wp2_with fail;have B0:By w (w.alloc (.cells (eF ms.length (Value.int .i64 0)).toArray 3)):=ba _ _;have X0:Box (w.alloc (.cells (eF ms.length (Value.int .i64 0)).toArray 3)) w.heap.size 3 (eF ms.length (Value.int .i64 0)):=Box.new _ _ _ rfl;obtain⟨W0,hW0⟩:∃W0,(w.alloc (.cells (eF ms.length (Value.int .i64 0)).toArray 3))=W0:=⟨_,rfl⟩;rw[hW0]at B0 X0|-;clear hW0;rw[<-H0.out]at X0;have X0':=G X0;clear X0 H0;go_loopw [6] (fun u wr=>∃r:Nat,r<=ms.length/\u=I J r/\Box wr w.heap.size 3 ((RN r).map (Value.int .i64))/\By w wr) (fun u _=>ms.length-(intOf u).toNat)
 case atStart=>exact⟨0,Nat.zero_le _,rfl,X0'.out,B0⟩
 obtain⟨r,hr,rfl,hX,hb⟩:=hrel;have HX:=G hX;clear hX X0' B0;by_cases hlt:r<ms.length
 ·go_wp2_with fail
  have hT0:=(HL.out r).1;have HB0:=G (HL.out r).2;have HNX:=G (HS.out r);generalize hR1:RN (r+1)=R1 at *;generalize hR0:RN r=T0 at *;have HR1:=G hR1;have HR0:=G hR0;clear hR1 hR0;go_loopw [7] (fun u wr=>∃i:Nat,i<=ms.length/\u=I J i/\Box wr w.heap.size 3 (((List.range i).foldl (dV (toM ms) (aB ms compat) dlM aH (aV ms compat)) T0).map (Value.int .i64))/\By w wr) (fun u _=>ms.length-(intOf u).toNat)
  case atStart=>exact⟨0,Nat.zero_le _,rfl,HX.out,hb⟩
  clear HX hb;obtain⟨i,hi,rfl,hX,hb⟩:=hrel;have HX:=G hX;clear hX;by_cases hlti:i<ms.length
  ·obtain⟨b1,o1,rfl,hbl,hcell⟩:=(HA.out.below hb).at hlti
   have hzi:=HZ.out i hlti;have hto:=kW hlti;have hsk:aV ms compat i=(!compat&&decide (¬ms[i].tag.size=0)):=by simp[aV,List.getD,hlti]
   have hTl:((List.range i).foldl (dV (toM ms) (aB ms compat) dlM aH (aV ms compat)) T0).length=ms.length:=by rw[yS];exact hT0
   have HTB:=G (hH.fold (toM ms) (aB ms compat) (aV ms compat) (List.range i) HB0.out)
   have HST:=U ((List.range (i+1)).foldl (dV (toM ms) (aB ms compat) dlM aH (aV ms compat)) T0=((List.range i).foldl (dV (toM ms) (aB ms compat) dlM aH (aV ms compat)) T0).set i (if(!compat&&decide (¬ms[i].tag.size=0))=true then 1 else min (max (iV (aB ms compat) ((List.range i).foldl (dV (toM ms) (aB ms compat) dlM aH (aV ms compat)) T0) ms[i].to) 1) 65)) (by
    rw[List.range_succ,List.foldl_append]
    simp only[List.foldl_cons,List.foldl_nil]
    conv=>lhs;unfold dV kP
    rw[hto,hsk]
    rfl)
   clear hto hsk;have HCE:=G hcell;clear hcell;generalize (List.range i).foldl (dV (toM ms) (aB ms compat) dlM aH (aV ms compat)) T0=T at *;generalize hT1:(List.range (i+1)).foldl (dV (toM ms) (aB ms compat) dlM aH (aV ms compat)) T0=T1 at *;have HT1:=G hT1;clear hT1;have HSB:=G (fun l=>zAd HTB.out (aB ms compat) l);go_wp2_with fail;go_loopw [8,9] (fun v u wr=>∃k':Nat,k'<=ms[i].to.length/\v=I J (iV (aB ms compat) T (ms[i].to.take k'))/\u=I J k'/\Box wr w.heap.size 3 (T.map (Value.int .i64))/\By w wr) (fun _ u _=>ms[i].to.length-(intOf u).toNat)
   case atStart=>exact⟨0,Nat.zero_le _,rfl,rfl,HX.out,hb⟩
   clear HX hb HCE hbl;obtain⟨k',hk',rfl,rfl,hX,hb⟩:=hrel;have HX:=G hX;clear hX;have hM:=HA.out.below hb;obtain⟨b1',o1',e1,hbl,hcell⟩:=hM.at hlti;injection e1 with e1;injection e1 with e1 e2;subst e1;subst e2;obtain⟨C,cc,c0,c1,c2,hcc,hC⟩:=hcell i hlti;have HC:=G hC;have HM:=G hM;clear hC hM hcell;generalize ms[i].frm=mf at *;generalize ms[i].to=mt at *;generalize ms[i].tag=mg at *;by_cases hltk:k' < mt.length
   ·obtain⟨b2,o2,rfl,hc2⟩:=HC.out.at hltk
    have d0:=hc2 k' hltk;have hAL:=zAe (fnd:=aB ms compat) (L:=T) hltk;have s1:=HSB.out (mt.take k');rw[List.length_take]at s1;clear hc2;generalize mt[k']=z at *;have s2:=yR HTB.out (aB ms compat) z;have FZ:=G (FD.out z wr HM.out);unfold iQ at hAL s2;generalize hs:iV (aB ms compat) T (mt.take k')=s at *;have HSU:=G hs;clear hs;rcases HF.out z with⟨h1,h2⟩|⟨m,hm,h1,h2⟩
    ·rw[h1]at hAL s2
     rw[h2]at FZ;dsimp only at hAL s2;have HAL:=G hAL;have DZ:=G (DC.out z wr);have HDL:=U (((Hg.decomp z).length:Int)=dlM z) rfl;clear hAL h1 h2;generalize dlM z=dz at *;generalize Hg.decomp z=dzl at *;go_wp2_with fail;with_reducible refine FZ.out.mono ?_
     rintro e W' ⟨rfl,rfl⟩;go_wp2_with fail;with_reducible refine DZ.out.mono ?_
     rintro e W' ⟨A3,c3,rfl,hc3,_,hb3⟩;have hl:=HDL.out;clear c0 c1 c2 d0;go_wp2_with fail;go_roundw
     case rel=>exact⟨k'+1,by omega,by rw[HAL.out],by go_num,HX.out.below hb3 (by have:=HX.out.lt;omega),hb.trans (hb3.mono hb.size)⟩
     simp[intOf];omega
    have hg:T.getD m 0=T[m]'(by omega):=by simp[List.getD,hTl,hm]
    have e0:wr.cell? ⟨w.heap.size,m,N⟩=Z (I J (T[m]'(by omega))):=HX.out.cell (by simp[hTl,hm]);rw[h1]at hAL s2;simp only[hg]at hAL s2;rw[h2]at FZ;generalize T[m]'(by omega)=tm at *;have HAL:=G hAL;clear hAL h1 h2 hg;go_wp2_with fail;with_reducible refine FZ.out.mono ?_
    rintro e W' ⟨rfl,rfl⟩;go_wp2_with fail;go_roundw
    case rel=>exact⟨k'+1,by omega,by rw[HAL.out],by go_num,HX.out,hb⟩
    simp[intOf];omega
   obtain rfl:k'=mt.length:=by omega
   have e1:wr.frozen? ⟨w.heap.size,i,N⟩=false:=HX.out.free i;have e0:wr.cell? ⟨w.heap.size,i,N⟩=Z (I J (T[i]'(by omega))):=HX.out.cell (by simp[hTl,hlti]);rw[List.take_length]
   have HK:=G (fun(v:Int) (hv:v=min (max (iV (aB ms compat) T mt) 1) 65) (hc:compat=true\/mg.size=0)=>show Box (wr.setCell ⟨w.heap.size,i,N⟩ (I J v)) w.heap.size 3 (T1.map (Value.int .i64))from by
    have:=HX.out.set i (I J v)
    rw[HST.out,if_neg (by rcases hc with hc|hc<;>simp[hc]),<-hv,List.map_set]
    exact this)
   have HK2:=G (fun(v:Int) (hc:compat=false) (hg:¬mg.size=0)=>show Box ((wr.setCell ⟨w.heap.size,i,N⟩ (I J v)).setCell ⟨w.heap.size,i,N⟩ (I J 1)) w.heap.size 3 (T1.map (Value.int .i64))from by
    have:=(HX.out.set i (I J v)).set i (I J 1)
    rw[List.set_set]at this
    rw[HST.out,if_pos (by simp[hc];intro h;exact hg (by rw[h];rfl)),List.map_set]
    exact this)
   generalize iV (aB ms compat) T mt=x at *;have MM:=U ((if 65<if x<1 then 1 else x then(65:Int)else if x<1 then 1 else x)=min (max x 1) 65) (by omega);by_cases hg:mg.size=0
   ·have g0:mg.toList=[]:=gX hg
    go_wp2_with fail;go_roundw
    case rel=>exact⟨i+1,by omega,by go_num,by rw[HT1.out];exact HK.out _ MM.out (.inr hg),hb.setCell (Nat.le_refl _) _⟩
    simp[intOf];omega
   have g0:¬mg.toList=[]:=gW hg;have g1:mg.toList.isEmpty=false:=by simpa using g0
   cases compat with
   |true=>
    go_wp2_with fail;go_roundw
    case rel=>exact⟨i+1,by omega,by go_num,by rw[HT1.out];exact HK.out _ MM.out (.inl rfl),hb.setCell (Nat.le_refl _) _⟩
    simp[intOf];omega
   |false=>
    go_wp2_with fail;go_roundw
    case rel=>exact⟨i+1,by omega,by go_num,by rw[HT1.out];exact HK2.out _ rfl hg,(hb.setCell (Nat.le_refl _) _).setCell (Nat.le_refl _) _⟩
    simp[intOf];omega
  obtain rfl:i=ms.length:=by omega
  go_wp2_with fail;go_roundw
  case rel=>exact⟨r+1,by omega,by go_num,by rw[HR1.out,HNX.out];exact HX.out,hb⟩
  simp[intOf];omega
 obtain rfl:r=ms.length:=by omega
 have hl:=(HL.out ms.length).1;have HXB:=G (HX.out.sl);have hE:=HE.out;generalize RN ms.length=RR at *;subst hE;go_wp2_with fail;go_ret;exact⟨Z ⟨w.heap.size,0,N⟩,ms.length,by rw[hl];rfl,by omega,HXB.out,hb⟩
def fI(w:Wv)(B:Oa)(T:List (Li)):Prop:=∃vs:Lv,Sl w B vs/\vs.length=T.length/\∀i,(hi:i<T.length)->(hv:i<vs.length)->∃C c,vs[i]=H C T[i].length c/\T[i].length<=c/\aA w C T[i]
theorem fI.below{w w':Wv}{B:Oa}{T:List (Li)}(h:fI w B T)(hb:By w w'):fI w' B T:=by
 obtain⟨vs,h1,h2,h3⟩:=h;exact⟨vs,h1.below hb,h2,fun i hi hv=>by obtain⟨C,c,e1,e2,e3⟩:=h3 i hi hv;exact⟨C,c,e1,e2,e3.below hb⟩⟩
theorem fI.at{w:Wv}{B:Oa}{T:List (Li)}(h:fI w B T){m:Nat}(hm:m<T.length):∃b o C c,B=Z ⟨b,o,N⟩/\w.cell? ⟨b,o+m,N⟩=Z (H C T[m].length c)/\T[m].length<=c/\aA w C T[m]:=by
 obtain⟨vs,h1,h2,h3⟩:=h;have hv:m<vs.length:=by omega
 obtain⟨C,c,e1,e2,e3⟩:=h3 m hm hv;obtain⟨b,o,hB,hc⟩:=h1.at hv;exact⟨b,o,C,c,hB,hc m _ (by rw[List.getElem?_eq_getElem hv,e1]),e2,e3⟩
theorem yG{W:Wv}{b i:Nat}{t:TypeId}{cs:Lv}{v:Value}{E:Oa}{R:Li}(h:aA W E R)(hX:Box W b t cs)(hv:∀(j:Nat) (z:Int),¬cs[j]?=Z (Value.int .i64 z)):aA (W.setCell ⟨b,i,N⟩ v) E R:=by
 intro hne;obtain⟨b',o,hA,hc⟩:=h hne;refine⟨b',o,hA,fun j u hu=>?_⟩;have h1:=hc j u hu;refine(World.cell?_setCell_far _ _ _ _ (fun e=>?_)).trans h1;have e':b=b':=e;subst e'
 obtain⟨z,rfl⟩:∃z,u=I J z:=by
  have hm:=List.mem_of_getElem? hu;obtain⟨z,_,rfl⟩:=List.mem_map.1 hm;exact⟨z,rfl⟩
 unfold Box at hX;simp[World.cell?,hX]at h1;exact hv _ _ h1
def eU(w:Wv)(b:Nat)(T:List (Li)):Prop:=∃vs:Lv,Box w b 49 vs/\vs.length=T.length/\∀i,(hi:i<T.length)->(hv:i<vs.length)->∃C c,vs[i]=H C T[i].length c/\T[i].length<=c/\aA w C T[i]
theorem eU.rows{w:Wv}{b:Nat}{T:List (Li)}(h:eU w b T):fI w (Z ⟨b,0,N⟩) T:=by
 obtain⟨vs,h1,h2,h3⟩:=h;exact⟨vs,h1.sl,h2,h3⟩
theorem eU.lt{w:Wv}{b:Nat}{T:List (Li)}(h:eU w b T):b<w.heap.size:=by obtain⟨vs,h1,_⟩:=h;exact h1.lt
theorem eU.below{w w':Wv}{b:Nat}{T:List (Li)}(h:eU w b T)(hb:By w w'):eU w' b T:=by
 obtain⟨vs,h1,h2,h3⟩:=h;exact⟨vs,h1.below hb h1.lt,h2,fun i hi hv=>by obtain⟨C,c,e1,e2,e3⟩:=h3 i hi hv;exact⟨C,c,e1,e2,e3.below hb⟩⟩
theorem eU.set{w:Wv}{b:Nat}{T:List (Li)}(h:eU w b T){i:Nat}{E:Oa}{l:Li}{d:Nat}(hd:l.length<=d)(hE:aA w E l):eU (w.setCell ⟨b,i,N⟩ (H E l.length d)) b (T.set i l):=by
 obtain⟨vs,h1,h2,h3⟩:=h;have hno:∀(j:Nat)(z:Int),¬vs[j]?=Z (Value.int .i64 z):=by
  intro j z e;obtain⟨hj,e2⟩:=List.getElem?_eq_some_iff.1 e;obtain⟨C,c,e1,_⟩:=h3 j (by omega) hj;rw[e1]at e2;cases e2
 refine⟨_,h1.set i _,by simp[h2],fun j hj hv=>?_⟩;rw[List.getElem_set,List.getElem_set];by_cases hij:i=j
 ·subst hij
  rw[if_pos rfl,if_pos rfl];exact⟨E,d,rfl,hd,yG hE h1 hno⟩
 rw[if_neg hij,if_neg hij];simp only[List.length_set]at hj hv;obtain⟨C,c,e1,e2,e3⟩:=h3 j hj hv;exact⟨C,c,e1,e2,yG e3 h1 hno⟩
theorem eU.cell{w:Wv}{b:Nat}{T:List (Li)}(h:eU w b T){i:Nat}(hi:i<T.length):(∃v,w.cell? ⟨b,i,N⟩=Z v)/\w.frozen? ⟨b,i,N⟩=false:=by
 obtain⟨vs,h1,h2,h3⟩:=h;exact⟨⟨_,h1.cell (List.getElem?_eq_getElem (by omega))⟩,h1.free i⟩
theorem eU.new(w:Wv)(n:Nat):eU (w.alloc (.cells (eF n (Value.slice N 0 0)).toArray 49)) w.heap.size (List.replicate n []):=by
 refine⟨_,Box.new w 49 (eF n (Value.slice N 0 0)) rfl,by simp[eF],fun i hi hv=>⟨N,0,?_,?_,?_⟩⟩
 ·simp[eF]
 ·simp
 rw[List.getElem_replicate];exact Sl.nil _ _
theorem SL(n:Nat)(hn:n<=1048576)(W:Wv):(Instr.makeSlice 145 (I J n) (I J n)).run prog W=.ok (H (Z ⟨W.heap.size,0,N⟩) n n) (W.alloc (.cells (eF n (Value.slice N 0 0)).toArray 49)):=by
 have info_rows:(prog.info? 49).map (fun i=>(i.zero,i.size,i.bytes))=Z (Z (H N 0 0),1,24):=by kernel_rfl
 obtain⟨i,hi,hz,hsize,hbytes⟩:=info_parts info_rows;have:=run_make (P:=prog) W 145 49 i (H N 0 0) underlying145 hi hz .i64 .i64 n n (by omega) (by omega) (by rw[hbytes];omega) (by omega);rw[this,hsize];simp only[Int.toNat_natCast,Nat.mul_one,tG (H N 0 0) rfl]
section
variable {fnd:Int->Option Nat}{T:List (Li)}
theorem AV(h64:∀m,(hm:m<T.length)->T[m].length<=64)(e:Int):(gT fnd T e).length<=64:=by
 unfold gT;cases fnd e with
 |none=>have:=(wU e).2;unfold dlM at this;dsimp only;omega
 |some m=>
  dsimp only;by_cases hm:m<T.length
  ·have:=h64 m hm;simpa[List.getD,hm]using this
  simp[List.getD,Nat.le_of_not_lt hm]
theorem WZ(h64:∀m,(hm:m<T.length)->T[m].length<=64)(l:Li):(eG fnd T l).length<=64*l.length:=by
 unfold eG;induction l with
 |nil=>simp
 |cons e l ih=>have:=AV (fnd:=fnd) h64 e;rw[List.flatMap_cons,List.length_append,List.length_cons];omega
theorem W_{l:Li}{i:Nat}(hi:i<l.length):eG fnd T (l.take (i+1))=eG fnd T (l.take i)++gT fnd T l[i]:=by
 unfold eG;rw[List.take_succ_eq_append_getElem hi,List.flatMap_append];simp
end
theorem AW(A1:Oa)(n1 k1:Nat)(ms:List Mp)(B:Oa)(nb kb:Nat)(T:List (Li))(A:Oa)(n k:Nat)(t:Li)(compat:Bool)(w:Wv)
  (hM:Mps w A1 ms) (hn1:ms.length=n1) (hz:n1<=1048576) (hT:fI w B T) (hTl:T.length=ms.length) (hnb:T.length=nb) (hA:aA w A t) (hn:t.length=n) (hbig:n<=1048576) (h64:∀m,(hm:m<T.length)->T[m].length<=64) :
  Calls prog 155 #[H A1 n1 k1,H B nb kb,H A n k,.bool compat] w (jN (eG (aB ms compat) T t) w):=by
 subst hn;subst hn1;subst hnb;have FD:=G (fun c W(hb:By w W)=>oW A1 ms.length k1 ms c compat W (hM.below hb) rfl hz);have DC:=G (fun c W=>AO c W);have HF:=G (fun c=>pB ms compat c);have HT:=G hT;have HA:=G hA;have HRT:=G (fun i(hi:i<t.length)=>W_ (fnd:=aB ms compat) (T:=T) hi);have HRL:=G (fun i=>WZ (fnd:=aB ms compat) h64 (t.take i));have HRE:=G (fun c=>AV (fnd:=aB ms compat) h64 c);have HRF:=U (eG (aB ms compat) T (t.take t.length)=eG (aB ms compat) T t) (by rw[List.take_length]);have HR0:=U (eG (aB ms compat) T (t.take 0)=[]) rfl;have HEU:=G (fun c=>show gT (aB ms compat) T c=(match aB ms compat c with|none=>Hg.decomp c|some m=>T.getD m [])from rfl);have H64:=G h64;have HTL:=G hTl;have hbase:w.heap.size<=w.heap.size:=Nat.le_refl _;clear hM hT hA h64 hTl;generalize eG (aB ms compat) T=RL at *;generalize gT (aB ms compat) T=RE at *;generalize aB ms compat=FM at *;go_enter func155,ntmps155;go_wp2_with fail;go_loopw [9,10] (fun v u wr=>∃(i:Nat)(S:Oa)(c:Nat),i<=t.length/\u=I J i/\v=H S (RL (t.take i)).length c/\wr.ownsRow w.heap.size 3 1 (H S (RL (t.take i)).length c) (RL (t.take i)).length ((RL (t.take i)).map (Value.int .i64))/\By w wr) (fun _ u _=>t.length-(intOf u).toNat)
 case atStart=>exact⟨0,N,0,Nat.zero_le _,rfl,by rw[HR0.out];rfl,by rw[HR0.out];exact World.ownsRow_nil _ _ _ _,Below.refl _ _⟩
 obtain⟨i,S,c,hi,rfl,rfl,hown,hb⟩:=hrel;have HO:=G hown;clear hown;by_cases hlt:i<t.length
 ·obtain⟨b1,o1,rfl,hcell⟩:=(HA.out.below hb).at hlt
  have c0:=hcell i hlt;have hri:=HRL.out i;rw[List.length_take]at hri;have HTI:=G (HRT.out i hlt);clear hcell;generalize t[i]=z at *;have hez:=HRE.out z;have HEZ:=G (HEU.out z);have FZ:=G (FD.out z wr hb);generalize RE z=ez at *;generalize hP:RL (t.take i)=P at *;clear hP;rcases HF.out z with⟨h1,h2⟩|⟨m,hm,h1,h2⟩
  ·rw[h2]at FZ
   have e0:=HEZ.out;rw[h1]at e0;dsimp only at e0;have DZ:=G (DC.out z wr);rw[<-e0]at DZ;have d0:decide ((0:Int)<=-1)=false:=by decide
   clear h1 h2 HEZ e0;go_wp2_with fail;with_reducible refine FZ.out.mono ?_
   rintro e W' ⟨rfl,rfl⟩;go_wp2_with fail;with_reducible refine DZ.out.mono ?_
   rintro e W' ⟨A3,c3,rfl,hc3,hI3,hb3⟩;have HO3:=G (aK HO.out hb3);have hb4:=hb.trans (hb3.mono hb.size);go_wp2_with(at_builtin;refine aJ _ _ 49 3 (I J 0) 1 8 rfl rfl underlying49 aM rfl (by decide) (by decide) rfl HO3.out rfl hI3 (by simp) (aR _) (by omega) hb4.size ?_;intro B9 k9 w9 hown9 hk9 hb9 hg9 hB9);have hb5:=hb4.trans hb9;go_roundw
   case rel=>exact⟨i+1,B9,k9,by omega,by go_num,by rw[HTI.out,List.length_append],by rw[HTI.out,List.length_append,List.map_append];exact hown9,hb5⟩
   simp[intOf];omega
  rw[h2]at FZ;have hmT:m<T.length:=by have:=HTL.out;omega
  have e0:=HEZ.out;rw[h1]at e0;dsimp only at e0;have hg:T.getD m []=T[m]:=by simp[List.getD,hmT]
  rw[hg]at e0;obtain⟨b2,o2,C,cc,rfl,r0,hcc,hC⟩:=(HT.out.below hb).at hmT;rw[<-e0]at r0 hcc hC;clear h1 h2 HEZ e0 hg;go_wp2_with fail;with_reducible refine FZ.out.mono ?_
  rintro e W' ⟨rfl,rfl⟩;go_wp2_with(at_builtin;refine aJ _ _ 49 3 (I J 0) 1 8 rfl rfl underlying49 aM rfl (by decide) (by decide) rfl HO.out rfl hC (by simp) (aR _) (by omega) hb.size ?_;intro B9 k9 w9 hown9 hk9 hb9 hg9 hB9);have hb5:=hb.trans hb9;go_roundw
  case rel=>exact⟨i+1,B9,k9,by omega,by go_num,by rw[HTI.out,List.length_append],by rw[HTI.out,List.length_append,List.map_append];exact hown9,hb5⟩
  simp[intOf];omega
 obtain rfl:i=t.length:=by omega
 have e:=HRF.out;rw[e]at HO;have hcap:=lQ HO.out;have HSL:=G (Sl.of_own HO.out);rw[e];clear e;generalize RL t=P at *;go_wp2_with fail;go_ret;exact⟨S,c,rfl,hcap,HSL.out,hb⟩
def FO(T:List (Li))(w:Wv)(e:Ending)(w':Wv):Prop:=∃B c,e=.returned (H B T.length c)/\fI w' B T/\By w w'
def gH(ms:List Mp)(compat:Bool)(T:List (Li)):Prop:=fN ms compat T/\oE ms compat T
theorem gH.len64{ms:List Mp}(hs:StF ms)(hh:dE ms)(he:dH ms=true)(hl:fF ms=false){compat:Bool}{T:List (Li)}(h:gH ms compat T):∀m,(hm:m<T.length)->T[m].length<=64:=by
 intro m hm;have hg:T.getD m []=T[m]:=by simp[List.getD,hm]
 rw[<-hg];cases hk:aV ms compat m with
 |false=>exact h.1.le64 hs hh he hl (by rw[<-h.1.1];exact hm) hk
 |true=>rw[h.2 m hk];simp
theorem gH.start(ms:List Mp)(compat:Bool):gH ms compat (List.replicate ms.length []):=⟨fN.start ms compat,fun i _=>by
 by_cases hi:i<ms.length
 ·simp[List.getD,hi]
 ·simp[List.getD,hi]⟩
theorem zAn(A:Oa)(n k:Nat)(ms:List Mp)(compat:Bool)(w:Wv)(hA:Mps w A ms)(hn:ms.length=n)(hbig:n<=1048576)(hz:∀i,(hi:i<ms.length)->ms[i].to.length<=1048576)
  (hs:StF ms) (hh:dE ms) (he:dH ms=true) (hl:fF ms=false) :
  Calls prog 156 #[H A n k,.bool compat] w (fun e w'=>gH ms compat (iW ms compat)/\FO (iW ms compat) w e w'):=by
 subst hn;have RC:=G (fun B T A2 n2 k2 l W(hb:By w W)(hT:fI W B T)(hok:gH ms compat T)(hA2:aA W A2 l)(hn2:l.length=n2)(hb2:n2<=1048576)=>AW A ms.length k ms B T.length T.length T A2 n2 k2 l compat W (hA.below hb) rfl hbig hT hok.1.1 rfl hA2 hn2 hb2 (hok.len64 hs hh he hl));have HA:=G hA;have HZ:=G hz;have hmk:=SL ms.length hbig;have OS:=G (fun T i(h:gH ms compat T)(hi:i<ms.length)=>(show gH ms compat ((cP (toM ms) (aB ms compat) (aV ms compat)) T i)from⟨h.1.step hs hh hi,h.2.step i⟩));have O0:=G (gH.start ms compat);have OL:=G (fun T(h:gH ms compat T)=>h.1.1);have HSU:=G (fun T i=>show(cP (toM ms) (aB ms compat) (aV ms compat)) T i=if aV ms compat i=true then T else T.set i (eG (aB ms compat) T (toM ms i))from rfl);have HFL:=G (fun T0 i=>show(List.range (i+1)).foldl (cP (toM ms) (aB ms compat) (aV ms compat)) T0=(cP (toM ms) (aB ms compat) (aV ms compat)) ((List.range i).foldl (cP (toM ms) (aB ms compat) (aV ms compat)) T0) i from by rw[List.range_succ,List.foldl_append];rfl);have HN:=G (fun r=>show jH (toM ms) (aB ms compat) (aV ms compat) ms.length (r+1)=(List.range ms.length).foldl (cP (toM ms) (aB ms compat) (aV ms compat)) (jH (toM ms) (aB ms compat) (aV ms compat) ms.length r)from rfl);have HE:=U (iW ms compat=jH (toM ms) (aB ms compat) (aV ms compat) ms.length ms.length) rfl;have H0:=U (jH (toM ms) (aB ms compat) (aV ms compat) ms.length 0=List.replicate ms.length []) rfl;clear hA hz hs hh he hl;generalize jH (toM ms) (aB ms compat) (aV ms compat) ms.length=RN at *;generalize iW ms compat=RE at *;generalize hRL:eG (aB ms compat)=RL at *;have BN:=G (eU.new w ms.length);go_enter func156,ntmps156;go_wp2_with fail;have B0:By w (w.alloc (.cells (eF ms.length (Value.slice N 0 0)).toArray 49)):=ba _ _;obtain⟨W0,hW0⟩:∃W0,(w.alloc (.cells (eF ms.length (Value.slice N 0 0)).toArray 49))=W0:=⟨_,rfl⟩;rw[hW0]at B0 BN|-;clear hW0 hmk;go_loopw [6] (fun u wr=>∃r:Nat,r<=ms.length/\u=I J r/\eU wr w.heap.size (RN r)/\gH ms compat (RN r)/\By w wr) (fun u _=>ms.length-(intOf u).toNat)
 case atStart=>exact⟨0,Nat.zero_le _,rfl,by rw[H0.out];exact BN.out,by rw[H0.out];exact O0.out,B0⟩
 obtain⟨r,hr,rfl,hX,hok,hb⟩:=hrel;have HX:=G hX;have HOK:=G hok;clear hX BN B0 hok H0 O0;by_cases hlt:r<ms.length
 ·have HNX:=G (HN.out r)
  generalize hR1:RN (r+1)=R1 at *;generalize hR0:RN r=T0 at *;have HR1:=G hR1;clear hR1 hR0;go_wp2_with fail;go_loopw [7] (fun u wr=>∃(i:Nat)(T:List (Li)),i<=ms.length/\u=I J i/\T=(List.range i).foldl (cP (toM ms) (aB ms compat) (aV ms compat)) T0/\eU wr w.heap.size T/\gH ms compat T/\By w wr) (fun u _=>ms.length-(intOf u).toNat)
  case atStart=>exact⟨0,T0,Nat.zero_le _,rfl,rfl,HX.out,HOK.out,hb⟩
  clear HX hb HOK;obtain⟨i,T,hi,rfl,hTe,hX,hok,hb⟩:=hrel;have HX:=G hX;have HOK:=G hok;have HTE:=G hTe;have hTl:=OL.out T hok;clear hX hok hTe;by_cases hlti:i<ms.length
  ·obtain⟨b1,o1,rfl,hbl,hcell⟩:=(HA.out.below hb).at hlti
   obtain⟨C,cc,c0,c1,c2,hcc,hC⟩:=hcell i hlti;have hzi:=HZ.out i hlti;have HT1:=U ((cP (toM ms) (aB ms compat) (aV ms compat)) T i=(List.range (i+1)).foldl (cP (toM ms) (aB ms compat) (aV ms compat)) T0) (by rw[HFL.out,HTE.out]);have HOK1:=G (OS.out T i HOK.out hlti);have HSI:=G (HSU.out T i);have hsk:aV ms compat i=(!compat&&decide (¬ms[i].tag.size=0)):=by simp[aV,List.getD,hlti]
   have hto:=kW hlti;rw[hsk,hto]at HSI;generalize hT1:(cP (toM ms) (aB ms compat) (aV ms compat)) T i=T1 at *;clear hcell hsk hto hT1;generalize ms[i].frm=mf at *;generalize ms[i].to=mt at *;generalize ms[i].tag=mg at *;have HSKIP:=G (fun(h:compat=false) (hg:¬mg.size=0)=>show T1=T from by rw[HSI.out,if_pos (by simp[h];intro e;exact hg (by rw[e];rfl))]);have HSET:=G (fun(h:compat=true\/mg.size=0)=>show T1=T.set i (RL T mt)from by rw[HSI.out,if_neg (by rcases h with h|h<;>simp[h])]);have RCI:=G (RC.out (Z ⟨w.heap.size,0,N⟩) T C mt.length cc mt wr hb HX.out.rows HOK.out hC rfl hzi);rw[hTl]at RCI;generalize hRM:RL T mt=rm at *;clear hRM HSI hC
   have FIN:=G (fun(W:Wv) E (d:Nat) (hbw:By wr W) (hd:rm.length<=d) (hE:aA W E rm) (hset:T1=T.set i rm)=>show eU (W.setCell ⟨w.heap.size,i,N⟩ (H E rm.length d)) w.heap.size T1 from by
    rw[hset];exact(HX.out.below hbw).set hd hE)
   by_cases hg:mg.size=0
   ·have g0:mg.toList=[]:=gX hg
    have hs9:=HSET.out (.inr hg);have HS9:=G hs9;clear hs9 HSET HSKIP;have dC:(compat||true)=true:=by simp
    cases compat<;>(
     go_wp2_with fail
     with_reducible refine RCI.out.mono ?_
     rintro e W2 ⟨E,d,rfl,hd,hE,hb2⟩
     have HF2:=G (FIN.out W2 E d hb2 hd hE HS9.out)
     obtain⟨⟨v9,e9⟩,f9⟩:=(HX.out.below hb2).cell (i:=i) (by omega)
     have hb3:=(hb.trans (hb2.mono hb.size)).setCell (p:=⟨w.heap.size,i,N⟩) (Nat.le_refl _) (H E rm.length d)
     have hiT:i<ms.length:=hlti
     clear c0 c1 c2 hE
     go_wp2_with fail
     go_roundw
     case rel=>exact⟨i+1,T1,by omega,by go_num,HT1.out,HF2.out,HOK1.out,hb3⟩
     case measure=>simp[intOf];omega)
   have g0:¬mg.toList=[]:=gW hg;have g1:mg.toList.isEmpty=false:=by simpa using g0
   cases compat with
   |true=>
    have hs9:=HSET.out (.inl rfl);have HS9:=G hs9;clear hs9 HSET HSKIP;go_wp2_with fail;with_reducible refine RCI.out.mono ?_
    rintro e W2 ⟨E,d,rfl,hd,hE,hb2⟩;have HF2:=G (FIN.out W2 E d hb2 hd hE HS9.out);obtain⟨⟨v9,e9⟩,f9⟩:=(HX.out.below hb2).cell (i:=i) (by omega);have hb3:=(hb.trans (hb2.mono hb.size)).setCell (p:=⟨w.heap.size,i,N⟩) (Nat.le_refl _) (H E rm.length d);clear c0 c1 c2 hE;go_wp2_with fail;go_roundw
    case rel=>exact⟨i+1,T1,by omega,by go_num,HT1.out,HF2.out,HOK1.out,hb3⟩
    simp[intOf];omega
   |false=>
    have hs9:=HSKIP.out rfl hg;have HX9:=U (eU wr w.heap.size T1) (by rw[hs9];exact HX.out);clear hs9 HSET HSKIP RCI FIN;go_wp2_with fail;go_roundw
    case rel=>exact⟨i+1,T1,by omega,by go_num,HT1.out,HX9.out,HOK1.out,hb⟩
    simp[intOf];omega
  obtain rfl:i=ms.length:=by omega
  go_wp2_with fail;go_roundw
  case rel=>exact⟨r+1,by omega,by go_num,by rw[HR1.out,HNX.out,<-HTE.out];exact HX.out,by rw[HR1.out,HNX.out,<-HTE.out];exact HOK.out,hb⟩
  simp[intOf];omega
 obtain rfl:r=ms.length:=by omega
 have hE:=HE.out;have hl:=OL.out _ HOK.out;generalize RN ms.length=RR at *;subst hE;go_wp2_with fail;go_ret;exact⟨HOK.out,Z ⟨w.heap.size,0,N⟩,ms.length,by rw[hl];rfl,HX.out.rows,hb⟩
end
section
open Go.RowKit
def blk(A:Oa):Option Nat:=A.map (fun a=>a.block)
theorem dZ(A:Oa)(n c:Nat):Value.ownBlock (H A n c)=blk A:=by cases A<;>rfl
def upd{α:Type}(f:Nat->α)(j:Nat)(v:α):Nat->α:=fun k=>if k=j then v else f k
theorem d_{α:Type}(f:Nat->α)(j:Nat)(v:α):upd f j v j=v:=if_pos rfl
theorem eA{α:Type}{f:Nat->α}{j k:Nat}{v:α}(h:k≠j):upd f j v k=f k:=if_neg h
structure R4(w:Wv)(base:Nat)(A:Nat->Oa)(C:Nat->Nat)(R:Nat->Li):Prop where
 own:∀k,k<4->w.ownsRow base 3 1 (H (A k) (R k).length (C k)) (R k).length ((R k).map (Value.int .i64))
 ne:∀j k,j<4->k<4->j≠k->blk (A j)=N\/blk (A j)≠blk (A k)
section
variable {w w':Wv}{base:Nat}{A:Nat->Oa}{C:Nat->Nat}{R:Nat->Li}
theorem R4.nil(w:Wv)(base:Nat):R4 w base (fun _=>N) (fun _=>0) (fun _=>[]):=⟨fun _ _=>World.ownsRow_nil _ _ _ _,fun _ _ _ _ _=>.inl rfl⟩
theorem R4.lt(h:R4 w base A C R){k q:Nat}(hk:k<4)(hq:blk (A k)=Z q):base<=q/\q<w.heap.size:=(h.own k hk).lt q (by rw[dZ];exact hq)
theorem R4.keep(h:R4 w base A C R){q:Nat}(hg:w.grownBy w' (Z q))(hq:q<base):R4 w' base A C R:=by
 refine⟨fun k hk=>(h.own k hk).kept hg ?_,h.ne⟩;rw[dZ];cases hb:blk (A k)with
 |none=>exact .inl rfl
 |some g=>
  right;intro e;injection e with e;have:=(h.lt hk hb).1;omega
theorem R4.below(h:R4 w base A C R)(hb:By w w'):R4 w' base A C R:=⟨fun k hk=>aK (h.own k hk) hb,h.ne⟩
theorem R4.put(h:R4 w base A C R){j:Nat}(hj:j<4){B:Oa}{k:Nat}{zs:Li}(ho:w'.ownsRow base 3 1 (H B zs.length k) zs.length (zs.map (Value.int .i64)))(hg:w.grownBy w' (blk (A j)))(hB:B=A j\/B=Z ⟨w.heap.size,0,N⟩):
  R4 w' base (upd A j B) (upd C j k) (upd R j zs):=by
 refine⟨fun i hi=>?_,fun i l hi hl hne=>?_⟩
 ·by_cases e:i=j
  ·subst e
   rw[d_,d_,d_];exact ho
  rw[eA e,eA e,eA e];refine(h.own i hi).kept hg ?_;rw[dZ];exact h.ne i j hi hj e
 have nb:∀i,i<4->i≠j->blk (A i)=N\/blk (A i)≠blk B:=fun i hi e=>by
  rcases hB with rfl|rfl
  ·exact h.ne i j hi hj e
  cases hb:blk (A i)with
  |none=>exact .inl rfl
  |some g=>
   right;intro e2;have e3:g=w.heap.size:=by injection e2
   have:=(h.lt hi hb).2;omega
 by_cases e:i=j
 ·subst e
  rw[d_,eA (fun g=>hne g.symm)];cases hb:blk B with
  |none=>exact .inl rfl
  |some g=>
   right;rcases nb l hl (fun g=>hne g.symm)with g1|g1
   ·rw[g1];simp
   rw[hb]at g1;exact fun e=>g1 e.symm
 rw[eA e];by_cases e2:l=j
 ·subst e2
  rw[d_];exact nb i hi e
 rw[eA e2];exact h.ne i l hi hl hne
end
def lcs(A:Nat->Oa)(C:Nat->Nat)(R:Nat->Li):Lv:=[H (A 0) (R 0).length (C 0),H (A 1) (R 1).length (C 1),H (A 2) (R 2).length (C 2),H (A 3) (R 3).length (C 3)]
theorem yQ(A:Nat->Oa)(C:Nat->Nat)(R:Nat->Li){j:Nat}(hj:j<4)(B:Oa)(k:Nat)(zs:Li):(lcs A C R).set j (H B zs.length k)=lcs (upd A j B) (upd C j k) (upd R j zs):=by
 match j,hj with
 |0,_=>rfl
 |1,_=>rfl
 |2,_=>rfl
 |3,_=>rfl
theorem QQ(A:Nat->Oa)(C:Nat->Nat)(R:Nat->Li):(lcs A C R).length=4:=rfl
def bQ(r r':Nat->Li)(j:Nat):Nat->Li:=fun k=>if k<j then r' k else r k
theorem SD(r r':Nat->Li):bQ r r' 0=r:=by funext k;unfold bQ;rw[if_neg (by omega)]
theorem pN{r r':Nat->Li}{j:Nat}:upd (bQ r r' j) j (r' j)=bQ r r' (j+1):=by
 funext k;unfold upd bQ;by_cases e:k=j
 ·subst e;rw[if_pos rfl,if_pos (by omega)]
 rw[if_neg e];by_cases g:k<j
 ·rw[if_pos g,if_pos (by omega)]
 rw[if_neg g,if_neg (by omega)]
theorem pO{r r':Nat->Li}{j:Nat}(h:r' j=r j):bQ r r' (j+1)=bQ r r' j:=by
 funext k;unfold bQ;by_cases e:k=j
 ·subst e;rw[if_pos (by omega),if_neg (by omega),h]
 by_cases g:k<j
 ·rw[if_pos g,if_pos (by omega)]
 rw[if_neg g,if_neg (by omega)]
theorem SA{r r':Nat->Li}{A:Nat->Oa}{C:Nat->Nat}{w:Wv}{base:Nat}(h:R4 w base A C (bQ r r' 4)):R4 w base A C r'/\lcs A C (bQ r r' 4)=lcs A C r':=
 ⟨⟨fun k hk=>by have:=h.own k hk;unfold bQ at this;simp only[if_pos hk]at this;exact this,h.ne⟩,rfl⟩
theorem jX{w:Wv}{base:Nat}{A:Nat->Oa}{C:Nat->Nat}{R:Nat->Li}(h:R4 w base A C R){k:Nat}(hk:k<=4){E:Oa}(hE:Sl w E ((lcs A C R).take k)):fI w E ((List.range k).map R):=by
 refine⟨(lcs A C R).take k,hE,by rw[List.length_take,QQ];simp;omega,fun i hi hv=>?_⟩;have hi4:i<4:=by simp at hi;omega
 refine⟨A i,C i,?_,?_,?_⟩
 ·rw[List.getElem_take,List.getElem_map,List.getElem_range]
  match i,hi4 with
  |0,_=>rfl
  |1,_=>rfl
  |2,_=>rfl
  |3,_=>rfl
 ·rw[List.getElem_map,List.getElem_range]
  obtain⟨_,_,hv,hc⟩:=gE (h.own i hi4);injection hv with _ _ hv;subst hv;exact hc
 rw[List.getElem_map,List.getElem_range];exact Sl.of_own (h.own i hi4)
end
end Go.Proofs.YtpfbnikbebccjaaGreatDoor
