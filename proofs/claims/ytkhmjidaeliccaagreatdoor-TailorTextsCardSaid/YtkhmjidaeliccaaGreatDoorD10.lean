import Derived.Test.YtkhmjidaeliccaaGreatDoorD00
import Derived.Test.YtkhmjidaeliccaaGreatDoorD02
import Derived.Test.YtkhmjidaeliccaaGreatDoorD03
import Derived.Test.YtkhmjidaeliccaaGreatDoorD04
import Derived.Test.YtkhmjidaeliccaaGreatDoorD05
import Derived.Test.YtkhmjidaeliccaaGreatDoorD06
import Derived.Test.YtkhmjidaeliccaaGreatDoorD07
import Derived.Test.YtkhmjidaeliccaaGreatDoorD09
import Derived.BigQuiet
set_option maxRecDepth 100000
set_option maxHeartbeats 51200000
namespace Go.Proofs.YtkhmjidaeliccaaGreatDoor
open Option renaming none->N,some->Z
open Value renaming int->I,slice->H
open IntKind renaming i64->J
open Go.Proofs.Tryz
section
open Go.RowKit Go.Maps Go.WideMaps
theorem dE.cl{w:Wv}{T:Nat}{c:Col}{cl:Value}{top:Int}(h:dE w T c cl top):w.cell? ⟨T,7,N⟩=Z cl/\T<w.heap.size:=by
 obtain⟨A,n,a,B,m,b,M,k,f,hX,_⟩:=h.ex;exact⟨hX.c 7 rfl,hX.lt⟩
theorem V_(bt bc T:Nat)(A:Oa)(k:Nat)(cs:List Spn)(c:Int)(i:Nat)(W:Wv)(hS:bD W A cs)(hi:i<cs.length)(ht:W.cell? ⟨bt,0,N⟩=Z (.pointer (Z ⟨T,0,N⟩)))(hc:W.cell? ⟨bc,0,N⟩=Z (I J c))(h7:W.cell? ⟨T,7,N⟩=Z (H A cs.length k)):
  Calls prog 172 #[I J i,.pointer (Z ⟨bt,0,N⟩),.pointer (Z ⟨bc,0,N⟩)] W (eD (decide (c<=cs[i].hi)) W):=by
 obtain⟨b,o,rfl,_,hcell⟩:=hS.at hi;obtain⟨c1,c2,c3⟩:=hcell i hi;clear hcell;generalize cs[i].hi=hh at *;generalize cs[i].lo=ll at *;generalize cs[i].val=vv at *;go_enter func172,ntmps172;go_wp2_with fail;go_quiet(fail);go_wp2_with fail;go_ret;exact⟨rfl,eF _ _⟩
theorem WA(T:Nat)(A:Oa)(k:Nat)(cs:List Spn)(c:Int)(w:Wv)(hS:bD w A cs)(hbig:cs.length<=1099511627776)(hasc:Asc cs)(hT:T<w.heap.size)(h7:w.cell? ⟨T,7,N⟩=Z (H A cs.length k)):
  Calls prog 127 #[.pointer (Z ⟨T,0,N⟩),I J c] w (bU (cls cs c) w):=by
 have H0:By w ((w.alloc (.cells #[.pointer (Z ⟨T,0,N⟩)] 104)).alloc (.cells #[I J c] 3)):=(ba _ _).alloc (by simp) _;have X0:Box ((w.alloc (.cells #[.pointer (Z ⟨T,0,N⟩)] 104)).alloc (.cells #[I J c] 3)) w.heap.size 104 [.pointer (Z ⟨T,0,N⟩)]:=(Box.new w _ [.pointer (Z ⟨T,0,N⟩)] rfl).below (B:=w.heap.size+1) ((Below.refl _ _).alloc (by simp) _) (by omega);have X1:Box ((w.alloc (.cells #[.pointer (Z ⟨T,0,N⟩)] 104)).alloc (.cells #[I J c] 3)) (w.heap.size+1) 3 [I J c]:=Box.new _ _ _ (by simp);have W0E:∃W0,((w.alloc (.cells #[.pointer (Z ⟨T,0,N⟩)] 104)).alloc (.cells #[I J c] 3))=W0:=⟨_,rfl⟩;have HS:=G hS;have HASC:=G hasc;clear hS hasc;go_enter func127,ntmps127;go_wp2_with fail;obtain⟨W0,hW0⟩:=W0E;try rw[hW0]at H0 X0 X1|-
 clear hW0;have q0:=X0.c 0 rfl;have q1:=X1.c 0 rfl;have q7:W0.cell? ⟨T,7,N⟩=Z (H A cs.length k):=(H0.cell hT).trans h7;have l0:=X0.lt;have l1:=X1.lt;have CF:=G (fun(i:Nat) (W:Wv) (hi:i<cs.length) (hb:By W0 W)=>V_ w.heap.size (w.heap.size+1) T A k cs c i W (HS.out.below (H0.trans (hb.mono H0.size))) hi ((hb.cell l0).trans q0) ((hb.cell l1).trans q1) ((hb.cell (by have:=H0.size;simp;omega)).trans q7))
 have SC:=G (T_ 172 #[.pointer (Z ⟨w.heap.size,0,N⟩),.pointer (Z ⟨w.heap.size+1,0,N⟩)] cs.length (fun i=>decide (c<=(cs.getD i ⟨0,0,0⟩).hi)) W0 (enters_of func172 (by kernel_rfl) rfl) hbig
  (fun i W hi hb=>by
   have h:=CF.out i W hi hb
   have e:(cs.getD i ⟨0,0,0⟩)=cs[i]:=by simp[List.getD,hi]
   rw[e]
   exact h)
  (fun a b hab hb h=>by
   have e1:(cs.getD a ⟨0,0,0⟩)=cs[a]'(by omega):=by simp[List.getD,show a<cs.length by omega]
   have e2:(cs.getD b ⟨0,0,0⟩)=cs[b]:=by simp[List.getD,hb]
   simp only[e1,e2,decide_eq_true_eq]at h|-
   by_cases e:a=b
   ·subst e;exact h
   ·have:=(HASC.out a b (by omega) hb).2 (by omega)
    have:=(HASC.out b b hb hb).1
    omega))
 go_wp2_with fail;with_reducible refine SC.out.mono ?_
 rintro e W1 ⟨i,rfl,hF,hb1⟩;have H1:=H0.trans (hb1.mono H0.size);have p0:=(hb1.cell l0).trans q0;have p1:=(hb1.cell l1).trans q1;have p7:=(hb1.cell (by have:=H0.size;simp;omega)).trans q7;have hle:=hF.le;have HF:=G hF;clear SC CF X0 X1 q0 q1 q7 hF;by_cases hi:i<cs.length
 ·obtain⟨b,o,rfl,_,hcell⟩:=(HS.out.below H1).at hi
  obtain⟨c1,c2,c3⟩:=hcell i hi;clear hcell;have hhi:c<=cs[i].hi:=by
   have:=HF.out.hi i (Nat.le_refl _) hi;simpa[List.getD,hi]using this
  have HC:=U (cls cs c=if cs[i].lo<=c then cs[i].val else 0) (by
   by_cases hl:cs[i].lo<=c
   ·rw[if_pos hl];exact uX cs c i hi HASC.out hl hhi
   ·rw[if_neg hl]
    refine qT cs c fun t ht=>?_
    rintro⟨g1,g2⟩
    by_cases hti:t<i
    ·have:=HF.out.lo t hti
     simp[List.getD,ht]at this
     omega
    ·by_cases e:t=i
     ·subst e;exact hl g1
     ·have:=(HASC.out i t hi ht).2 (by omega)
      omega)
  clear hhi HF;generalize cls cs c=r at *;generalize cs[i].hi=hh at *;generalize cs[i].lo=ll at *;generalize cs[i].val=vv at *;have d1:decide ((i:Int)<(cs.length:Int))=true:=by simpa using hi
  by_cases hl:ll<=c
  ·have d2:decide (ll<=c)=true:=by simpa using hl
   have HR:=G (HC.out.trans (if_pos hl));go_wp2_with fail;go_quiet(fail);go_wp2_with fail;go_ret;exact⟨by rw[HR.out];rfl,H1.trans ((eF _ _).mono H1.size)⟩
  have d2:decide (ll<=c)=false:=by simpa using hl
  have HR:=G (HC.out.trans (if_neg hl));go_wp2_with fail;go_quiet(fail);go_wp2_with fail;go_ret;exact⟨by rw[HR.out];rfl,H1.trans ((eF _ _).mono H1.size)⟩
 ·have HC:=U (cls cs c=0) (qT cs c fun t ht=>by
   rintro⟨g1,g2⟩
   have:=HF.out.lo t (by omega)
   simp[List.getD,ht]at this
   omega)
  have d1:decide ((i:Int)<(cs.length:Int))=false:=by simpa using hi
  clear HF;generalize cls cs c=r at *;go_wp2_with fail;go_quiet(fail);go_wp2_with fail;go_ret;exact⟨by rw[HC.out];rfl,H1.trans ((eF _ _).mono H1.size)⟩
def pE(n:Nat)(v:Value):Lv:=List.replicate n v
theorem Box.sl{w:Wv}{b:Nat}{t:TypeId}{cs:Lv}(h:Box w b t cs):Sl w (Z ⟨b,0,N⟩) cs:=fun _=>⟨b,0,rfl,fun j u hu=>by rw[Nat.zero_add];exact h.cell hu⟩
def jS(L:Li):Prop:=∀x∈L,0<=x/\x<=65
theorem jS.getD{L:Li}(h:jS L)(i:Nat):0<=L.getD i 0/\L.getD i 0<=65:=by
 by_cases hi:i<L.length
 ·have:=h _ (List.getElem_mem hi)
  simpa[List.getD,hi]using this
 simp[List.getD,Nat.le_of_not_lt hi]
theorem NT{L:Li}{toq:Nat->Li}{fnd:Int->Option Nat}(i:Nat):0<=lB toq fnd dlM aK L i/\lB toq fnd dlM aK L i<=65:=by unfold lB aK;omega
theorem jS.step{L:Li}(h:jS L)(toq:Nat->Li)(fnd:Int->Option Nat)(skip:Nat->Bool)(i:Nat):jS (fV toq fnd dlM aK skip L i):=by
 intro x hx;unfold fV at hx;rcases List.mem_or_eq_of_mem_set hx with hx|hx
 ·exact h x hx
 subst hx;split
 ·omega
 exact NT i
theorem jS.fold(toq:Nat->Li)(fnd:Int->Option Nat)(skip:Nat->Bool)(s:List Nat):∀{L:Li},jS L->jS (s.foldl (fV toq fnd dlM aK skip) L):=by
 induction s with
 |nil=>intro L h;exact h
 |cons x s ih=>intro L h;exact ih (h.step toq fnd skip x)
end
section
open Go.RowKit
section
variable (on:Int->Option (Li))
inductive bH:Int->Li->Prop
 |leaf {c:Int}:on c=N->bH c [c]
 |node {c:Int} {toq:Li} {vs:List (Li)}:on c=Z toq->vs.length=toq.length->(∀i,(hi:i<toq.length)->(hv:i<vs.length)->bH toq[i] vs[i])->bH c vs.flatten
end
section
variable {on:Int->Option (Li)}{cap:Int}
theorem bH.func{c:Int}{l:Li}(h:bH on c l):∀{l'},bH on c l'->l=l':=by
 induction h with
 |leaf h=>
  intro l' h';cases h' with
  |leaf _=>rfl
  |node h1 _ _=>rw[h]at h1;cases h1
 |node h1 h2 _ ih=>
  intro l' h';cases h' with
  |leaf h=>rw[h]at h1;cases h1
  | @node _ to' vs' g1 g2 g3=>
   rw[h1]at g1;injection g1 with g1;subst g1;congr 1;refine List.ext_getElem (by omega) fun i hi hi'=>?_
   exact ih i (by omega) hi (g3 i (by omega) hi')
theorem bH.done{c:Int}{l:Li}(h:bH on c l):∀e∈l,on e=N:=by
 induction h with
 |leaf h=>intro e he;simp at he;subst he;exact h
 |node h1 h2 _ ih=>
  intro e he;obtain⟨v,hv,he⟩:=List.mem_flatten.1 he;obtain⟨i,hi,rfl⟩:=List.getElem_of_mem hv;exact ih i (by omega) hi e he
theorem Sz.full{c v:Int}(h:Sz on cap c v)(hcap:1<=cap):∃l,bH on c l/\(v<cap->(l.length:Int)<=v):=by
 induction h with
 | @leaf c h=>
  rcases h with h|h
  ·exact⟨[c],.leaf h,fun _=>by simp⟩
  exact⟨[],by simpa using bH.node (vs:=[]) h rfl (fun i hi=>by simp at hi),fun _=>by simp⟩
 | @node c toq vs h1 h2 h3 h4 ih=>
  have hch:∀i:Nat,∃l:Li,∀(hi:i<toq.length)(hv:i<vs.length),bH on toq[i] l/\(vs[i]<cap->(l.length:Int)<=vs[i]):=fun i=>by
   by_cases hi:i<toq.length
   ·obtain⟨l,g1,g2⟩:=ih i hi (by omega)
    exact⟨l,fun _ _=>⟨g1,g2⟩⟩
   exact⟨[],fun h=>absurd h hi⟩
  refine⟨((List.range toq.length).map (fun i=>(hch i).choose)).flatten,.node h1 (by simp) (fun i h1 h2=>?_),fun hv=>?_⟩
  ·simp only[List.getElem_map,List.getElem_range]
   exact((hch i).choose_spec h1 (by omega)).1
  have hpos:∀v∈vs,0<=v:=fun v hv=>by
   obtain⟨i,hi,rfl⟩:=List.getElem_of_mem hv;have:=(h4 i (by omega) hi).bd hcap;omega
  rw[qO hpos (by omega)]at hv|-;have hs:vs.sum<cap:=by omega
  have key:∀(ls:List (Li))(vs:Li),ls.length=vs.length->(∀v∈vs,0<=v)->vs.sum<cap->(∀i,(h1:i<ls.length)->(h2:i<vs.length)->vs[i]<cap->(ls[i].length:Int)<=vs[i])->(ls.flatten.length:Int)<=vs.sum:=by
   intro ls;induction ls with
   |nil=>intro vs hl _ _ _;cases vs with|nil=>simp|cons _ _=>simp at hl
   |cons l ls ihl=>
    intro vs hl hp hs hle;cases vs with
    |nil=>simp at hl
    |cons v vs=>
     rw[List.sum_cons]at hs;have hq:0<=vs.sum:=zF (fun v hv=>hp v (by simp[hv]));have h0:=hle 0 (by simp) (by simp) (by simp only[List.getElem_cons_zero];omega);simp only[List.getElem_cons_zero]at h0;have hv0:=hp v (by simp)
     have h1:=ihl vs (by simpa using hl) (fun v hv=>hp v (by simp[hv])) (by omega) (fun i g1 g2 g3=>by
      have:=hle (i+1) (by simp;omega) (by simp;omega)
      simp only[List.getElem_cons_succ]at this
      exact this g3)
     rw[List.flatten_cons,List.length_append,List.sum_cons];omega
  have:=key ((List.range toq.length).map (fun i=>(hch i).choose)) vs (by simp[h3]) hpos hs (fun i g1 g2 g3=>by
   simp only[List.getElem_map,List.getElem_range]
   simp at g1
   exact((hch i).choose_spec g1 g2).2 g3)
  omega
end
def kI(fnd:Int->Option Nat)(T:List (Li))(e:Int):Li:=match fnd e with|none=>Hg.decomp e|some m=>T.getD m []
def lD(fnd:Int->Option Nat)(T:List (Li))(text:Li):Li:=text.flatMap (kI fnd T)
def dP(toq:Nat->Li)(fnd:Int->Option Nat)(skip:Nat->Bool)(T:List (Li))(i:Nat):List (Li):=if skip i=true then T else T.set i (lD fnd T (toq i))
def nS(toq:Nat->Li)(fnd:Int->Option Nat)(skip:Nat->Bool)(n:Nat):Nat->List (Li)
 |0=>List.replicate n []
 |r+1=>(List.range n).foldl (dP toq fnd skip) (nS toq fnd skip n r)
section
variable {n:Nat}{frm:Nat->Int}{toq:Nat->Li}{fnd fnd':Int->Option Nat}{on:Int->Option (Li)}{skip:Nat->Bool}
theorem tF(T:List (Li))(i:Nat):(dP toq fnd skip T i).length=T.length:=by unfold dP;split<;>simp
theorem VU(s:List Nat):∀T:List (Li),(s.foldl (dP toq fnd skip) T).length=T.length:=by
 induction s with
 |nil=>intro T;rfl
 |cons x s ih=>intro T;exact(ih _).trans (tF T x)
structure pT(n:Nat)(frm:Nat->Int)(toq:Nat->Li)(fnd:Int->Option Nat)(on:Int->Option (Li))(skip:Nat->Bool):Prop where
 at_:∀i,i<n->skip i=false->on (frm i)=Z (toq i)
 fd:∀e m,fnd e=Z m->m<n/\frm m=e/\skip m=false
 no:∀e,fnd e=N->bH on e (Hg.decomp e)
theorem JP{l:Li}{f:Int->Li}:(l.map f).flatten=l.flatMap f:=by rw[List.flatMap_def]
theorem VX(M:pT n frm toq fnd on skip)(hsub:∀e m,fnd e=Z m->fnd' e=Z m)(s:List Nat)(hs:∀i∈s,i<n):
  ∀i,i<n->skip i=false->(s.foldl (aX toq fnd') (List.replicate n false)).getD i false=true->bH on (frm i) ((s.foldl (dP toq fnd skip) (List.replicate n [])).getD i []):=by
 have hlenE:∀s:List Nat,(s.foldl (aX toq fnd') (List.replicate n false)).length=n:=by
  intro s;have:∀(s:List Nat)(T:List Bool),T.length=n->(s.foldl (aX toq fnd') T).length=n:=by
   intro s;induction s with
   |nil=>intro T h;exact h
   |cons x s ih=>intro T h;exact ih _ (by simp[aX,h])
  exact this s _ (by simp)
 have key:∀k(s:List Nat),s.length=k->(∀i∈s,i<n)->∀i,i<n->skip i=false->(s.foldl (aX toq fnd') (List.replicate n false)).getD i false=true->bH on (frm i) ((s.foldl (dP toq fnd skip) (List.replicate n [])).getD i []):=by
  intro k;induction k with
  |zero=>
   intro s hk _ i hi _ h;have:s=[]:=List.eq_nil_of_length_eq_zero hk;subst this;simp[List.getD,hi]at h
  |succ k ih=>
   intro s hk hs i hi hsk h;obtain⟨s',x,rfl⟩:∃s' x,s=s'++[x]:=⟨s.dropLast,s.getLast (by rintro rfl;simp at hk),(List.dropLast_concat_getLast _).symm⟩;have hs':∀i∈s',i<n:=fun j hj=>hs j (by simp[hj])
   have hx:x<n:=hs x (by simp);have IH:=ih s' (by simpa using hk) hs';rw[List.foldl_append]at h|-;simp only[List.foldl_cons,List.foldl_nil]at h|-;have l1:=hlenE s';have l2:(s'.foldl (dP toq fnd skip) (List.replicate n [])).length=n:=by rw[VU];simp
   generalize s'.foldl (aX toq fnd') (List.replicate n false)=T at *;generalize s'.foldl (dP toq fnd skip) (List.replicate n [])=L at *;by_cases e:x=i
   ·subst e
    have hT:iG toq fnd' T x=true:=by
     simpa[aX,List.getD,l1,hi]using h
    have hL:(dP toq fnd skip L x).getD x []=lD fnd L (toq x):=by
     unfold dP;rw[if_neg (by rw[hsk];simp)];simp[List.getD,l2,hi]
    rw[hL]
    have hch:∀e∈toq x,bH on e (kI fnd L e):=fun e he=>by
     unfold kI;cases hf:fnd e with
     |none=>exact M.no e hf
     |some m=>
      obtain⟨hm,hfm,hkm⟩:=M.fd e m hf;have:=List.all_eq_true.1 hT e he;rw[hsub e m hf]at this;have h1:=IH m hm hkm this;rw[hfm]at h1;exact h1
    unfold lD;rw[<-JP];refine .node (M.at_ x hi hsk) (by simp) (fun j hj hv=>?_);simp only[List.getElem_map];exact hch _ (List.getElem_mem hj)
   have hT:T.getD i false=true:=by
    simpa[aX,List.getD,List.getElem?_set,e]using h
   have h1:=IH i hi hsk hT;have:(dP toq fnd skip L x).getD i []=L.getD i []:=by
    unfold dP;split
    ·rfl
    simp[List.getD,e]
   rw[this];exact h1
 exact key s.length s rfl hs
theorem VW(M:pT n frm toq fnd on skip)(s:List Nat)(hs:∀i∈s,i<n):∀(T:List (Li)),T.length=n->(∀i l,i<n->skip i=false->bH on (frm i) l->(T.getD i []).length<=l.length)->
  ∀i l,i<n->skip i=false->bH on (frm i) l->((s.foldl (dP toq fnd skip) T).getD i []).length<=l.length:=by
 induction s with
 |nil=>intro T _ h;exact h
 |cons x s ih=>
  intro T hl h;rw[List.foldl_cons];refine ih (fun i hi=>hs i (by simp[hi])) _ (by rw[tF,hl]) (fun i l hi hsk hf=>?_);have hx:=hs x (by simp);by_cases e:x=i
  ·subst e
   have hL:(dP toq fnd skip T x).getD x []=lD fnd T (toq x):=by
    unfold dP;rw[if_neg (by rw[hsk];simp)];simp[List.getD,hl,hi]
   rw[hL];cases hf with
   |leaf g=>rw[M.at_ x hi hsk]at g;cases g
   | @node _ to' vs g1 g2 g3=>
    rw[M.at_ x hi hsk]at g1;injection g1 with g1;subst g1;have key:∀(toq:Li)(vs:List (Li)),vs.length=toq.length->(∀i,(hi:i<toq.length)->(hv:i<vs.length)->bH on toq[i] vs[i])->(lD fnd T toq).length<=vs.flatten.length:=by
     intro toq;induction toq with
     |nil=>intro vs _ _;simp[lD]
     |cons e toq iht=>
      intro vs hvl hv;cases vs with
      |nil=>simp at hvl
      |cons v vs=>
       have h1:=iht vs (by simpa using hvl) (fun i g1 g2=>by have:=hv (i+1) (by simp;omega) (by simp;omega);simpa using this);have h0:=hv 0 (by simp) (by simp);simp only[List.getElem_cons_zero]at h0;have h2:(kI fnd T e).length<=v.length:=by
        unfold kI;cases hfe:fnd e with
        |none=>rw[(M.no e hfe).func h0];exact Nat.le_refl _
        |some m=>
         obtain⟨hm,hfm,hkm⟩:=M.fd e m hfe;exact h m v hm hkm (by rw[hfm];exact h0)
       unfold lD at h1|-;rw[List.flatMap_cons,List.length_append,List.flatten_cons,List.length_append];omega
    exact key _ _ g2 g3
  have:(dP toq fnd skip T x).getD i []=T.getD i []:=by
   unfold dP;split
   ·rfl
   simp[List.getD,e]
  rw[this];exact h i l hi hsk hf
end
def zH(ms:List Mp)(compat:Bool):List (Li):=nS (toM ms) (aT ms compat) (dZ ms compat) ms.length ms.length
def dcM(ms:List Mp)(compat:Bool)(c:Int):Li:=kI (aT ms compat) (zH ms compat) c
section
variable {ms:List Mp}
theorem tO(hh:c_ ms)(compat:Bool){e:Int}(h:aT ms compat e=N):bH (onM ms compat) e (Hg.decomp e):=by
 by_cases h4:4<=Hg.kind e
 ·obtain⟨d1,d2⟩:=kY h4
  have hon:onM ms compat e=Z (Hg.decomp e):=if_pos h4
  have:=bH.node (on:=onM ms compat) (vs:=(Hg.decomp e).map (fun x=>[x])) hon (by simp) (fun i h1 h2=>by
   simp only[List.getElem_map]
   obtain⟨_,g2,g3⟩:=d2 _ (List.getElem_mem h1)
   refine .leaf (xR hh compat g3 ?_)
   unfold hk at g2
   split at g2
   ·cases g2
   ·omega)
  have e1:((Hg.decomp e).map (fun x=>[x])).flatten=Hg.decomp e:=by rw[<-List.flatMap_def];simp
  rw[e1]at this;exact this
 rw[mW (by omega)];refine .leaf ?_;unfold onM;rw[if_neg h4,h];rfl
theorem o_(hs:StF ms)(hh:c_ ms)(compat:Bool):pT ms.length (jF ms) (toM ms) (aT ms compat) (onM ms compat) (dZ ms compat):=by
 refine⟨fun i hi hk=>?_,fun e m h=>?_,fun e h=>tO hh compat h⟩
 ·rw[fT hi,mB hs hh compat hi,mH hi,if_pos]
  unfold dZ at hk;cases compat<;>simp_all [List.getD]
 obtain⟨hi,h1,h2⟩:=gP h;refine⟨hi,by rw[fT hi];exact h1,?_⟩;unfold dZ;rcases h2 with h2|h2
 ·rw[h2];rfl
 simp[List.getD,hi,h2]
theorem CW(hs:StF ms)(hh:c_ ms)(he:dG ms=true)(hl:fW ms=false)(compat:Bool):∀i,i<ms.length->∃l,bH (onM ms compat) (jF ms i) l/\l.length<=64:=by
 intro i hi;have h1:=nJ hs hh he compat i hi;have hle:(nI ms compat).getD i 0<=64:=by
  unfold fW at hl;have:=List.any_eq_false.1 hl i (List.mem_range.2 hi);simp at this;cases compat
  ·simpa using this.1
  simpa using this.2
 obtain⟨l,g1,g2⟩:=h1.full (by unfold aK;omega);rw[fT hi];refine⟨l,g1,?_⟩;have:=g2 (by unfold aK;omega);omega
def eT(ms:List Mp)(compat:Bool)(T:List (Li)):Prop:=T.length=ms.length/\∀i l,i<ms.length->dZ ms compat i=false->bH (onM ms compat) (jF ms i) l->(T.getD i []).length<=l.length
theorem eT.start(ms:List Mp)(compat:Bool):eT ms compat (List.replicate ms.length []):=⟨by simp,fun i l hi _ _=>by simp[List.getD,hi]⟩
theorem eT.step(hs:StF ms)(hh:c_ ms){compat:Bool}{T:List (Li)}(h:eT ms compat T){i:Nat}(hi:i<ms.length):eT ms compat (dP (toM ms) (aT ms compat) (dZ ms compat) T i):=
 ⟨by rw[tF];exact h.1,VW (o_ hs hh compat) [i] (fun j hj=>by simp at hj;subst hj;exact hi) T h.1 h.2⟩
theorem eT.fold(hs:StF ms)(hh:c_ ms){compat:Bool}(s:List Nat):∀{T:List (Li)},eT ms compat T->(∀i∈s,i<ms.length)->eT ms compat (s.foldl (dP (toM ms) (aT ms compat) (dZ ms compat)) T):=by
 induction s with
 |nil=>intro T h _;exact h
 |cons x s ih=>intro T h hx;exact ih (h.step hs hh (hx x (by simp))) (fun i hi=>hx i (by simp[hi]))
theorem eT.rounds(hs:StF ms)(hh:c_ ms)(compat:Bool)(r:Nat):eT ms compat (nS (toM ms) (aT ms compat) (dZ ms compat) ms.length r):=by
 induction r with
 |zero=>exact eT.start ms compat
 |succ r ih=>exact ih.fold hs hh _ (fun i hi=>List.mem_range.1 hi)
def n_(ms:List Mp)(compat:Bool)(T:List (Li)):Prop:=∀i,dZ ms compat i=true->T.getD i []=[]
theorem n_.step{compat:Bool}{T:List (Li)}(h:n_ ms compat T)(i:Nat):n_ ms compat (dP (toM ms) (aT ms compat) (dZ ms compat) T i):=by
 intro j hj;unfold dP;split
 ·exact h j hj
 next hi=>
 have:i≠j:=fun e=>by subst e;exact hi hj
 have:=h j hj;simp_all [List.getD]
theorem eT.le64(hs:StF ms)(hh:c_ ms)(he:dG ms=true)(hl:fW ms=false){compat:Bool}{T:List (Li)}(h:eT ms compat T){i:Nat}(hi:i<ms.length)(hk:dZ ms compat i=false):(T.getD i []).length<=64:=by
 obtain⟨l,h1,h2⟩:=CW hs hh he hl compat i hi;have:=h.2 i l hi hk h1;omega
theorem VV(hs:StF ms)(hh:c_ ms)(he:dG ms=true)(compat:Bool){i:Nat}(hi:i<ms.length)(hk:dZ ms compat i=false):bH (onM ms compat) ms[i].frm ((zH ms compat).getD i []):=by
 have hfl:∀j∈(List.replicate ms.length (List.range ms.length)).flatten,j<ms.length:=fun j hj=>by
  obtain⟨l,h1,h2⟩:=List.mem_flatten.1 hj;rw[List.eq_of_mem_replicate h1]at h2;exact List.mem_range.1 h2
 have h0:=VX (o_ hs hh compat) (vW hs compat) (List.replicate ms.length (List.range ms.length)).flatten hfl i hi hk;have e1:=oS (aX (toM ms) (aT ms true)) ms.length (bZ ms.length (toM ms) (aT ms true)) (fun _=>rfl) ms.length;have e2:=oS (dP (toM ms) (aT ms compat) (dZ ms compat)) ms.length (nS (toM ms) (aT ms compat) (dZ ms compat) ms.length) (fun _=>rfl) ms.length;simp only[bZ,nS]at e1 e2;rw[e1,e2]at h0;have hl:=(mE ms.length (toM ms) (aT ms true) ms.length).1;have:(bZ ms.length (toM ms) (aT ms true) ms.length).getD i false=true:=by
  unfold dG at he;have hi':i<(bZ ms.length (toM ms) (aT ms true) ms.length).length:=by rw[hl];exact hi
  have:=List.all_eq_true.1 he _ (List.getElem_mem hi');simpa[List.getD,hi']using this
 have h1:=h0 this;rw[fT hi]at h1;exact h1
theorem mV(hs:StF ms)(hh:c_ ms)(he:dG ms=true)(compat:Bool)(c:Int):bH (onM ms compat) c (dcM ms compat c):=by
 unfold dcM kI;cases hf:aT ms compat c with
 |none=>exact tO hh compat hf
 |some m=>
  obtain⟨hm,h1,_⟩:=gP hf;have hk:=((o_ hs hh compat).fd c m hf).2.2;have:=VV hs hh he compat hm hk;rw[h1]at this;exact this
theorem vC(hs:StF ms)(hh:c_ ms)(he:dG ms=true)(hl:fW ms=false)(compat:Bool)(c:Int):(dcM ms compat c).length<=64:=by
 unfold dcM kI;cases hf:aT ms compat c with
 |none=>
  by_cases h4:4<=Hg.kind c
  ·have:=(kY h4).1;dsimp only;omega
  dsimp only;rw[mW (by omega)];simp
 |some m=>
  obtain⟨hm,h1,_⟩:=gP hf;have hk:=((o_ hs hh compat).fd c m hf).2.2;exact(eT.rounds hs hh compat ms.length).le64 hs hh he hl hm hk
theorem GX(hs:StF ms)(hh:c_ ms)(he:dG ms=true)(compat:Bool){c e:Int}(h:e∈dcM ms compat c):dcM ms compat e=[e]:=
 (mV hs hh he compat e).func (.leaf ((mV hs hh he compat c).done e h))
end
end
namespace Srt
section
variable {α:Type}{key:α->Int}
theorem SortedOn.le{d:List α}{a b i j:Nat}(h:SortedOn key d a b)(h1:a<=i)(h2:i<=j)(h3:j<b):kf key d i<=kf key d j:=by
 by_cases e:i=j
 ·subst e;exact Int.le_refl _
 exact h i j h1 (by omega) h3
theorem found_of{d:List α}{a m b st s0 r0:Nat}(ham:a<m)(h1:SortedOn key d a m)(h2:SortedOn key d m b)
  (hs:((a+b)/2<m/\s0=(a+b)/2+m-b/\r0=(a+b)/2)\/(m<=(a+b)/2/\s0=a/\r0=m))
  (hlo:s0<=st) (hhi:st<=r0) (hyes:∀c,s0<=c->c<st->kf key d c<=kf key d ((a+b)/2+m-1-c)) (hno:∀c,st<=c->c<r0->kf key d ((a+b)/2+m-1-c)<kf key d c) :
  Found key d a m b st:=by
 generalize hM:(a+b)/2=M at *;have hM1:2*M<=a+b:=by omega
 have hM2:a+b<=2*M+1:=by omega
 have e1:a<=st:=by omega
 have e2:st<=m:=by omega
 have e3:st<=M:=by omega
 have e4:M+m-st<=b:=by omega
 refine⟨e1,e2,?_,?_,?_,?_,?_⟩
 ·rw[hM];omega
 ·rw[hM];exact e4
 ·rw[hM];exact e3
 ·intro i j g1 g2 g3 g4
  rw[hM]at g3;by_cases e:s0<st
  ·have k1:=hyes (st-1) (by omega) (by omega)
   rw[show M+m-1-(st-1)=M+m-st by omega]at k1;have k2:=h1.le (i:=i) (j:=st-1) g1 (by omega) (by omega);have k3:=h2.le (i:=M+m-st) (j:=j) (by omega) g3 g4;omega
  omega
 intro i j g1 g2 g3 g4;rw[hM]at g4;by_cases e:st<r0
 ·have k1:=hno st (Nat.le_refl _) e
  have k2:=h1.le (i:=st) (j:=i) e1 g1 g2;have k3:=h2.le (i:=j) (j:=M+m-1-st) g3 (by omega) (by omega);omega
 omega
theorem rot_triv{d:List α}{a m b:Nat}(h1:a<=m)(h2:m<=b)(h:a=m\/m=b):Rot d d a m b:=by
 refine⟨rfl,fun t=>?_⟩;(repeat' split)<;>first|rfl|(congr 1;omega)
theorem seg_mem{d d':List α}{a b:Nat}(hs:Same d d' a b)(ht:St key d d')(hab:a<=b)(hb:b<=d.length){i:Nat}(h1:a<=i)(h2:i<b):
  ∃i',a<=i'/\i' < b/\d'[i]?=d[i']?:=by
 have p1:=parts d a a b (Nat.le_refl _) hab;have p2:=parts d' a a b (Nat.le_refl _) hab;simp only[Nat.sub_self,List.take_zero,List.nil_append]at p1 p2;have t1:d'.take a=d.take a:=by
  apply List.ext_getElem?;intro t;simp only[List.getElem?_take];split
  ·exact hs.2 t (by omega)
  rfl
 have t2:d'.drop b=d.drop b:=by
  apply List.ext_getElem?;intro t;simp only[List.getElem?_drop];exact hs.2 _ (by omega)
 rw[t1,t2]at p2;have hlen:i<d'.length:=by rw[hs.1];omega
 obtain⟨x,hx⟩:∃x,d'[i]?=Z x:=⟨_,List.getElem?_eq_getElem hlen⟩;have hf:=ht (key x);rw[p1,p2]at hf;simp only[List.filter_append,List.append_assoc,List.append_cancel_left_eq,List.append_cancel_right_eq]at hf;have hmem:x∈((d'.drop a).take (b-a)).filter (fun y=>key y==key x):=by
  rw[List.mem_filter];refine⟨?_,by simp⟩;rw[List.mem_iff_getElem?];refine⟨i-a,?_⟩;rw[List.getElem?_take,if_pos (by omega),List.getElem?_drop,show a+(i-a)=i by omega,hx]
 rw[hf,List.mem_filter]at hmem;obtain⟨q,hq⟩:=List.mem_iff_getElem?.1 hmem.1;rw[List.getElem?_take]at hq;split at hq
 ·rw[List.getElem?_drop]at hq
  exact⟨a+q,by omega,by omega,by rw[hx,hq]⟩
 cases hq
theorem seg_kf{d d':List α}{a b:Nat}(hs:Same d d' a b)(ht:St key d d')(hab:a<=b)(hb:b<=d.length){i:Nat}(h1:a<=i)(h2:i<b):
  ∃i',a<=i'/\i' < b/\kf key d' i=kf key d i':=by
 obtain⟨i',g1,g2,g3⟩:=seg_mem hs ht hab hb h1 h2;exact⟨i',g1,g2,by unfold kf;rw[g3]⟩
theorem Done.refl_of{d:List α}{a b:Nat}(h:SortedOn key d a b):Done key d d a b:=⟨Same.refl _ _ _,St.refl _,h⟩
theorem left_done{d1 d2:List α}{a st M:Nat}(h1:SortedOn key d1 a st)(h2:SortedOn key d1 st M)(g1:a<st/\st<M->Done key d1 d2 a M)(g2:¬(a<st/\st<M)->d2=d1)(hast:a<=st)(hstM:st<=M):Done key d1 d2 a M:=by
 by_cases h:a<st/\st<M
 ·exact g1 h
 rw[g2 h];refine Done.refl_of ?_;by_cases e:a=st
 ·subst e;exact h2
 obtain rfl:st=M:=by omega
 exact h1
theorem both_done{d d1 d2 d3:List α}{a M b:Nat}(haM:a<=M)(hMb:M<=b)(hb:b<=d.length)(h0:Same d d1 a b)(t0:St key d d1)
  (hx:∀i j,a<=i->i<M->M<=j->j<b->kf key d1 i<=kf key d1 j) (hl:Done key d1 d2 a M) (hr:Done key d2 d3 M b):Done key d d3 a b:=by
 refine⟨(h0.trans (hl.1.mono (Nat.le_refl _) hMb)).trans (hr.1.mono haM (Nat.le_refl _)),(t0.trans hl.2.1).trans hr.2.1,?_⟩;refine SortedOn.join (hl.2.2.same hr.1 (.inl (Nat.le_refl _))) hr.2.2 ?_;intro i j g1 g2 g3 g4;rw[hr.1.kf (t:=i) (by omega)];obtain⟨i',a1,a2,a3⟩:=seg_kf hl.1 hl.2.1 haM (by rw[h0.1];omega) g1 g2;obtain⟨j',b1,b2,b3⟩:=seg_kf hr.1 hr.2.1 hMb (by rw[hl.1.1,h0.1];omega) g3 g4;rw[a3,b3,hl.1.kf (t:=j') (by omega)];exact hx i' j' a1 a2 b1 b2
def Bl(key:α->Int)(d:List α)(bs s n:Nat):Prop:=∀r,SortedOn key d (s+r*bs) (min (s+(r+1)*bs) n)
theorem Bl.first{d:List α}{bs s n:Nat}(h:Bl key d bs s n):SortedOn key d s (min (s+bs) n):=by
 have:=h 0;simpa using this
theorem Bl.next{d:List α}{bs s n:Nat}(h:Bl key d bs s n):Bl key d bs (s+bs) n:=by
 intro r;have:=h (r+1);rw[show s+bs+r*bs=s+(r+1)*bs by rw[Nat.add_mul];omega,show s+bs+(r+1)*bs=s+(r+1+1)*bs by rw[Nat.add_mul (r+1)];omega];exact this
theorem Bl.same{d d':List α}{bs s n x y:Nat}(h:Bl key d bs s n)(hs:Same d d' x y)(hd:y<=s):Bl key d' bs s n:=fun r=>(h r).same hs (.inr (by omega))
theorem Bl.all{d:List α}{bs n:Nat}(h:Bl key d bs 0 n)(hn:n<=bs):SortedOn key d 0 n:=by
 have:=h.first
 rw[Nat.zero_add,Nat.min_eq_right hn]at this;exact this
def Pf(key:α->Int)(d:List α)(bs q:Nat):Prop:=∀r,r<q->SortedOn key d (r*bs) (r*bs+bs)
theorem Pf.zero{d:List α}{bs:Nat}:Pf key d bs 0:=fun r h=>by omega
theorem Pf.succ{d d':List α}{bs q:Nat}(h:Pf key d bs q)(hs:Same d d' (q*bs) (q*bs+bs))(hn:SortedOn key d' (q*bs) (q*bs+bs)):Pf key d' bs (q+1):=by
 intro r hr;by_cases e:r=q
 ·subst e;exact hn
 refine(h r (by omega)).same hs (.inl ?_);have:=Nat.mul_le_mul_right bs (show r+1<=q by omega);rw[Nat.add_mul]at this;omega
theorem Bl.of_pf{d d':List α}{bs q n:Nat}(h:Pf key d bs q)(hq:q*bs<=n)(hn:n<q*bs+bs)(hs:Same d d' (q*bs) n)(hl:SortedOn key d' (q*bs) n):Bl key d' bs 0 n:=by
 intro r;rw[Nat.zero_add,Nat.zero_add];by_cases e:r<q
 ·have h1:=Nat.mul_le_mul_right bs (show r+1<=q by omega)
  rw[Nat.min_eq_left (by omega),Nat.add_mul];rw[Nat.add_mul]at h1;rw[Nat.one_mul];exact(h r e).same hs (.inl (by omega))
 by_cases e2:r=q
 ·subst e2
  rw[Nat.min_eq_right (by rw[Nat.add_mul];omega)];exact hl
 have h1:=Nat.mul_le_mul_right bs (show q+1<=r by omega);rw[Nat.add_mul]at h1;intro i j g1 g2 g3;omega
theorem rot_snoc{d d1:List α}{a k:Nat}{x y:α}(h:Rot d d1 a (a+1) (k+1))(hak:a<=k)(hx:d1[k]?=Z x)(hy:d1[k+1]?=Z y):Rot d (swp d1 k (k+1) x y) a (a+1) (k+2):=by
 refine⟨(swp_len _ _ _ _ _).trans h.1,fun t=>?_⟩;rw[swp_get d1 k (k+1) t x y hx hy (by omega),h.2,h.2,h.2];(repeat' split)<;>first|rfl|omega|(congr 1;omega)
theorem rot_cons{d d1:List α}{k m:Nat}{x y:α}(h:Rot d d1 (k+1) m (m+1))(hkm:k+1<=m)(hx:d1[k]?=Z x)(hy:d1[k+1]?=Z y):Rot d (swp d1 k (k+1) x y) k m (m+1):=by
 refine⟨(swp_len _ _ _ _ _).trans h.1,fun t=>?_⟩;rw[swp_get d1 k (k+1) t x y hx hy (by omega),h.2,h.2,h.2];(repeat' split)<;>first|rfl|omega|(congr 1;omega)
end
end Srt
namespace Srt
def Stp{α:Type}(key:α->Int):List α->List (Nat×Nat)->List α->Prop
 |d,[],d'=>d'=d
 |d,r::rs,d'=>∃d1,Done key d d1 r.1 r.2/\Stp key d1 rs d'
theorem Stp.snoc{α:Type}{key:α->Int}{d d1 d2:List α}{rs:List (Nat×Nat)}{r:Nat×Nat}(h:Stp key d rs d1)(hd:Done key d1 d2 r.1 r.2):Stp key d (rs++[r]) d2:=by
 induction rs generalizing d with
 |nil=>cases h;exact⟨d2,hd,rfl⟩
 |cons a rs ih=>obtain⟨x,h1,h2⟩:=h;exact⟨x,h1,ih h2⟩
theorem Stp.len{α:Type}{key:α->Int}{d d1:List α}{rs:List (Nat×Nat)}(h:Stp key d rs d1):d1.length=d.length:=by
 induction rs generalizing d with
 |nil=>cases h;rfl
 |cons a rs ih=>obtain⟨x,h1,h2⟩:=h;exact(ih h2).trans h1.1.1
theorem Done.lift{α:Type}{key:α->Int}{p s s' q:List α}(h:Done key s s' 0 s.length):Done key (p++s++q) (p++s'++q) p.length (p.length+s.length):=by
 obtain⟨⟨hl,hs⟩,ht,ho⟩:=h;refine⟨⟨by simp[hl],fun t ht=>?_⟩,St.append (St.append (St.refl _) ht) (St.refl _),fun i j h1 h2 h3=>?_⟩
 ·simp only[List.getElem?_append,List.length_append,hl]
  by_cases c1:t<p.length
  ·rw[if_pos (by omega),if_pos c1,if_pos (by omega),if_pos c1]
  rw[if_neg (by omega),if_neg (by omega)]
 have e:∀t,p.length<=t->t<p.length+s.length->kf key (p++s'++q) t=kf key s' (t-p.length):=by
  intro t g1 g2;unfold kf;rw[List.append_assoc,List.getElem?_append_right g1,List.getElem?_append_left (by omega)]
 rw[e i h1 (by omega),e j (by omega) h3];exact ho _ _ (by omega) (by omega) (by omega)
end Srt
namespace Can
section
variable (cl:Int->Int)
def F(k:Int)(l:Li):Li:=l.filter fun x=>cl x==k||cl x==0
def Inv(a b:Li):Prop:=∀k,F cl k a=F cl k b
def Ok:Li->Prop
 | []=>True
 | [_]=>True
 |x::y::r=>(cl y≠0->cl x<=cl y)/\Ok (y::r)
def insF(c:Int):Li->Li
 | []=>[c]
 |y::r=>if cl y≠0/\cl y<cl c then y::insF c r else c::y::r
def srt:Li->Li
 | []=>[]
 |c::r=>insF cl c (srt r)
def Z(l:Li):List (Option Int):=l.map fun x=>if cl x=0 then some x else N
end
section
variable {cl:Int->Int}
theorem F_append(k:Int)(a b:Li):F cl k (a++b)=F cl k a++F cl k b:=by simp[F]
theorem F_cons(k x:Int)(l:Li):F cl k (x::l)=if cl x=k\/cl x=0 then x::F cl k l else F cl k l:=by
 by_cases h:cl x=k\/cl x=0
 ·rw[if_pos h];exact List.filter_cons_of_pos (by simpa using h)
 rw[if_neg h];exact List.filter_cons_of_neg (by simpa using h)
theorem Inv.refl(a:Li):Inv cl a a:=fun _=>rfl
theorem Inv.symm{a b:Li}(h:Inv cl a b):Inv cl b a:=fun k=>(h k).symm
theorem Inv.trans{a b c:Li}(h:Inv cl a b)(g:Inv cl b c):Inv cl a c:=fun k=>(h k).trans (g k)
theorem Inv.append{a b c d:Li}(h:Inv cl a b)(g:Inv cl c d):Inv cl (a++c) (b++d):=fun k=>by rw[F_append,F_append,h k,g k]
theorem Inv.cons(x:Int){a b:Li}(h:Inv cl a b):Inv cl (x::a) (x::b):=fun k=>by rw[F_cons,F_cons,h k]
theorem Inv.swap{x y:Int}(l:Li)(hx:cl x≠0)(hy:cl y≠0)(hne:cl x≠cl y):Inv cl (x::y::l) (y::x::l):=fun k=>by
 simp only[F_cons];by_cases h1:cl x=k
 ·rw[if_pos (c:=cl x=k\/cl x=0) (.inl h1),if_pos (c:=cl x=k\/cl x=0) (.inl h1),if_neg (by omega),if_neg (by omega)]
 rw[if_neg (c:=cl x=k\/cl x=0) (by omega),if_neg (c:=cl x=k\/cl x=0) (by omega)]
theorem Ok.tail{x:Int}{l:Li}(h:Ok cl (x::l)):Ok cl l:=by
 cases l with
 |nil=>trivial
 |cons y r=>exact h.2
theorem Ok.first{k:Int}{l:Li}{x:Int}{r:Li}(h:Ok cl l)(hk:cl x≠0)(e:F cl k l=x::r)(y:Int)(t:Li)(hl:l=y::t):cl y<=cl x:=by
 induction l generalizing y t with
 |nil=>cases hl
 |cons z l ih=>
  obtain⟨rfl,rfl⟩:z=y/\l=t:=by simpa using hl
  rw[F_cons]at e;split at e
  ·injection e with e1 _;rw[e1];exact Int.le_refl _
  cases l with
  |nil=>simp[F]at e
  |cons u v=>
   have h1:=ih h.tail e u v rfl;by_cases hu:cl u=0
   ·rw[F_cons,if_pos (.inr hu)]at e
    injection e with e1 _;rw[e1]at hu;exact absurd hu hk
   have:=h.1 hu;omega
theorem canon_unique:∀{a b:Li},Inv cl a b->Ok cl a->Ok cl b->a=b
 | [],[],_,_,_=>rfl
 | [],y::b,h,_,_=>by have:=h (cl y);rw[F_cons,if_pos (.inl rfl)]at this;cases this
 |x::a,[],h,_,_=>by have:=h (cl x);rw[F_cons,if_pos (.inl rfl)]at this;cases this
 |x::a,y::b,h,ha,hb=>by
  have hxy:x=y:=by
   by_cases hx:cl x=0
   ·have e:=h (cl y)
    rw[F_cons,if_pos (.inr hx),F_cons,if_pos (.inl rfl)]at e;injection e
   by_cases hy:cl y=0
   ·have e:=h (cl x)
    rw[F_cons,if_pos (.inl rfl),F_cons,if_pos (.inr hy)]at e;injection e
   have e1:=h (cl x);rw[F_cons,if_pos (.inl rfl)]at e1;have h1:=hb.first hx e1.symm y b rfl
   have e2:=h (cl y);rw[F_cons (l:=b),if_pos (.inl rfl)]at e2;have h2:=ha.first hy e2 x a rfl
   have e3:cl x=cl y:=by omega
   rw[F_cons,if_pos (.inl e3.symm)]at e1;injection e1
  subst hxy
  have:=canon_unique (a:=a) (b:=b) (fun k=>by
   have e:=h k
   rw[F_cons,F_cons]at e
   split at e
   ·injection e
   ·exact e) ha.tail hb.tail
  rw[this]
theorem insF_inv(hcl:∀x,0<=cl x)(c:Int)(l:Li):Inv cl (c::l) (insF cl c l):=by
 induction l with
 |nil=>exact Inv.refl _
 |cons y r ih=>
  unfold insF;split
  ·rename_i h
   exact(Inv.swap r (by have:=hcl y;omega) h.1 (by omega)).trans (ih.cons y)
  exact Inv.refl _
theorem insF_head(c:Int)(l:Li):∃y r,insF cl c l=y::r/\(y=c\/∃t,l=y::t):=by
 cases l with
 |nil=>exact⟨c,[],rfl,.inl rfl⟩
 |cons y r=>
  unfold insF;split
  ·exact⟨y,_,rfl,.inr ⟨r,rfl⟩⟩
  exact⟨c,_,rfl,.inl rfl⟩
theorem insF_ok(c:Int)(l:Li)(h:Ok cl l):Ok cl (insF cl c l):=by
 induction l with
 |nil=>trivial
 |cons y r ih=>
  unfold insF;split
  ·rename_i hc
   obtain⟨z,t,hz,hor⟩:=insF_head (cl:=cl) c r;have:=ih h.tail;rw[hz]at this|-;refine⟨fun hne=>?_,this⟩;rcases hor with rfl|⟨t',rfl⟩
   ·omega
   exact h.1 hne
  rename_i hc;exact⟨fun hne=>by by_cases g:cl y<cl c;exact absurd ⟨hne,g⟩ hc;omega,h⟩
theorem insF_perm(c:Int)(l:Li):(insF cl c l).Perm (c::l):=by
 induction l with
 |nil=>exact .refl _
 |cons y r ih=>
  unfold insF;split
  ·exact(ih.cons y).trans (.swap c y r)
  exact .refl _
theorem srt_inv(hcl:∀x,0<=cl x)(l:Li):Inv cl l (srt cl l):=by
 induction l with
 |nil=>exact Inv.refl _
 |cons c r ih=>exact(ih.cons c).trans (insF_inv hcl c _)
theorem srt_ok(l:Li):Ok cl (srt cl l):=by
 induction l with
 |nil=>trivial
 |cons c r ih=>exact insF_ok c _ ih
theorem srt_perm(l:Li):(srt cl l).Perm l:=by
 induction l with
 |nil=>exact .refl _
 |cons c r ih=>exact(insF_perm c _).trans (ih.cons c)
theorem srt_len(l:Li):(srt cl l).length=l.length:=(srt_perm l).length_eq
theorem srt_eq(hcl:∀x,0<=cl x){l d:Li}(h:Inv cl l d)(ho:Ok cl d):d=srt cl l:=canon_unique (h.symm.trans (srt_inv hcl l)) ho (srt_ok l)
theorem srt_of_inv(hcl:∀x,0<=cl x){a b:Li}(h:Inv cl a b):srt cl a=srt cl b:=srt_eq hcl (h.symm.trans (srt_inv hcl a)) (srt_ok a)
theorem inv_of_srt(hcl:∀x,0<=cl x){a b:Li}(h:srt cl a=srt cl b):Inv cl a b:=(srt_inv hcl a).trans (by rw[h];exact(srt_inv hcl b).symm)
theorem Ok.append{a b:Li}(ha:Ok cl a)(hb:Ok cl b)(h:∀y t,b=y::t->cl y=0):Ok cl (a++b):=by
 induction a with
 |nil=>exact hb
 |cons x a ih=>
  cases a with
  |nil=>
   cases b with
   |nil=>trivial
   |cons y t=>exact⟨fun hne=>absurd (h y t rfl) hne,hb⟩
  |cons x' a'=>exact⟨ha.1,ih ha.2⟩
theorem exchange(hcl:∀x,0<=cl x)(p q:Li)(x y:Int):srt cl (p++x::y::q)=srt cl (p++y::x::q) ↔ (cl x≠0/\cl y≠0/\cl x≠cl y)\/x=y:=by
 constructor
 ·intro h
  by_cases hxy:x=y
  ·exact .inr hxy
  refine .inl ?_;have hi:=inv_of_srt hcl h;have key:∀k,(cl x=k\/cl x=0)->(cl y=k\/cl y=0)->False:=by
   intro k h1 h2;have e:=hi k;rw[F_append,F_append,F_cons,F_cons,F_cons,F_cons]at e;simp only[if_pos h1,if_pos h2]at e;have e2:=List.append_cancel_left e;simp only[List.cons.injEq]at e2;exact hxy e2.1
  exact⟨fun h0=>key (cl y) (.inr h0) (.inl rfl),fun h0=>key (cl x) (.inl rfl) (.inr h0),fun h0=>key (cl x) (.inl rfl) (.inl h0.symm)⟩
 rintro(⟨h1,h2,h3⟩|rfl)
 ·exact srt_of_inv hcl ((Inv.refl p).append (Inv.swap q h1 h2 h3))
 rfl
end
section
open Srt
variable {cl:Int->Int}
theorem inv_of_st{s s':Li}(h:St cl s s')(hz:∀x∈s,cl x≠0):Inv cl s s':=by
 have h0:s'.filter (fun x=>cl x==0)=[]:=by
  rw[h 0];exact List.filter_eq_nil_iff.2 fun x hx=>by simpa using hz x hx
 have hz':∀x∈s',cl x≠0:=fun x hx e=>by
  have:x∈s'.filter (fun x=>cl x==0):=List.mem_filter.2 ⟨hx,by simpa using e⟩;rw[h0]at this;cases this
 intro k
 have e:∀l:Li,(∀x∈l,cl x≠0)->F cl k l=l.filter (fun x=>cl x==k):=fun l hl=>by
  unfold F;refine List.filter_congr fun x hx=>?_
  have:=hl x hx;simp[this]
 rw[e s hz,e s' hz',h k]
theorem ok_of_sorted{s:Li}(h:SortedOn cl s 0 s.length):Ok cl s:=by
 induction s with
 |nil=>trivial
 |cons x s ih=>
  have ht:SortedOn cl s 0 s.length:=fun i j _ h2 h3=>by
   have:=h (i+1) (j+1) (by omega) (by omega) (by simpa using h3);simpa[kf]using this
  cases s with
  |nil=>trivial
  |cons y r=>
   refine⟨fun _=>?_,ih ht⟩;have:=h 0 1 (by omega) (by omega) (by simp);simpa[kf]using this
theorem done_cut{p o q d:Li}{s i:Nat}(hs:p.length=s)(hi:s+o.length=i)(h:Done cl (p++o++q) d s i):
  ∃o',d=p++o'++q/\o'.length=o.length/\St cl o o'/\SortedOn cl o' 0 o'.length:=by
 obtain⟨⟨hl,hsame⟩,hst,hso⟩:=h;refine⟨(d.drop s).take o.length,?_,?_,?_,?_⟩
 case _=>
  apply List.ext_getElem?;intro t;have hlen:((d.drop s).take o.length).length=o.length:=by simp at hl|-;omega
  by_cases c1:t<s
  ·rw[hsame t (.inl c1),List.append_assoc,List.append_assoc,List.getElem?_append_left (by omega),List.getElem?_append_left (by omega)]
  by_cases c2:t<i
  ·rw[List.append_assoc,List.getElem?_append_right (by omega),List.getElem?_append_left (by omega),List.getElem?_take,if_pos (by omega),List.getElem?_drop]
   congr 1;omega
  rw[hsame t (.inr (by omega)),List.append_assoc,List.append_assoc,List.getElem?_append_right (by omega),List.getElem?_append_right (by omega),List.getElem?_append_right (by omega),List.getElem?_append_right (by omega),hlen]
 case _=>simp at hl|-;omega
 all_goals
  have hd:d=p++(d.drop s).take o.length++q:=by
   apply List.ext_getElem?;intro t;have hlen:((d.drop s).take o.length).length=o.length:=by simp at hl|-;omega
   by_cases c1:t<s
   ·rw[hsame t (.inl c1),List.append_assoc,List.append_assoc,List.getElem?_append_left (by omega),List.getElem?_append_left (by omega)]
   by_cases c2:t<i
   ·rw[List.append_assoc,List.getElem?_append_right (by omega),List.getElem?_append_left (by omega),List.getElem?_take,if_pos (by omega),List.getElem?_drop]
    congr 1;omega
   rw[hsame t (.inr (by omega)),List.append_assoc,List.append_assoc,List.getElem?_append_right (by omega),List.getElem?_append_right (by omega),List.getElem?_append_right (by omega),List.getElem?_append_right (by omega),hlen]
  have hlen:((d.drop s).take o.length).length=o.length:=by simp at hl|-;omega
  generalize (d.drop s).take o.length=o' at *;subst hd
 ·intro k
  have:=hst k;simp only[List.filter_append,List.append_assoc]at this;have:=List.append_cancel_left this;exact List.append_cancel_right this
 intro a b h1 h2 h3;have e:∀t,t<o'.length->kf cl (p++o'++q) (s+t)=kf cl o' t:=by
  intro t ht;unfold kf;rw[List.append_assoc,List.getElem?_append_right (by omega),List.getElem?_append_left (by omega),show s+t-p.length=t by omega]
 rw[<-e a (by omega),<-e b h3];exact hso _ _ (by omega) (by omega) (by omega)
theorem stp_canon(hcl:∀x,0<=cl x)(rest:Li):
  (∀(p d:Li),Stp cl (p++rest) (rns cl rest p.length N) d->∃d1,d=p++d1/\Inv cl rest d1/\Ok cl d1)/\
  (∀(p o d:Li),(∀x∈o,cl x≠0)->Stp cl (p++o++rest) (rns cl rest (p.length+o.length) (some p.length)) d->∃d1,d=p++d1/\Inv cl (o++rest) d1/\Ok cl d1):=by
 induction rest with
 |nil=>
  refine⟨fun p d h=>?_,fun p o d ho h=>?_⟩
  ·cases h;exact⟨[],rfl,Inv.refl _,trivial⟩
  obtain⟨d1,hd,rfl⟩:=h;obtain⟨o',rfl,h1,h2,h3⟩:=done_cut rfl rfl hd;exact⟨o',by simp,by rw[List.append_nil];exact inv_of_st h2 ho,ok_of_sorted h3⟩
 |cons c r ih=>
  refine⟨fun p d h=>?_,fun p o d ho h=>?_⟩
  ·unfold rns at h
   by_cases hc:cl c=0
   ·rw[if_pos hc]at h
    obtain⟨d1,rfl,h1,h2⟩:=ih.1 (p++[c]) d (by simpa using h);refine⟨c::d1,by simp,h1.cons c,?_⟩;cases d1 with
    |nil=>trivial
    |cons y t=>exact⟨fun _=>by have:=hcl y;omega,‹_›⟩
   rw[if_neg hc]at h;obtain⟨d1,rfl,h1,h2⟩:=ih.2 p [c] d (by simpa using hc) (by simpa using h);exact⟨d1,rfl,by simpa using h1,h2⟩
  unfold rns at h;by_cases hc:cl c=0
  ·rw[if_pos hc]at h
   obtain⟨d1,hd,h⟩:=h;obtain⟨o',rfl,h1,h2,h3⟩:=done_cut rfl rfl hd;obtain⟨d2,rfl,h4,h5⟩:=ih.1 (p++o'++[c]) d (by simpa[h1,Nat.add_assoc]using h);refine⟨o'++c::d2,by simp,(inv_of_st h2 ho).append (h4.cons c),(ok_of_sorted h3).append ?_ (fun y t e=>by injection e with e1 _;rw[<-e1];exact hc)⟩;cases d2 with
   |nil=>trivial
   |cons y t=>exact⟨fun _=>by have:=hcl y;omega,‹_›⟩
  rw[if_neg hc]at h;obtain⟨d1,rfl,h1,h2⟩:=ih.2 p (o++[c]) d (by simpa[or_imp,forall_and]using⟨ho,hc⟩) (by simpa[Nat.add_assoc]using h);exact⟨d1,rfl,by simpa using h1,h2⟩
theorem stp_srt(hcl:∀x,0<=cl x){text d:Li}(h:Stp cl text (rns cl text 0 N) d):d=srt cl text:=by
 obtain⟨d1,rfl,h1,h2⟩:=(stp_canon hcl text).1 [] d h;exact srt_eq hcl h1 h2
end
end Can
namespace Can
section
variable {cl:Int->Int}
end
end Can
section
end
namespace Cps
open Go.Proofs.YtkhmjidaeliccaaGreatDoor
structure CSt where
 pre:Li
 st:Option Int
 bt:Li
def CSt.out(s:CSt):Li:=s.pre++(s.st.toList++s.bt)
def s0:CSt:=⟨[],N,[]⟩
section
variable (cl:Int->Int)(pr:Int->Int->Option Int)
def free(s:CSt)(c:Int):Bool:=match s.bt.getLast? with|none=>true|some b=>decide (cl b<cl c)
def put(s:CSt)(c:Int):CSt:=if cl c=0 then⟨s.out,Z c,[]⟩else⟨s.pre,s.st,s.bt++[c]⟩
def join(s:CSt)(c:Int):Option Int:=match s.st with|some L=>if free cl s c=true then pr L c else N|none=>N
def step(s:CSt)(c:Int):CSt:=match join cl pr s c with|some p=>⟨s.pre,Z p,s.bt⟩|none=>put cl s c
def run(s:CSt)(t:Li):CSt:=t.foldl (step cl pr) s
def text(t:Li):Li:=(run cl pr s0 t).out
end
section
variable {cl:Int->Int}{pr:Int->Int->Option Int}
theorem put_out(s:CSt)(c:Int):(put cl s c).out=s.out++[c]:=by
 unfold put;split<;>simp[CSt.out]
theorem join_some{s:CSt}{c p:Int}(h:join cl pr s c=Z p):∃L,s.st=Z L/\free cl s c=true/\pr L c=Z p:=by
 unfold join at h;split at h
 ·next L hL=>
  split at h
  ·next hf=>exact⟨L,hL,hf,h⟩
  cases h
 cases h
theorem step_some{s:CSt}{c p:Int}(h:join cl pr s c=Z p):step cl pr s c=⟨s.pre,Z p,s.bt⟩:=by unfold step;rw[h]
theorem step_none{s:CSt}{c:Int}(h:join cl pr s c=N):step cl pr s c=put cl s c:=by unfold step;rw[h]
end
section
variable {cl:Int->Int}{pr:Int->Int->Option Int}{D:Int->Li}
theorem inv_move(c:Int)(q:Li)(hc:cl c≠0)(h:∀y∈q,cl y≠0/\cl y≠cl c):Can.Inv cl (c::q) (q++[c]):=by
 induction q with
 |nil=>exact Can.Inv.refl _
 |cons y r ih=>
  have hy:=h y (by simp);exact(Can.Inv.swap r hc hy.1 (fun e=>hy.2 e.symm)).trans ((ih (fun z hz=>h z (by simp[hz]))).cons y)
structure Und(cl:Int->Int)(D:Int->Li)(u:Li)(s:CSt):Prop where
 inv:Can.Inv cl (s.out.flatMap D) u
 bts:∀b∈s.bt,D b=[b]/\cl b≠0
 pw:s.bt.Pairwise (fun x y=>cl x<=cl y)
 top:∀b∈s.bt,∃x,u.getLast?=Z x/\cl b<=cl x
theorem flat_self{l:Li}(h:∀b∈l,D b=[b]):l.flatMap D=l:=by
 induction l with
 |nil=>rfl
 |cons b l ih=>rw[List.flatMap_cons,h b (by simp),ih (fun x hx=>h x (by simp[hx]))];rfl
theorem last_le{l:Li}(hp:l.Pairwise (fun x y=>cl x<=cl y)){b:Int}(hb:l.getLast?=Z b):∀x∈l,cl x<=cl b:=by
 obtain⟨r,rfl⟩:∃r,l=r++[b]:=by
  cases hl:l with
  |nil=>rw[hl]at hb;cases hb
  |cons x y=>
   rw[hl]at hb;refine⟨(x::y).dropLast,?_⟩;have h1:(x::y).getLast (by simp)=b:=by rw[List.getLast?_eq_some_getLast (by simp)]at hb;injection hb
   rw[<-h1,List.dropLast_concat_getLast]
 intro x hx;rcases List.mem_append.1 hx with hx|hx
 ·exact(List.pairwise_append.1 hp).2.2 x hx b (by simp)
 simp at hx;subst hx;omega
theorem Und.step(hcl:∀x,0<=cl x)(hD:∀L c p,pr L c=Z p->D p=D L++D c){u:Li}{s:CSt}{c:Int}(h:Und cl D u s)(hc:D c=[c])(hok:cl c≠0->∀x,u.getLast?=Z x->cl x<=cl c):Und cl D (u++[c]) (step cl pr s c):=by
 have hlast:(u++[c]).getLast?=Z c:=by simp
 have hlt:cl c≠0->∀b∈s.bt,cl b<=cl c:=fun h0 b hb=>by
  obtain⟨x,h1,h2⟩:=h.top b hb;have:=hok h0 x h1;omega
 cases hj:join cl pr s c with
 |none=>
  rw[step_none hj];have hi:Can.Inv cl ((put cl s c).out.flatMap D) (u++[c]):=by
   rw[put_out,List.flatMap_append];have:[c].flatMap D=[c]:=by simp[hc]
   rw[this];exact h.inv.append (Can.Inv.refl _)
  by_cases h0:cl c=0
  ·have e:(put cl s c).bt=[]:=by unfold put;rw[if_pos h0]
   exact⟨hi,by rw[e];simp,by rw[e];simp,by rw[e];simp⟩
  have e:(put cl s c).bt=s.bt++[c]:=by unfold put;rw[if_neg h0]
  refine⟨hi,?_,?_,?_⟩<;>rw[e]
  ·intro b hb
   rcases List.mem_append.1 hb with hb|hb
   ·exact h.bts b hb
   simp at hb;subst hb;exact⟨hc,h0⟩
  ·rw[List.pairwise_append]
   exact⟨h.pw,by simp,fun a ha b hb=>by simp at hb;subst hb;exact hlt h0 a ha⟩
  intro b hb;refine⟨c,hlast,?_⟩;rcases List.mem_append.1 hb with hb|hb
  ·exact hlt h0 b hb
  simp at hb;subst hb;omega
 |some p=>
  obtain⟨L,h1,h2,h3⟩:=join_some hj;rw[step_some hj];have hDp:=hD L c p h3;rw[hc]at hDp;have hall:∀b∈s.bt,cl b<cl c:=by
   intro b hb;unfold free at h2;cases hl:s.bt.getLast? with
   |none=>rw[List.getLast?_eq_none_iff]at hl;rw[hl]at hb;cases hb
   |some y=>
    rw[hl]at h2;have h4:cl y<cl c:=by simpa using h2
    have:=last_le h.pw hl b hb;omega
  refine⟨?_,h.bts,h.pw,fun b hb=>⟨c,hlast,by have:=hall b hb;omega⟩⟩;have e1:(CSt.out ⟨s.pre,Z p,s.bt⟩).flatMap D=s.pre.flatMap D++(D L++(c::s.bt)):=by
   simp[CSt.out,hDp,flat_self (fun b hb=>(h.bts b hb).1)]
  have e2:s.out.flatMap D++[c]=s.pre.flatMap D++(D L++(s.bt++[c])):=by
   simp[CSt.out,h1,flat_self (fun b hb=>(h.bts b hb).1)]
  rw[e1];have hmv:Can.Inv cl (c::s.bt) (s.bt++[c]):=by
   by_cases hb:s.bt=[]
   ·rw[hb];exact Can.Inv.refl _
   obtain⟨y,hy⟩:=List.exists_mem_of_ne_nil _ hb;have h5:=hall y hy;have h6:=hcl y;exact inv_move c _ (by omega) (fun z hz=>⟨(h.bts z hz).2,by have:=hall z hz;omega⟩)
  refine((Can.Inv.refl (cl:=cl) (s.pre.flatMap D)).append ((Can.Inv.refl (cl:=cl) (D L)).append hmv)).trans ?_;rw[<-e2];exact h.inv.append (Can.Inv.refl _)
end
end Cps
section
open Go.RowKit
def usN(x:Nrm):Nrm:=if bQ x=0 then x else⟨[],[],[]⟩
structure NOk(x:Nrm):Prop where
 st:StF x.dec
 hg:c_ x.dec
 co:fM x.dec
 en:dG x.dec=true
 lo:fW x.dec=false
 kd:∀m∈x.dec,m.tag.size=0->m.toq.length=1\/m.toq.length=2
theorem pK(x:Nrm):NOk (usN x):=by
 unfold usN;split
 ·next h=>
  obtain⟨c,h1,h2⟩:=xH h;refine⟨mO c.t,nV c.d,xA c.m,h1,h2,fun m hm ht=>?_⟩;have:=List.any_eq_false.1 c.k m hm;unfold dY at this;simp[ht]at this;omega
 exact⟨fun i j hi=>by simp at hi,fun i hi=>by simp at hi,fun i hi=>by simp at hi,rfl,rfl,fun m hm=>by simp at hm⟩
section
variable {x:Nrm}
end
end
section
open Go.RowKit Go.Maps Go.WideMaps
theorem yO{fn:Func}(hr:fn.results=#[.cell 2 28])(tmps:Array Value)(w:Wv){b:Nat}{v0 v1 v2:Value}(ha:tmps.getD 2 undef=.pointer (Z ⟨b,0,N⟩))
  (c0:w.cell? ⟨b,0,N⟩=Z v0) (c1:w.cell? ⟨b,1,N⟩=Z v1) (c2:w.cell? ⟨b,2,N⟩=Z v2) :
  (results fn tmps).run prog w=.ok (.agg #[v0,v1,v2]) w:=by
 unfold results;rw[hr];simp only[ha,List.mapM_toArray,List.mapM_cons,List.mapM_nil,asAddr];go_simp
theorem dC.empty(w:Wv):dC w N 0 N 0 N 0 ⟨[],[],[]⟩:=⟨Sl.nil _ _,Mps.nil _ _,Sl.nil _ _,rfl,rfl,rfl⟩
theorem zZ{x:Nrm}(h:¬bQ x=0):usN x=⟨[],[],[]⟩:=if_neg h
theorem z_{x:Nrm}(h:bQ x=0):usN x=x:=if_pos h
def usV(x:Nrm)(A0:Oa)(k0:Nat)(A1:Oa)(k1:Nat)(A2:Oa)(k2:Nat):Value:=if bQ x=0 then .agg #[H A0 x.cls.length k0,H A1 x.dec.length k1,H A2 x.exc.length k2]else .agg #[H N 0 0,H N 0 0,H N 0 0]
theorem AA{x:Nrm}(A0:Oa)(k0:Nat)(A1:Oa)(k1:Nat)(A2:Oa)(k2:Nat)(h:¬bQ x=0):usV x A0 k0 A1 k1 A2 k2=.agg #[H N 0 0,H N 0 0,H N 0 0]:=if_neg h
theorem AB{x:Nrm}(A0:Oa)(k0:Nat)(A1:Oa)(k1:Nat)(A2:Oa)(k2:Nat)(h:bQ x=0):usV x A0 k0 A1 k1 A2 k2=.agg #[H A0 x.cls.length k0,H A1 x.dec.length k1,H A2 x.exc.length k2]:=if_pos h
theorem WP{w:Wv}{A0:Oa}{n0:Nat}{A1:Oa}{n1:Nat}{A2:Oa}{n2:Nat}{x:Nrm}(h:dC w A0 n0 A1 n1 A2 n2 x)(k0 k1 k2:Nat):∃B0 c0 B1 c1 B2 c2,usV x A0 k0 A1 k1 A2 k2=.agg #[H B0 (usN x).cls.length c0,H B1 (usN x).dec.length c1,H B2 (usN x).exc.length c2]/\
  ∀W,By w W->dC W B0 (usN x).cls.length B1 (usN x).dec.length B2 (usN x).exc.length (usN x):=by
 by_cases hc:bQ x=0
 ·rw[z_ hc,AB _ _ _ _ _ _ hc]
  exact⟨_,_,_,_,_,_,rfl,fun W hb=>⟨h.s0.below hb,h.s1.below hb,h.s2.below hb,rfl,rfl,rfl⟩⟩
 rw[zZ hc,AA _ _ _ _ _ _ hc];exact⟨N,0,N,0,N,0,rfl,fun W _=>dC.empty W⟩
theorem cC.us{x:Nrm}(h:cC x):cC (usN x):=by
 unfold usN;split
 ·exact h
 exact⟨by simp,⟨by simp,fun i hi=>by simp at hi⟩,by simp⟩
end
end Go.Proofs.YtkhmjidaeliccaaGreatDoor
