import Derived.Test.YtpfbnikbebccjaaGreatDoorU00
import Derived.Test.YtpfbnikbebccjaaGreatDoorU01
import Derived.Test.YtpfbnikbebccjaaGreatDoorU04
import Derived.Test.YtpfbnikbebccjaaGreatDoorU06
import Derived.RangeFuncNested
import Derived.RangeFuncBound
import Derived.RangeFuncCalls
import Derived.RangeFuncLeaves
import Derived.Shelf.Abstract
import Derived.Shelf.RegionOpen
import Derived.WalkKit
import Derived.OwnWalkIn
import Derived.TacticsInMore
import Derived.LoopNIn
import Derived.LoopIn
import Derived.RangeFuncBox
import Derived.Maps.AppendAt
import Derived.Maps.OwnIn
import Derived.Deep.AppendLies
set_option maxRecDepth 100000
set_option maxHeartbeats 51200000
namespace Go.Proofs.YtpfbnikbebccjaaGreatDoor
open Option renaming none->N,some->Z
open Value renaming int->I,slice->H
open IntKind renaming i64->J
open Go.Proofs.Tryz
section
open Go.RowKit
def stB(ms:List Mp):Bool:=(List.range (ms.length-1)).all fun i=>decide (jT ms i<jT ms (i+1))
def cQ(m:Mp):Bool:=decide (m.tag.size=0)&&(decide (¬m.to.length=1)&&decide (¬m.to.length=2))
def cZ(ss:List Spn)(m:Mp):Bool:=decide (¬Hg.kind m.frm=0)||(decide (¬m.tag.size=0)&&decide (¬clz ss m.frm=0))
def dH(ms:List Mp):Bool:=(bR ms.length (toM ms) (aB ms true) ms.length).all id
def gM(ms:List Mp)(compat:Bool):Nat->Li
 |0=>List.replicate ms.length 0
 |r+1=>(List.range ms.length).foldl (dV (toM ms) (aB ms compat) dlM aH (aV ms compat)) (gM ms compat r)
def gL(ms:List Mp)(compat:Bool):Li:=gM ms compat ms.length
def fF(ms:List Mp):Bool:=(List.range ms.length).any fun i=>decide (64<(gL ms false).getD i 0)||decide (64<(gL ms true).getD i 0)
def bK(x:Nrm):Int:=
 if¬chk x.cls=0 then chk x.cls else if¬cH x.dec=0 then cH x.dec else if gU x.exc=false then 11 else if stB x.dec=false then 5
 else if x.dec.any cQ=true then 8 else if x.dec.any (cZ x.cls)=true then 11 else if dH x.dec=false then 12 else if fF x.dec=true then 13 else 0
structure Ck3(x:Nrm):Prop where
 c:chk x.cls=0
 m:cH x.dec=0
 s:gU x.exc=true
structure Ck4(x:Nrm):Prop extends Ck3 x where
 t:stB x.dec=true
structure Ck5(x:Nrm):Prop extends Ck4 x where
 k:x.dec.any cQ=false
structure Ck6(x:Nrm):Prop extends Ck5 x where
 d:x.dec.any (cZ x.cls)=false
section
variable {x:Nrm}
theorem tH(h:¬chk x.cls=0):bK x=chk x.cls:=by unfold bK;rw[if_pos h]
theorem tJ(h:chk x.cls=0)(h2:¬cH x.dec=0):bK x=cH x.dec:=by unfold bK;rw[if_neg (by simpa using h),if_pos h2]
theorem tL(h:chk x.cls=0)(h2:cH x.dec=0)(h3:gU x.exc=false):bK x=11:=by unfold bK;rw[if_neg (by simpa using h),if_neg (by simpa using h2),if_pos h3]
theorem Ck3.rest(h:Ck3 x):bK x=if stB x.dec=false then 5
 else if x.dec.any cQ=true then 8 else if x.dec.any (cZ x.cls)=true then 11 else if dH x.dec=false then 12 else if fF x.dec=true then 13 else 0:=by
 unfold bK;rw[if_neg (by simpa using h.c),if_neg (by simpa using h.m),if_neg (by simp[h.s])]
theorem Ck3.twice(h:Ck3 x)(h2:stB x.dec=false):bK x=5:=by rw[h.rest,if_pos h2]
theorem Ck4.rest(h:Ck4 x):bK x=if x.dec.any cQ=true then 8 else if x.dec.any (cZ x.cls)=true then 11 else if dH x.dec=false then 12 else if fF x.dec=true then 13 else 0:=by
 rw[h.toCk3.rest,if_neg (by simp[h.t])]
theorem Ck4.kind(h:Ck4 x)(h2:x.dec.any cQ=true):bK x=8:=by rw[h.rest,if_pos h2]
theorem Ck5.rest(h:Ck5 x):bK x=if x.dec.any (cZ x.cls)=true then 11 else if dH x.dec=false then 12 else if fF x.dec=true then 13 else 0:=by
 rw[h.toCk4.rest,if_neg (by simp[h.k])]
theorem Ck5.data(h:Ck5 x)(h2:x.dec.any (cZ x.cls)=true):bK x=11:=by rw[h.rest,if_pos h2]
theorem Ck6.rest(h:Ck6 x):bK x=if dH x.dec=false then 12 else if fF x.dec=true then 13 else 0:=by
 rw[h.toCk5.rest,if_neg (by simp[h.d])]
theorem tI(h:bK x=0):Ck6 x/\dH x.dec=true/\fF x.dec=false:=by
 by_cases h1:chk x.cls=0
 ·by_cases h2:cH x.dec=0
  ·cases h3:gU x.exc with
   |false=>rw[tL h1 h2 h3]at h;omega
   |true=>
    have c3:Ck3 x:=⟨h1,h2,h3⟩;cases h4:stB x.dec with
    |false=>rw[c3.twice h4]at h;omega
    |true=>
     have c4:Ck4 x:=⟨c3,h4⟩;cases h5:x.dec.any cQ with
     |true=>rw[c4.kind h5]at h;omega
     |false=>
      have c5:Ck5 x:=⟨c4,h5⟩;cases h6:x.dec.any (cZ x.cls)with
      |true=>rw[c5.data h6]at h;omega
      |false=>
       have c6:Ck6 x:=⟨c5,h6⟩;rw[c6.rest]at h;cases h7:dH x.dec with
       |false=>rw[h7]at h;simp at h
       |true=>
        cases h8:fF x.dec with
        |true=>rw[h7,h8]at h;simp at h
        |false=>exact⟨c6,rfl,rfl⟩
  rw[tJ h1 h2]at h;exact absurd h h2
 rw[tH h1]at h;exact absurd h h1
end
theorem AD{ms:List Mp}(h:cH ms=0):cU ms=0:=by
 unfold cH at h;by_cases hp:cU ms=0
 ·exact hp
 rw[if_pos hp]at h;exact h
theorem RW{ms:List Mp}(h:cH ms=0):dN ms=true:=by
 have hp:=AD h;unfold cH at h;rw[if_neg (by simp[hp])]at h;cases ha:dN ms with
 |true=>rfl
 |false=>rw[ha]at h;by_cases hn:(ms.map aY).Nodup<;>simp[hn]at h
theorem yZ{ms:List Mp}(h:cH ms=0):gQ ms:=by
 intro i hi;have hm:=List.getElem_mem hi;have hp:=AD h;unfold cU at hp;cases h1:ms.any dB with
 |true=>rw[h1]at hp;simp at hp
 |false=>
  cases h2:ms.any (fun m=>decide (64<m.to.length))with
  |true=>rw[h1,h2]at hp;simp at hp
  |false=>
   have a:=List.any_eq_false.1 h1 _ hm;have b:=List.any_eq_false.1 h2 _ hm;unfold dB inR at a;simp only[Bool.or_eq_true,not_or,Bool.not_eq_true',decide_eq_true_eq,List.any_eq_true,not_exists,not_and]at a b;obtain⟨a1,a2⟩:=a;refine⟨by simpa using a1,by omega,fun e he=>by simpa using a2 e he⟩
theorem vN:∀{ms:List Mp},dN ms=true->∀i,(hi:i+1<ms.length)->ms[i].frm<=ms[i+1].frm
 | [],_,i,hi=>by simp at hi
 | [_],_,i,hi=>by simp at hi
 |a::b::r,h,i,hi=>by
  simp only[dN,Bool.and_eq_true,decide_eq_true_eq]at h;cases i with
  |zero=>
   simp only[List.getElem_cons_zero,List.getElem_cons_succ];have h1:=h.1;unfold dQ at h1;split at h1
   ·omega
   split at h1
   ·omega
   omega
  |succ i=>
   have:=vN h.2 i (by simpa using hi);simpa using this
theorem CU{ms:List Mp}(h:cH ms=0)(hne:∀k,(hk:k+1<ms.length)->¬ms[k+1].frm=ms[k].frm):stB ms=true:=by
 unfold stB;rw[List.all_eq_true];intro i hi;have hi':=List.mem_range.1 hi;have h1:i+1<ms.length:=by omega
 have:=vN (RW h) i h1;have:=hne i h1;rw[decide_eq_true_eq,gK (by omega),gK h1];omega
theorem mP{ms:List Mp}(h:stB ms=true):StF ms:=by
 have h1:∀i,(hi:i+1<ms.length)->ms[i].frm<ms[i+1].frm:=fun i hi=>by
  unfold stB at h;have:=List.all_eq_true.1 h i (List.mem_range.2 (by omega));rwa[decide_eq_true_eq,gK (by omega),gK hi]at this
 have h2:∀d i,(hi:i+d+1<ms.length)->ms[i].frm<ms[i+d+1].frm:=by
  intro d;induction d with
  |zero=>intro i hi;exact h1 i hi
  |succ d ih=>
   intro i hi;have a:=ih i (by omega);have b:=h1 (i+d+1) (by omega);have:i+(d+1)+1=i+d+1+1:=by omega
   simp only[this];omega
 intro i j hi hj hij;obtain⟨d,rfl⟩:∃d,j=i+d+1:=⟨j-i-1,by omega⟩;exact h2 d i hj
theorem CQ{ms:List Mp}{k j:Nat}(hk:k<ms.length)(hj:j<ms.length)(hne:k<j)(h:ms[j].frm=ms[k].frm):stB ms=false:=by
 cases e:stB ms with
 |false=>rfl
 |true=>have:=mP e k j hk hj hne;omega
theorem nW{ss:List Spn}{ms:List Mp}(h:ms.any (cZ ss)=false):dE ms:=fun i hi=>by
 have:=List.any_eq_false.1 h _ (List.getElem_mem hi);unfold cZ at this;simp at this;exact this.1
theorem pH{α:Type}(f:α->Nat->α)(n:Nat)(g:Nat->α)(hg:∀r,g (r+1)=(List.range n).foldl f (g r))(r:Nat):((List.replicate r (List.range n)).flatten).foldl f (g 0)=g r:=by
 induction r with
 |zero=>rfl
 |succ r ih=>rw[List.replicate_succ',List.flatten_append,List.foldl_append,ih,hg];simp
theorem xP{ms:List Mp}(hs:StF ms)(compat:Bool):∀e m,aB ms compat e=Z m->aB ms true e=Z m:=fun e m h=>by
 obtain⟨hi,h1,_⟩:=gR h;rw[o_ hs hi h1,if_pos (.inl rfl)]
theorem nD{ms:List Mp}(hs:StF ms)(hh:dE ms)(he:dH ms=true)(compat:Bool):∀i,(hi:i<ms.length)->Sz (onM ms compat) aH ms[i].frm ((gL ms compat).getD i 0):=by
 intro i hi
 have hfl:∀j∈(List.replicate ms.length (List.range ms.length)).flatten,j<ms.length:=fun j hj=>by
  obtain⟨l,h1,h2⟩:=List.mem_flatten.1 hj;rw[List.eq_of_mem_replicate h1]at h2;exact List.mem_range.1 h2
 have h0:=YQ (zA hs hh compat) (xP hs compat) (List.replicate ms.length (List.range ms.length)).flatten hfl i hi;have e1:=pH (aP (toM ms) (aB ms true)) ms.length (bR ms.length (toM ms) (aB ms true)) (fun _=>rfl) ms.length;have e2:=pH (dV (toM ms) (aB ms compat) dlM aH (aV ms compat)) ms.length (gM ms compat) (fun _=>rfl) ms.length;simp only[bR,gM]at e1 e2;rw[e1,e2]at h0;have hl:=(kT ms.length (toM ms) (aB ms true) ms.length).1;have:(bR ms.length (toM ms) (aB ms true) ms.length).getD i false=true:=by
  unfold dH at he;have hi':i<(bR ms.length (toM ms) (aB ms true) ms.length).length:=by rw[hl];exact hi
  have:=List.all_eq_true.1 he _ (List.getElem_mem hi');simpa[List.getD,hi']using this
 obtain⟨v,h1,h2⟩:=h0 this;rw[gK hi]at h1;unfold gL;rw[h2];exact h1
theorem LQ{ms:List Mp}(hs:StF ms)(hh:dE ms)(h:∀i,(hi:i<ms.length)->∃v,Sz (onM ms true) aH ms[i].frm v):dH ms=true:=by
 unfold dH;rw[List.all_eq_true];intro b hb;obtain⟨i,hi,rfl⟩:=List.getElem_of_mem hb;have hl:=(kT ms.length (toM ms) (aB ms true) ms.length).1;have hi':i<ms.length:=by rw[hl]at hi;exact hi
 have:=YG (n:=ms.length) (to:=toM ms) (fnd:=aB ms true) (frm:=jT ms) (on:=onM ms true) (cap:=aH) (fun i hi=>by rw[gK hi,mK hs hh true hi,if_pos (.inl rfl),kW hi]) (zA hs hh true).fd (fun i hi=>by rw[gK hi];exact h i hi) i hi';simpa[List.getD,hi]using this
theorem GG{ms:List Mp}(hs:StF ms)(hh:dE ms)(he:dH ms=true)(x:Int):∃v,Sz (onM ms true) aH x v:=by
 cases hf:aB ms true x with
 |none=>exact⟨_,rI hh true hf⟩
 |some i=>
  obtain⟨hi,h1,_⟩:=gR hf;subst h1;exact⟨_,nD hs hh he true i hi⟩
theorem jM.cyc{ms:List Mp}{cyc lng:Bool}(h:jM ms cyc lng)(hs:StF ms)(hh:dE ms):cyc=!dH ms:=by
 cases hc:cyc with
 |false=>rw[LQ hs hh (h.ends hc)];rfl
 |true=>
  cases he:dH ms with
  |false=>rfl
  |true=>
   obtain⟨x,hp⟩:=h.cy hc;obtain⟨v,hv⟩:=GG hs hh he x;exact absurd hp hv.noway
theorem jM.lng{ms:List Mp}{cyc lng:Bool}(h:jM ms cyc lng)(hs:StF ms)(hh:dE ms)(he:dH ms=true):lng=fF ms:=by
 have hc:cyc=false:=by rw[h.cyc hs hh,he];rfl
 rw[Bool.eq_iff_iff,h.lg hc];unfold fF;rw[List.any_eq_true];constructor
 ·rintro⟨i,hi,v,h1,h2⟩
  refine⟨i,List.mem_range.2 hi,?_⟩;have:=h1.func (nD hs hh he true i hi);rw[<-this];unfold mxE at h2;simp[h2]
 rintro⟨i,hi,h1⟩;have hi':=List.mem_range.1 hi;have ht:=nD hs hh he true i hi';refine⟨i,hi',_,ht,?_⟩;rw[Bool.or_eq_true,decide_eq_true_eq,decide_eq_true_eq]at h1;rcases h1 with h1|h1
 ·obtain⟨u,g1,g2⟩:=GH hs ht
  have:=g1.func (nD hs hh he false i hi');unfold mxE;omega
 exact h1
theorem BE(cl:Int->Int):∀(l:Li)(i:Nat),(∀c∈l,cl c=0)->rns cl l i N=[]
 | [],_,_=>rfl
 |c::l,i,h=>by
  have h1:=h c (by simp);have:=BE cl l (i+1) (fun c hc=>h c (by simp[hc]));simp[rns,h1,this]
theorem BG(cl:Int->Int):∀(l:Li)(i s:Nat),rns cl l i (Z s)≠[]
 | [],_,_=>by simp[rns]
 |c::l,i,s=>by
  have h1:=BG cl l (i+1) s;simp only[rns];split
  ·simp
  exact h1
theorem BD(cl:Int->Int):∀(l:Li)(i:Nat),rns cl l i N=[]->∀c∈l,cl c=0
 | [],_,_,_,h=>by cases h
 |c::l,i,hr,d,hd=>by
  simp only[rns]at hr;split at hr
  ·next h0=>
   rcases List.mem_cons.1 hd with rfl|hd
   ·exact h0
   exact BD cl l (i+1) hr d hd
  exact absurd hr (BG cl l (i+1) i)
def e_(ms:List Mp):Li:=(ms.filter (fun m=>decide (¬m.tag.size=0))).map Mp.frm
theorem KX{ss:List Spn}{ms:List Mp}(hh:∀t,(ht:t<ms.length)->Hg.kind ms[t].frm=0)(hr:rns (clz ss) (e_ ms) 0 N=[]):ms.any (cZ ss)=false:=by
 rw[List.any_eq_false];intro m hm;obtain⟨i,hi,rfl⟩:=List.getElem_of_mem hm;unfold cZ;by_cases ht:ms[i].tag.size=0
 ·simp[hh i hi,ht]
 have:=BD _ _ _ hr ms[i].frm (List.mem_map.2 ⟨ms[i],List.mem_filter.2 ⟨hm,by simpa using ht⟩,rfl⟩);simp[hh i hi,this]
theorem KZ{ss:List Spn}{ms:List Mp}(hr:¬rns (clz ss) (e_ ms) 0 N=[]):ms.any (cZ ss)=true:=by
 cases h:ms.any (cZ ss)with
 |true=>rfl
 |false=>
  refine absurd (BE _ _ _ fun c hc=>?_) hr;obtain⟨m,hm,rfl⟩:=List.mem_map.1 hc;obtain⟨h1,h2⟩:=List.mem_filter.1 hm;have:=List.any_eq_false.1 h m h1;unfold cZ at this;simp at this h2;exact this.2 h2
theorem KW{ss:List Spn}{ms:List Mp}{t:Nat}(ht:t<ms.length)(h:¬Hg.kind ms[t].frm=0):ms.any (cZ ss)=true:=List.any_eq_true.2 ⟨_,List.getElem_mem ht,by unfold cZ;simp[h]⟩
theorem zAp{ms:List Mp}{i:Nat}(hi:i<ms.length):e_ (ms.take (i+1))=e_ (ms.take i)++if ms[i].tag.size=0 then []else [ms[i].frm]:=by
 unfold e_;rw[List.take_succ_eq_append_getElem hi,List.filter_append,List.map_append];congr 1;by_cases h:ms[i].tag.size=0
 ·rw[if_pos h,List.filter_cons_of_neg (by rw[decide_eq_true_eq];exact fun g=>g h)];rfl
 rw[if_neg h,List.filter_cons_of_pos (by rw[decide_eq_true_eq];exact h)];rfl
theorem DO(ms:List Mp):(e_ ms).length<=ms.length:=by unfold e_;rw[List.length_map];exact List.length_filter_le _ _
end
section
open Go.RowKit Go.Shelf
attribute [local go_sem] Oper.semAt_some
def gF(n₀ bo:Nat)(W W':Wv):Prop:=W.heap.size<=W'.heap.size/\∀k,k<n₀->k≠bo->W'.heap[k]?=W.heap[k]?
theorem gF.refl(n₀ bo:Nat)(W:Wv):gF n₀ bo W W:=⟨Nat.le_refl _,fun _ _ _=>rfl⟩
theorem gF.trans{n₀ bo:Nat}{A B C:Wv}(h:gF n₀ bo A B)(g:gF n₀ bo B C):gF n₀ bo A C:=⟨Nat.le_trans h.1 g.1,fun k hk hne=>(g.2 k hk hne).trans (h.2 k hk hne)⟩
theorem gF.cell{n₀ bo:Nat}{W W':Wv}(h:gF n₀ bo W W'){p:Addr}(h1:p.block<n₀)(h2:p.block≠bo):W'.cell? p=W.cell? p:=World.cell?_of_block (w:=W) (h.2 p.block h1 h2)
def iK(n₀ bo:Nat)(A:Oa):Prop:=∀b o,A=Z ⟨b,o,N⟩->b<n₀/\b≠bo
theorem Sl.keepX{n₀ bo:Nat}{W W':Wv}{A:Oa}{cs:Lv}(h:Sl W A cs)(hk:gF n₀ bo W W')(hw:cs≠[]->iK n₀ bo A):Sl W' A cs:=by
 intro hne;obtain⟨b,o,rfl,hc⟩:=h hne;obtain⟨h1,h2⟩:=hw hne b o rfl;exact⟨b,o,rfl,fun j u hu=>(hk.cell (p:=⟨b,o+j,N⟩) h1 h2).trans (hc j u hu)⟩
structure Mem(Bt Bs:Nat)(A:Oa)(nt kt:Nat)(text:Li)(A':Oa)(ns ks:Nat)(ss:List Spn)(W:Wv):Prop where
 bt:W.cell? ⟨Bt,0,N⟩=Z (H A nt kt)
 bs:W.cell? ⟨Bs,0,N⟩=Z (H A' ns ks)
 tx:aA W A text
 sp:aZ W A' ss
theorem Mem.below{Bt Bs:Nat}{A:Oa}{nt kt:Nat}{text:Li}{A':Oa}{ns ks:Nat}{ss:List Spn}{W W':Wv}(h:Mem Bt Bs A nt kt text A' ns ks ss W)(hb:By W W'):Mem Bt Bs A nt kt text A' ns ks ss W':=
 ⟨(hb.cell (World.block_lt_of_cell? W _ h.bt)).trans h.bt,(hb.cell (World.block_lt_of_cell? W _ h.bs)).trans h.bs,h.tx.below hb,h.sp.below hb⟩
theorem Mem.keepX{n₀ bo Bt Bs:Nat}{A:Oa}{nt kt:Nat}{text:Li}{A':Oa}{ns ks:Nat}{ss:List Spn}{W W':Wv}(h:Mem Bt Bs A nt kt text A' ns ks ss W)(hk:gF n₀ bo W W')
  (h1:Bt<n₀/\Bt≠bo) (h2:Bs<n₀/\Bs≠bo) (h3:text≠[]->iK n₀ bo A) (h4:ss≠[]->iK n₀ bo A'):Mem Bt Bs A nt kt text A' ns ks ss W':=
 ⟨(hk.cell (p:=⟨Bt,0,N⟩) h1.1 h1.2).trans h.bt,(hk.cell (p:=⟨Bs,0,N⟩) h2.1 h2.2).trans h.bs,Sl.keepX h.tx hk (fun hne=>h3 (by rintro rfl;exact hne rfl)),Sl.keepX h.sp hk (fun hne=>h4 (by rintro rfl;exact hne rfl))⟩
def mA(x:Nat×Nat):Array Value:=#[.agg #[I J (x.1:Int),I J (x.2:Int)]]
theorem EZ{α:Type}{J:List α->Wv->Prop}{B:Nat}(h:AbidesFrom B J){pre:List α}{W W':Wv}(hJ:J pre W)(hb:By W W'):J pre W':=
 h pre W W' N hJ ⟨hb.os,hb.tape,hb.output,hb.size,fun k hk _=>hb.block k hk⟩ (fun r e=>by cases e)
def FX{α:Type}(all:List α)(J Jx:List α->Wv->Prop)(e:Ending)(W':Wv):Prop:=(∃v,e=.returned v)/\((∃ys,ys=all/\J ys W')\/(∃pre,pre <+: all/\Jx pre W'))
theorem YW{α:Type}(f:α->Nat×Nat)(n:Nat)(hn1:1<=n)(l n₀ bo Bt Bs:Nat)(A:Oa)(nt kt:Nat)(text:Li)(A':Oa)(ns ks:Nat)(ss:List Spn)(all:List α)
  (hall:all.map f=rns (cls ss) text 0 N) (hnt:text.length=nt) (hns:ss.length=ns) (hb1:nt<=1099511627776) (hb2:ns<=1099511627776) (hasc:Asc ss)
  (h1:Bt<n₀/\Bt≠bo) (h2:Bs<n₀/\Bs≠bo) (h3:text≠[]->iK n₀ bo A) (h4:ss≠[]->iK n₀ bo A')
  (J Jx:List α->Wv->Prop) (B:Nat) (hJ:AbidesFrom B J)
  (hY:∀pre x W,J pre W->pre.length<all.length->YieldAt Fence.wide (n-1) prog l (mA (f x)) W fun e W'=>
   (e=.returned (.bool true)/\J (pre++[x]) W'/\gF n₀ bo W W')\/(e=.returned (.bool false)/\Jx (pre++[x]) W'))
  (W:Wv) (hM:Mem Bt Bs A nt kt text A' ns ks ss W) (h0:J [] W) :
  CallsIn Fence.wide n prog 134 #[.func (.yield l) #[] #[],.pointer (Z ⟨Bt,0,N⟩),.pointer (Z ⟨Bs,0,N⟩)] W (FX all J Jx):=by
 subst hnt hns;have HALL:=G hall;have HA:=G hasc;have HY:=G hY;have HJ:=G hJ;have H3:=G h3;have H4:=G h4;clear hall hasc hY hJ h3 h4;have cbt:=hM.bt;have cbs:=hM.bs;refine callsIn_of_wp func134 rfl trivial ?_ rfl;simp only[ntmps134,List.size_toArray,List.length_cons,List.length_nil,Nat.reduceAdd,Nat.reduceSub,Array.replicate_succ,Array.replicate_zero,List.push_toArray,List.append_toArray,List.nil_append,List.cons_append];gi_wp2
 gi_loopw [4,10] (fun u i wr=>∃(k:Nat)(s:Option Nat)(pre rest:List α),k<=text.length/\i=.int .i64 k/\u=.int .i64 (stv s)/\(pre++rest=all/\rest.map f=rns (cls ss) (text.drop k) k s)/\(∀x,s=Z x->x<=k)/\J pre wr/\Mem Bt Bs A text.length kt text A' ss.length ks ss wr)
  (fun _ i _=>text.length-(intOf i).toNat)
 case atStart=>exact⟨0,N,[],all,Nat.zero_le _,rfl,rfl,⟨rfl,HALL.out⟩,(fun _ h=>by cases h),h0,hM⟩
 obtain⟨k,s,pre,rest,hk,rfl,rfl,⟨hpre,hrest⟩,hs,hJ1,hM1⟩:=hrel;have HP:=G hpre;have HT:=G hrest;clear hrest;have HS:=G hs;clear hpre hs;by_cases hlt:k<text.length
 ·obtain⟨b,o,rfl,hcell⟩:=hM1.tx.at hlt
  have c1:=hcell k hlt;have c2:=hM1.bs;clear hcell;have HR:=G (YM (cls ss) text k hlt s);generalize text[k]=c at *;gi_wp2_with fail;refine⟨trivial,(callsIn_wide.2 (rR A' ss.length ks ss c wr hM1.sp rfl hb2 HA.out)).mono ?_⟩;rintro e w1 ⟨rfl,hbw⟩;have hM2:=hM1.below hbw;have hJ2:=EZ HJ.out hJ1 hbw;clear hM1 hJ1 hbw c1 c2;by_cases hz:cls ss c=0
  ·have hzb:(cls ss c==0)=true:=by simpa using hz
   cases s with
   |none=>
    have HR':=G (HR.out.trans (show _=_ from if_pos hz));clear HR hz;generalize cls ss c=z at *;simp only[stv];gi_wp2;go_roundw
    case rel=>exact⟨k+1,N,pre,rest,by omega,by go_num,rfl,⟨HP.out,HT.out.trans HR'.out⟩,(fun _ h=>by cases h),hJ2,hM2⟩
    simp[intOf];omega
   |some s=>
    have HR':=G (HR.out.trans (show _=_ from if_pos hz));clear HR hz;generalize cls ss c=z at *;simp only[stv]
    obtain⟨x,rest',hx,hfx,hrest'⟩:∃x rest',rest=x::rest'/\f x=(s,k)/\rest'.map f=rns (cls ss) (text.drop (k+1)) (k+1) N:=by
     have:=HT.out.trans HR'.out;cases rest with
     |nil=>cases this
     |cons x r=>simp only[List.map_cons,List.cons.injEq]at this;exact⟨x,r,rfl,this.1,this.2⟩
    have HPX:=G (show(pre++[x])++rest'=all by rw[<-HP.out,hx];simp);have HTX:=G hrest';have hlen:pre.length<all.length:=by rw[<-HP.out,hx];simp
    have hy0:=HY.out pre x w1 hJ2 hlen;rw[hfx]at hy0;clear hx hfx hrest';unfold mA at hy0;obtain⟨fn,tmps,assign,body,hy,hR⟩:=hy0;dsimp only at hy;have HRR:=G hR;clear hR hlen;gi_wp2;refine HRR.out.mono ?_;rintro e W3 (⟨rfl,hJ3,hk3⟩|⟨rfl,hJx3⟩)
    ·have hM3:=hM2.keepX hk3 h1 h2 H3.out H4.out
     clear hM2 hJ2 hy HRR;gi_wp2;go_roundw
     case rel=>exact⟨k+1,N,pre++[x],rest',by omega,by go_num,rfl,⟨HPX.out,HTX.out⟩,(fun _ h=>by cases h),hJ3,hM3⟩
     simp[intOf];omega
    gi_wp2;refine bodyPost_ret (results_none rfl _ _ _) rfl ?_;exact⟨⟨_,rfl⟩,.inr ⟨pre++[x],⟨rest',HPX.out⟩,hJx3⟩⟩
  have hzb:(cls ss c==0)=false:=by simpa using hz
  cases s with
  |none=>
   have HR':=G (HR.out.trans (show _=_ from if_neg hz));clear HR hz;generalize cls ss c=z at *;simp only[stv];gi_wp2;go_roundw
   case rel=>exact⟨k+1,Z k,pre,rest,by omega,by go_num,rfl,⟨HP.out,HT.out.trans HR'.out⟩,(fun x h=>by cases h;omega),hJ2,hM2⟩
   simp[intOf];omega
  |some s=>
   have HR':=G (HR.out.trans (show _=_ from if_neg hz));clear HR hz;generalize cls ss c=z at *;simp only[stv];gi_wp2;go_roundw
   case rel=>exact⟨k+1,Z s,pre,rest,by omega,by go_num,rfl,⟨HP.out,HT.out.trans HR'.out⟩,(fun x h=>by have:=HS.out x h;omega),hJ2,hM2⟩
   simp[intOf];omega
 have HE:=G (YI (cls ss) text k (by omega) s);have cb:=hM1.bt;cases s with
 |none=>
  simp only[stv];gi_wp2;go_end0;have hr0:rest=[]:=by have:=HT.out.trans HE.out;simpa using this
  exact⟨⟨_,rfl⟩,.inl ⟨pre,by rw[<-HP.out,hr0];simp,hJ1⟩⟩
 |some s=>
  obtain rfl:k=text.length:=by omega
  simp only[stv]
  obtain⟨x,hx,hfx⟩:∃x,rest=[x]/\f x=(s,text.length):=by
   have:=HT.out.trans HE.out;cases rest with
   |nil=>cases this
   |cons x r=>simp only[List.map_cons,List.cons.injEq,List.map_eq_nil_iff]at this;exact⟨x,by rw[this.2],this.1⟩
  have HPX:=G (show pre++[x]=all by rw[<-HP.out,hx]);have hlen:pre.length<all.length:=by rw[<-HPX.out];simp
  have hy0:=HY.out pre x wr hJ1 hlen;rw[hfx]at hy0;clear hx hfx;unfold mA at hy0;obtain⟨fn,tmps,assign,body,hy,hR⟩:=hy0;dsimp only at hy;have HRR:=G hR;clear hR hlen;gi_wp2;refine HRR.out.mono ?_;rintro e W3 (⟨rfl,hJ3,hk3⟩|⟨rfl,hJx3⟩)
  ·gi_wp2
   go_end0;exact⟨⟨_,rfl⟩,.inl ⟨pre++[x],HPX.out,hJ3⟩⟩
  gi_wp2;go_end0;exact⟨⟨_,rfl⟩,.inr ⟨pre++[x],⟨[],by rw[List.append_nil];exact HPX.out⟩,hJx3⟩⟩
theorem BP{α:Type}(f:α->Nat×Nat)(n:Nat)(hn1:1<=n)(n₀ bo Bt Bs:Nat)(A:Oa)(nt kt:Nat)(text:Li)(A':Oa)(ns ks:Nat)(ss:List Spn)(all:List α)(w:Wv)
  (hall:all.map f=rns (cls ss) text 0 N) (hnt:text.length=nt) (hns:ss.length=ns) (hb1:nt<=1099511627776) (hb2:ns<=1099511627776) (hasc:Asc ss)
  (h1:Bt<n₀/\Bt≠bo) (h2:Bs<n₀/\Bs≠bo) (h3:text≠[]->iK n₀ bo A) (h4:ss≠[]->iK n₀ bo A') (hM:Mem Bt Bs A nt kt text A' ns ks ss w) :
  SeqStopsK Fence.wide n prog 134 #[.pointer (Z ⟨Bt,0,N⟩),.pointer (Z ⟨Bs,0,N⟩)] (fun x=>mA (f x)) (gF n₀ bo) (fun ys=>ys=all) (fun pre=>pre <+: all) all.length w:=
 fun l J Jx W hW hJ _ hY h0=>YW f n hn1 l n₀ bo Bt Bs A nt kt text A' ns ks ss all hall hnt hns hb1 hb2 hasc h1 h2 h3 h4 J Jx _ hJ hY W (hM.below hW) h0
theorem BM(A:Oa)(nt kt:Nat)(A':Oa)(ns ks:Nat)(w:Wv):
  Calls prog 103 #[H A' ns ks,H A nt kt] w fun e w'=>
   e=.returned (.func (.func 134) #[] #[.pointer (Z ⟨w.heap.size+1,0,N⟩),.pointer (Z ⟨w.heap.size,0,N⟩)])/\
   (w.alloc (.cells #[H A' ns ks] 22)).alloc (.cells #[H A nt kt] 49)=w':=by
 go_enter func103,ntmps103;go_wp2;go_ret;exact⟨rfl,rfl⟩
end
section
open Go.RowKit Go.Shelf
attribute [local go_sem] Oper.semAt_some
def mC(rs:List (Nat×Nat)):Lv:=rs.flatMap fun r=>[I J (r.1:Int),I J (r.2:Int)]
theorem NC(rs:List (Nat×Nat))(x:Nat×Nat):mC (rs++[x])=mC rs++[I J (x.1:Int),I J (x.2:Int)]:=by simp[mC]
def rA(rs:List (Nat×Nat))(w:Wv)(e:Ending)(w':Wv):Prop:=∃A c,e=.returned (H A rs.length c)/\rs.length<=c/\Sl w' A (mC rs)/\By w w'
theorem OZ:(prog.info? 126).map (fun i=>(i.zero,i.size,i.bytes))=Z (Z (.agg #[I J 0,I J 0]),2,16):=by kernel_rfl
theorem nC{n₀ bo:Nat}{W W':Wv}(h:Below n₀ W W'):gF n₀ bo W W':=⟨h.size,fun k hk _=>h.block k hk⟩
theorem Mem.lt_bt{Bt Bs:Nat}{A:Oa}{nt kt:Nat}{text:Li}{A':Oa}{ns ks:Nat}{ss:List Spn}{W:Wv}(h:Mem Bt Bs A nt kt text A' ns ks ss W):Bt<W.heap.size:=World.block_lt_of_cell? W _ h.bt
theorem Mem.lt_bs{Bt Bs:Nat}{A:Oa}{nt kt:Nat}{text:Li}{A':Oa}{ns ks:Nat}{ss:List Spn}{W:Wv}(h:Mem Bt Bs A nt kt text A' ns ks ss W):Bs<W.heap.size:=World.block_lt_of_cell? W _ h.bs
theorem Sl.lt{W:Wv}{A:Oa}{cs:Lv}(h:Sl W A cs)(hne:cs≠[])(bo:Nat)(hbo:W.heap.size<=bo):iK W.heap.size bo A:=by
 intro b o hA;obtain⟨b',o',hA',hc⟩:=h hne;rw[hA]at hA';injection hA' with hA';injection hA' with h1 h2;subst h1;subst h2;obtain⟨x,r,rfl⟩:∃x r,cs=x::r:=by cases cs with|nil=>exact absurd rfl hne|cons x r=>exact⟨x,r,rfl⟩
 have:=World.block_lt_of_cell? W _ (hc 0 x rfl);simp at this;exact⟨this,by omega⟩
theorem ES(Bt Bs:Nat)(A:Oa)(nt kt:Nat)(text:Li)(A':Oa)(ns ks:Nat)(ss:List Spn)(all:List (Nat×Nat))(w:Wv)
  (hall:rns (cls ss) text 0 N=all) (hnt:text.length=nt) (hns:ss.length=ns) (hb1:nt<=1048576) (hb2:ns<=1099511627776) (hasc:Asc ss) (hM:Mem Bt Bs A nt kt text A' ns ks ss w) :
  Calls prog 133 #[H N 0 0,.func (.func 134) #[] #[.pointer (Z ⟨Bt,0,N⟩),.pointer (Z ⟨Bs,0,N⟩)]] w (rA all w):=by
 have hlen:all.length<=1048576:=by rw[<-hall];have:=YL (cls ss) text 0;omega
 obtain⟨i0,hi0,hz0,hz1,hz2⟩:=info_parts OZ;refine(callsIn_wide (n:=6)).1 ?_;refine callsIn_of_wp_marks func133 rfl trivial ?_ rfl;simp only[ntmps133,List.size_toArray,List.length_cons,List.length_nil,Nat.reduceAdd,Nat.reduceSub,Array.replicate_succ,Array.replicate_zero,List.push_toArray,List.append_toArray,List.nil_append,List.cons_append];gi_wp2;have bS:=Boxed.new w 24 (H N 0 0);have hB0:By w (w.alloc (.cells #[H N 0 0] 24)):=(Below.refl _ w).alloc (Nat.le_refl _) _;have hsz:(w.alloc (.cells #[H N 0 0] 24)).heap.size=w.heap.size+1:=by simp
 have hM0:=hM.below hB0;obtain⟨W0,hW0⟩:∃W0,w.alloc (.cells #[H N 0 0] 24)=W0:=⟨_,rfl⟩;rw[hW0]at bS hB0 hsz hM0|-;clear hW0
 refine wpIn_rangeFunc_ownH rfl (by omega) (gf:=134) (lb:=#[.pointer (Z ⟨Bt,0,N⟩),.pointer (Z ⟨Bs,0,N⟩)]) rfl trivial (enters_of func134 (by kernel_rfl) rfl)
  (BP (fun x=>x) 5 (by omega) w.heap.size w.heap.size Bt Bs A nt kt text A' ns ks ss all W0 (by rw[hall];simp) hnt hns (by omega) hb2 hasc ⟨hM.lt_bt,by have:=hM.lt_bt;omega⟩ ⟨hM.lt_bs,by have:=hM.lt_bs;omega⟩
   (fun hne=>Sl.lt hM.tx (by simpa using hne) _ (Nat.le_refl _)) (fun hne=>Sl.lt hM.sp (by cases ss with|nil=>exact absurd rfl hne|cons s r=>simp[fR]) _ (Nat.le_refl _)) hM0)
  (fun h k=>h.trans k) (fun W l o o' hl h hc hw=>nC (belowK_b (w:=W0) (by omega) W l o o' hl h hc hw)) (Below.refl _ _) (fun _=>rfl)
  (fun pre W=>(∃v,Boxed W w.heap.size 24 v/\W.ownsRow w.heap.size 126 2 v pre.length (mC pre)/\True)/\By w W)
  (fun _ _ _=>False)
  (OwnFrom.and (Own.from (holdsRow_own w.heap.size w.heap.size 24 126 2 (fun pre:List (Nat×Nat)=>pre.length) mC (fun _ _=>True)) _) (ownFrom_below (Nat.le_refl _) (by omega)))
  (fun _ _ _ _ _ hs _ _=>hs)
  ⟨⟨_,bS,World.ownsRow_nil _ _ _ _,trivial⟩,hB0⟩
  (fun x a' W=>∃Bx,w.heap.size<Bx/\W.heap[Bx]?=Z (.cells #[I J (x.1:Int),I J (x.2:Int)] 126 (0,0))/\a'={ tmps:=#[H N 0 0,.func (.func 134) #[] #[.pointer (Z ⟨Bt,0,N⟩),.pointer (Z ⟨Bs,0,N⟩)],.pointer (Z ⟨w.heap.size,0,N⟩),undef,H N 0 0,.pointer (Z ⟨Bx,0,N⟩),.func (.func 134) #[] #[.pointer (Z ⟨Bt,0,N⟩),.pointer (Z ⟨Bs,0,N⟩)],.agg #[I J (x.1:Int),I J (x.2:Int)],undef,undef,undef,undef,undef],defers:=[] })
  (fun x a' _ X Y row hs hg hr=>by
   obtain⟨Bx,h1,h2,h3⟩:=hs
   refine⟨Bx,h1,(hg.block Bx (Array.getElem?_eq_some_iff.1 h2).1 (fun e=>?_)).trans h2,h3⟩
   obtain⟨_,o,ho,hc⟩:=hr Bx e.symm
   rw[h2]at ho;cases ho;cases hc)
  ?assign ?body ?done ?stop
 case assign=>
  rintro l pre x W K ⟨⟨v,bS1,hr1,_⟩,hB1⟩ hK;unfold mA at *;gi_wp2;exact hK _ _ ((KeepsOthers.alloc _ _).from _) (nC ((Below.refl _ W).alloc hB1.size _)) ⟨⟨v,bS1.alloc _,hr1.alloc _,trivial⟩,hB1.alloc hB1.size _⟩ ⟨W.heap.size,bS1.lt,heap_alloc_new W _,rfl⟩
 case body=>
  rintro l pre x a' W hl ⟨r,hr⟩ ⟨⟨v,bS1,hr1,_⟩,hB1⟩ ⟨Bx,hBx,bX,rfl⟩ hlt;obtain⟨Av,cv,rfl,hcv⟩:=gE hr1;have cS:=bS1.cell;have fS:=bS1.frozen;have x0:W.cell? ⟨Bx,0,N⟩=Z (I J (x.1:Int)):=by rw[cell_of_row W Bx 0 _ _ (0,0) bX];rfl
  have x1:W.cell? ⟨Bx,1,N⟩=Z (I J (x.2:Int)):=by rw[cell_of_row W Bx 1 _ _ (0,0) bX];rfl
  have hltS:=bS1.lt;gi_wp2_with (gi_at_builtin;refine wpListIn_append_own _ rfl _ _ 24 rfl w.heap.size 126 i0 (.agg #[I J 0,I J 0]) 2 16 underlying24 hi0 hz0 hz1 hz2 rfl (by decide) _ _ _ rfl (hr1.alloc _) ⟨W.heap.size,0,N⟩ 1 1 [I J (x.1:Int),I J (x.2:Int)] rfl rfl ?c1 (aR [_,_]) (by unfold maxLen;omega) (by omega) (by have:=hB1.size;simp;omega) ?_)
  case c1=>
   intro j u hu;match j,hu with
   |0,hu=>simp at hu;subst hu;simp[Addr.add]
   |1,hu=>simp at hu;subst hu;simp[Addr.add]
  intro v' w1 hown' hgrow _;obtain⟨Av',cv',rfl,hcv'⟩:=gE hown';obtain⟨hv1,hv2,hr2,hk2,hb2⟩:=bS1.appended (by decide) hr1 hB1.size (Nat.le_refl _) hown' hgrow;have hc1:=hv1.cell;have hf1:=hv1.frozen;clear hown' hgrow cS fS x0 x1 hr1 bX bS1;gi_wp2;refine⟨hk2.from _,nC hb2,⟨_,hv2,?_,trivial⟩,hB1.trans hb2⟩;rw[NC,List.length_append];exact hr2
 case done=>
  rintro D ys W hD rfl ⟨⟨v,bS1,hr1,_⟩,hB1⟩ hK;obtain⟨Av,cv,rfl,hcv⟩:=gE hr1;have cS:=bS1.cell;have HRow:=G (ownsRow_putObj hr1 (.deferred N) hK rfl);have HBel:=G (hB1.trans (belowK_b (w:=w) (Nat.le_refl _) W D _ (.deferred N) (by omega) hK rfl rfl));gi_wp2;refine⟨by simp,.inl ⟨_,_,rfl,run_takeDeferred hK,?_⟩⟩;exact⟨_,results_tmp rfl _ _ _,Av,cv,rfl,hcv,Sl.of_own HRow.out,HBel.out⟩
 rintro D c pre W _ _ h _;exact h.elim
theorem ET(Bt Bs:Nat)(A:Oa)(nt kt:Nat)(text:Li)(A':Oa)(ns ks:Nat)(ss:List Spn)(all:List (Nat×Nat))(w:Wv)
  (hall:rns (cls ss) text 0 N=all) (hnt:text.length=nt) (hns:ss.length=ns) (hb1:nt<=1048576) (hb2:ns<=1099511627776) (hasc:Asc ss) (hM:Mem Bt Bs A nt kt text A' ns ks ss w) :
  Calls prog 102 #[.func (.func 134) #[] #[.pointer (Z ⟨Bt,0,N⟩),.pointer (Z ⟨Bs,0,N⟩)]] w (rA all w):=by
 have C:=G (ES Bt Bs A nt kt text A' ns ks ss all w hall hnt hns hb1 hb2 hasc hM);clear hall hnt hns hasc hM;go_enter func102,ntmps102;go_wp2_with fail;refine C.out.mono ?_;rintro e w1 ⟨A1,c1,rfl,hc1,hA1,hb1⟩;go_wp2_with fail;go_ret;exact⟨A1,c1,rfl,hc1,hA1,hb1⟩
theorem F_(A':Oa)(ns ks:Nat)(ss:List Spn)(A:Oa)(nt kt:Nat)(text:Li)(w:Wv)(hS:aZ w A' ss)(hT:aA w A text)
  (hnt:text.length=nt) (hns:ss.length=ns) (hb1:nt<=1048576) (hb2:ns<=1099511627776) (hL:dL w) :
  Calls prog 61 #[H A' ns ks,H A nt kt] w (rA (rns (clz ss) text 0 N) w):=by
 have hle:=DV ss;rw[hns]at hle;have U:=G (DW A' ns ks ss w hS hns hb2 hL);have hasc:=G (DU ss);have hcl:clz ss=cls (us ss):=rfl;rw[hcl];clear hS hL hns hcl;generalize us ss=ts at *;go_enter func61,ntmps61;go_wp2_with fail;refine U.out.mono ?_;rintro e w1 ⟨A1,k1,rfl,hA1,hb3⟩;have hT1:=hT.below hb3;clear hT U;go_wp2_with fail;refine(BM A nt kt A1 ts.length k1 w1).mono ?_;rintro e w2 ⟨rfl,hw2⟩;have hM:Mem (w1.heap.size+1) w1.heap.size A nt kt text A1 ts.length k1 ts w2:=by
  rw[<-hw2];exact⟨by simp,by simp,Sl.alloc (Sl.alloc hT1 _) _,Sl.alloc (Sl.alloc hA1 _) _⟩
 have hb4:By w w2:=by
  rw[<-hw2];exact(hb3.alloc hb3.size _).alloc (by have:=hb3.size;simp;omega) _
 have HM:=G hM;clear hw2 hM hT1 hA1 hb3;go_wp2_with fail;refine(ET (w1.heap.size+1) w1.heap.size A nt kt text A1 ts.length k1 ts _ w2 rfl hnt rfl hb1 (by omega) hasc.out HM.out).mono ?_;rintro e w3 ⟨A3,c3,rfl,hc3,hA3,hb5⟩;go_wp2_with fail;go_ret;exact⟨A3,c3,rfl,hc3,hA3,hb4.trans (hb5.mono hb4.size)⟩
end
section
open Go.RowKit Go.Maps Go.WideMaps
theorem OF{rs:List Rg}{c:Int}(h:inR 0 1114111 c=false):bH rs c=false:=by unfold bH;rw[h];rfl
theorem OI{rs:List Rg}{c:Int}(h:inR 0 1114111 c=true){k:Nat}(hk:k<rs.length)(h2:inR rs[k].lo rs[k].hi c=true):bH rs c=true:=by unfold bH;rw[h,Bool.true_and];exact iA hk h2
theorem OH{rs:List Rg}{c:Int}(h2:∀t,(ht:t<rs.length)->inR rs[t].lo rs[t].hi c=false):bH rs c=false:=by unfold bH;rw[fO h2,Bool.and_false]
theorem AQ(A:Oa)(n a:Nat)(rs:List Rg)(c:Int)(w:Wv)(hA:Rgs w A rs)(hn:rs.length=n)(hb:n<=1048576):
  Calls prog 165 #[.agg #[H A n a],I J c] w (fH (bH rs c) w):=by
 subst hn;have H0:=G (OF (rs:=rs) (c:=c));have H1:=G (fun h k hk h2=>OI (rs:=rs) (c:=c) h (k:=k) hk h2);have H2:=G (OH (rs:=rs) (c:=c));generalize bH rs c=R at *;have B0:By w (w.alloc (.cells #[H A rs.length a] 26)):=ba _ _;have k0:(w.alloc (.cells #[H A rs.length a] 26)).cell? ⟨w.heap.size,0,N⟩=Z (H A rs.length a):=by simp
 have s0:(w.alloc (.cells #[H A rs.length a] 26)).heap.size=w.heap.size+1:=by simp
 have W0E:∃W0,(w.alloc (.cells #[H A rs.length a] 26))=W0:=⟨_,rfl⟩;have HA:=G hA;clear hA;go_enter func165,ntmps165;go_wp2_with fail;obtain⟨W0,hW0⟩:=W0E;rw[hW0]at B0 k0 s0|-;clear hW0;have HA0:=G (HA.out.below B0);clear HA;cases hv:inR 0 1114111 c with
 |false=>
  obtain rfl:=H0.out hv;go_loop [5] (fun u=>∃i:Nat,i<=rs.length/\u=I J i) (fun u=>rs.length-(intOf u).toNat)
  case atStart=>exact⟨0,Nat.zero_le _,rfl⟩
  obtain⟨i,hi,rfl⟩:=hrel;by_cases hlt:i<rs.length
  ·go_wp2_with(go_at_call 97;refine(fW c _).mono ?_;rw[hv];rintro e w' ⟨rfl,rfl⟩)
   go_round
   case rel=>exact⟨i+1,by omega,by go_num⟩
   simp[intOf];omega
  go_wp2_with fail;go_ret;exact⟨rfl,B0⟩
 |true=>
  have H1:=G (H1.out hv);go_loop [5] (fun u=>∃i:Nat,i<=rs.length/\u=I J i/\(∀t,(ht:t<rs.length)->t<i->inR rs[t].lo rs[t].hi c=false)) (fun u=>rs.length-(intOf u).toNat)
  case atStart=>exact⟨0,Nat.zero_le _,rfl,fun t _ h=>by omega⟩
  obtain⟨i,hi,rfl,hno⟩:=hrel;have HNO:=G hno;clear hno;by_cases hlt:i<rs.length
  ·obtain⟨b1,o1,rfl,hbl,hcell⟩:=HA0.out.at hlt
   obtain⟨c1,c2⟩:=hcell i hlt;have HY:=G (fun h=>H1.out i hlt h);have HN:=G (fun h=>cW (P:=fun r:Rg=>inR r.lo r.hi c=false) hlt HNO.out h);clear hcell;generalize rs[i]=ri at *;obtain⟨rlo,rhi⟩:=ri;dsimp only at *;by_cases h1:rlo<=c
   ·have q1:decide (rlo<=c)=true:=by simpa using h1
    by_cases h2:c<=rhi
    ·have q2:decide (c<=rhi)=true:=by simpa using h2
     obtain rfl:=HY.out (iO h1 h2);clear HY HN H1 H2;go_wp2_with(go_at_call 97;refine(fW c _).mono ?_;rw[hv];rintro e w' ⟨rfl,rfl⟩);go_ret;exact⟨rfl,B0⟩
    have q2:decide (c<=rhi)=false:=by simpa using h2
    have HQ:=G (HN.out (mF (by omega)));clear HY HN;go_wp2_with(go_at_call 97;refine(fW c _).mono ?_;rw[hv];rintro e w' ⟨rfl,rfl⟩);go_round
    case rel=>exact⟨i+1,by omega,by go_num,HQ.out⟩
    simp[intOf];omega
   have q1:decide (rlo<=c)=false:=by simpa using h1
   have HQ:=G (HN.out (mG (by omega)));clear HY HN;go_wp2_with(go_at_call 97;refine(fW c _).mono ?_;rw[hv];rintro e w' ⟨rfl,rfl⟩);go_round
   case rel=>exact⟨i+1,by omega,by go_num,HQ.out⟩
   simp[intOf];omega
  obtain rfl:=H2.out (fun t ht=>HNO.out t ht (by omega));go_wp2_with fail;go_ret;exact⟨rfl,B0⟩
theorem WO(A:Oa)(n a:Nat)(w:Wv)(hb:n<=9223372036854775807):
  Calls prog 56 #[.agg #[H A n a]] w (fH (decide (n<=12)) w):=by
 go_enter func56,ntmps56;go_wp2_with fail;go_ret;exact⟨dK (by rw[Bool.eq_iff_iff];simp;try omega),ba _ _⟩
theorem PJ(x y:Bool)(w:Wv):Calls prog 164 #[I J 1,.bool x,.bool y] w (fun e w'=>e=.returned (.bool (x||y))/\w=w'):=by
 cases x<;>cases y
 all_goals
  go_enter func164,ntmps164;go_wp2_with fail;go_ret;exact⟨rfl,rfl⟩
def dY(l:Li)(n:Int):Bool:=l.any (fun x=>decide (n<=x))
theorem mS{l:Li}{n:Int}{k:Nat}(hk:k<l.length):dY (l.take (k+1)) n=(dY (l.take k) n||decide (n<=l[k])):=by
 unfold dY;rw[List.take_succ_eq_append_getElem hk,List.any_append];simp
theorem AG:∀{l:Li}{n x:Int},dY l n=true->bO (l++[x]) n=bO l n++[x]
 |y::r,n,x,h=>by
  simp only[List.cons_append,bO];split
  ·split<;>rfl
  next g=>
  have:dY r n=true:=by
   unfold dY at h|-;rw[List.any_cons,Bool.or_eq_true]at h;rcases h with h|h
   ·exact absurd (by simpa using h) g
   exact h
  rw[AG this];rfl
theorem AF:∀{l:Li}{n:Int},dY l n=false->bO l n=l++[n]
 | [],_,_=>rfl
 |y::r,n,h=>by
  unfold dY at h;rw[List.any_cons,Bool.or_eq_false_iff]at h;have h1:¬n<=y:=by simpa using h.1
  simp only[bO];rw[if_neg h1,AF (show dY r n=false from h.2)];rfl
theorem tW:∀{l:Li}{n x:Int},dY l n=false->n<=x->bO (l++[x]) n=l++(if n<x then [n,x]else [x])
 | [],n,x,_,hx=>by
  simp only[List.nil_append,bO,hx,if_true]
 |y::r,n,x,h,hx=>by
  unfold dY at h;rw[List.any_cons,Bool.or_eq_false_iff]at h;have h1:¬n<=y:=by simpa using h.1
  simp only[List.cons_append,bO];rw[if_neg h1,tW (show dY r n=false from h.2) hx]
def plk(l:Li)(n:Int)(k:Nat):Li:=if dY (l.take k) n=true then bO (l.take k) n else l.take k
section
variable {l:Li}{n:Int}{k:Nat}
theorem VO(hk:k<l.length)(h:dY (l.take k) n=true):plk l n (k+1)=plk l n k++[l[k]]:=by
 unfold plk;have e:=mS (n:=n) hk;rw[h,Bool.true_or]at e;rw[if_pos e,if_pos h,List.take_succ_eq_append_getElem hk,AG h]
theorem VL(hk:k<l.length)(h:dY (l.take k) n=false)(hx:n<l[k]):plk l n (k+1)=plk l n k++[n]++[l[k]]:=by
 unfold plk;have e:=mS (n:=n) hk;rw[h,Bool.false_or,show decide (n<=l[k])=true by simp;omega]at e;rw[if_pos e,if_neg (by simp[h]),List.take_succ_eq_append_getElem hk,tW h (by omega),if_pos hx];simp
theorem VK(hk:k<l.length)(h:dY (l.take k) n=false)(hx:n=l[k]):plk l n (k+1)=plk l n k++[l[k]]:=by
 unfold plk;have e:=mS (n:=n) hk;rw[h,Bool.false_or,show decide (n<=l[k])=true by simp;omega]at e;rw[if_pos e,if_neg (by simp[h]),List.take_succ_eq_append_getElem hk,tW h (by omega),if_neg (by omega)]
theorem VN(hk:k<l.length)(h:dY (l.take k) n=false)(hx:¬n<=l[k]):plk l n (k+1)=plk l n k++[l[k]]:=by
 unfold plk;have e:=mS (n:=n) hk;rw[h,Bool.false_or,show decide (n<=l[k])=false by simp;omega]at e;rw[if_neg (by simp[e]),if_neg (by simp[h]),List.take_succ_eq_append_getElem hk]
theorem VM:(plk l n k).length<=k+1:=by
 have:∀(s:Li),(bO s n).length<=s.length+1:=by
  intro s;induction s with
  |nil=>simp[bO]
  |cons y r ih=>
   simp only[bO];split
   ·split<;>simp
   simp only[List.length_cons];omega
 unfold plk;split
 ·have h:=this (l.take k)
  have:=List.length_take_le k l;omega
 have:=List.length_take_le k l;omega
theorem VJ(h:dY l n=true):plk l n l.length=bO l n:=by unfold plk;rw[List.take_length,if_pos h]
theorem VI(h:dY l n=false):plk l n l.length++[n]=bO l n:=by unfold plk;rw[List.take_length,if_neg (by simp[h]),AF h]
end
theorem pU(l:Li)(n:Int):(bO l n).length<=l.length+1:=by
 induction l with
 |nil=>simp[bO]
 |cons y r ih=>
  simp only[bO];split
  ·split<;>simp
  simp only[List.length_cons];omega
theorem AH(A:Oa)(m a:Nat)(l:Li)(n:Int)(w:Wv)(hA:aA w A l)(hm:l.length=m)(hb:m<=1048576):
  Calls prog 186 #[H A m a,I J n] w (bE (bO l n) w):=by
 subst hm;have HA:=G hA;have HN:=U (w.ownsRow w.heap.size 3 1 (H N 0 0) 0 ([]:Lv)) (World.ownsRow_nil _ _ _ _);have EY:=G (VJ (l:=l) (n:=n));have EN:=G (VI (l:=l) (n:=n));have P0:=G (show plk l n 0=[] by simp[plk,dY]);clear hA;generalize bO l n=R at *;go_enter func186,ntmps186;go_wp2_with fail;go_loopw [5,6,7] (fun v d u wr=>∃(k:Nat)(S:Oa)(c:Nat),k<=l.length/\u=I J k/\d=.bool (dY (l.take k) n)/\v=H S (plk l n k).length c/\wr.ownsRow w.heap.size 3 1 (H S (plk l n k).length c) (plk l n k).length ((plk l n k).map (Value.int .i64))/\By w wr) (fun _ _ u _=>l.length-(intOf u).toNat)
 case atStart=>exact⟨0,N,0,Nat.zero_le _,rfl,by simp[dY],by rw[P0.out];rfl,by rw[P0.out];exact HN.out,Below.refl _ _⟩
 obtain⟨k,S,c,hk,rfl,rfl,rfl,hown,hbr⟩:=hrel;have HOWN:=G hown;clear hown HN P0;have hpl:(plk l n k).length<=k+1:=VM;by_cases hlt:k<l.length
 ·obtain⟨b1,o1,rfl,hc⟩:=HA.out.at hlt
  have c0:=hc k hlt;have hbl:b1<w.heap.size:=World.block_lt_of_cell? w _ c0;have c1:=(hbr.cell (p:=⟨b1,o1+k,N⟩) hbl).trans c0;have C0:=G c0;clear c0;have GT:=G (mS (n:=n) hlt);have QY:=G (VO (n:=n) hlt);have QG:=G (VL (n:=n) hlt);have QE:=G (VK (n:=n) hlt);have QN:=G (VN (n:=n) hlt);clear hc;generalize l[k]=x at *;generalize hL0:plk l n k=L0 at *;clear hL0;have Bp:By wr (wr.alloc (.cells #[I J x] 3)):=ba _ _;have HOP:=G (aK HOWN.out Bp);have szp:w.heap.size<=(wr.alloc (.cells #[I J x] 3)).heap.size:=Nat.le_trans hbr.size Bp.size;have hb9:=hbr.trans (Bp.mono hbr.size);cases hg:dY (l.take k) n with
  |true=>
   have HQ:=G (QY.out hg);have gt:=GT.out;rw[hg,Bool.true_or]at gt;have HGT:=G gt;clear GT QY QG QE QN hg gt Bp;go_wp2_with(at_builtin;refine aJ _ _ 49 3 (I J 0) 1 8 rfl rfl underlying49 aM rfl (by decide) (by decide) rfl HOP.out rfl (bZ wr [x] 3 rfl) rfl (aR [x]) (by omega) szp ?_;intro A7 c7 w7 hown7 hc7 hb7 _ _;have HO7:=G hown7;clear hown7);go_roundw
   case rel=>exact⟨k+1,A7,c7,by omega,by go_num,by rw[HGT.out],by rw[HQ.out];simp,by rw[HQ.out];simpa using HO7.out,hb9.trans hb7⟩
   simp[intOf];omega
  |false=>
   by_cases h1:n<x
   ·have HQ:=G (QG.out hg h1)
    have gt:=GT.out;rw[hg,Bool.false_or,show decide (n<=x)=true by simp;omega]at gt;have HGT:=G gt;have q1:decide (n<=x)=true:=by simp;omega
    have q2:decide (n<x)=true:=by simpa using h1
    clear GT QY QG QE QN hg gt HOP szp hb9 Bp;have Bn:By wr (wr.alloc (.cells #[I J n] 3)):=ba _ _;have HOP:=G (aK HOWN.out Bn);have szp:w.heap.size<=(wr.alloc (.cells #[I J n] 3)).heap.size:=Nat.le_trans hbr.size Bn.size;have hb9:=hbr.trans (Bn.mono hbr.size)
    go_wp2_with(first
     |(at_builtin;refine aJ _ _ 49 3 (I J 0) 1 8 rfl rfl underlying49 aM rfl (by decide) (by decide) rfl HOP.out rfl (bZ wr [n] 3 rfl) rfl (aR [n]) (by omega) szp ?_;clear HOP;intro A7 c7 w7 hown7 hc7 hb7 hgr7 _;have hbw7:=hb9.trans hb7;have HO7:=G (aK hown7 ((Below.refl w7.heap.size w7).alloc (Nat.le_refl _) (.cells #[I J x] 3)));have c17:=(hbw7.cell (p:=⟨b1,o1+k,N⟩) hbl).trans C0.out;have sz7:=hbw7.size;clear hown7 c1)
     | (at_builtin;refine aJ _ _ 49 3 (I J 0) 1 8 rfl rfl underlying49 aM rfl (by decide) (by decide) rfl HO7.out rfl (bZ w7 [x] 3 rfl) rfl (aR [x]) (by omega) (by simp;omega) ?_;intro A8 c8 w8 hown8 hc8 hb8 hgr8 _;have HO8:=G hown8;clear hown8))
    go_roundw
    case rel=>exact⟨k+1,A8,c8,by omega,by go_num,by rw[HGT.out],by rw[HQ.out];simp,by rw[HQ.out];simpa using HO8.out,(hbw7.alloc hbw7.size _).trans hb8⟩
    simp[intOf];omega
   by_cases h2:n=x
   ·have HQ:=G (QE.out hg h2)
    have gt:=GT.out;rw[hg,Bool.false_or,show decide (n<=x)=true by simp;omega]at gt;have HGT:=G gt;have q1:decide (n<=x)=true:=by simp;omega
    have q2:decide (n<x)=false:=by simpa using h1
    clear GT QY QG QE QN hg gt Bp;subst h2;go_wp2_with(at_builtin;refine aJ _ _ 49 3 (I J 0) 1 8 rfl rfl underlying49 aM rfl (by decide) (by decide) rfl HOP.out rfl (bZ wr [n] 3 rfl) rfl (aR [n]) (by omega) szp ?_;intro A7 c7 w7 hown7 hc7 hb7 _ _;have HO7:=G hown7;clear hown7);go_roundw
    case rel=>exact⟨k+1,A7,c7,by omega,by go_num,by rw[HGT.out],by rw[HQ.out];simp,by rw[HQ.out];simpa using HO7.out,hb9.trans hb7⟩
    simp[intOf];omega
   have HQ:=G (QN.out hg (by omega));have gt:=GT.out;rw[hg,Bool.false_or,show decide (n<=x)=false by simp;omega]at gt;have HGT:=G gt;have q1:decide (n<=x)=false:=by simp;omega
   clear GT QY QG QE QN hg gt Bp;go_wp2_with(at_builtin;refine aJ _ _ 49 3 (I J 0) 1 8 rfl rfl underlying49 aM rfl (by decide) (by decide) rfl HOP.out rfl (bZ wr [x] 3 rfl) rfl (aR [x]) (by omega) szp ?_;intro A7 c7 w7 hown7 hc7 hb7 _ _;have HO7:=G hown7;clear hown7);go_roundw
   case rel=>exact⟨k+1,A7,c7,by omega,by go_num,by rw[HGT.out],by rw[HQ.out];simp,by rw[HQ.out];simpa using HO7.out,hb9.trans hb7⟩
   simp[intOf];omega
 obtain rfl:k=l.length:=by omega
 rw[List.take_length];cases hg:dY l n with
 |true=>
  have e:=EY.out hg;rw[e]at HOWN|-;clear EY EN e hg;go_wp2_with fail;go_ret;exact⟨S,c,rfl,HOWN.out,hbr⟩
 |false=>
  have HE:=G (EN.out hg);clear EY EN hg;generalize hL0:plk l n l.length=L0 at *;clear hL0;have Bn:By wr (wr.alloc (.cells #[I J n] 3)):=ba _ _;have HOP:=G (aK HOWN.out Bn);have szp:w.heap.size<=(wr.alloc (.cells #[I J n] 3)).heap.size:=Nat.le_trans hbr.size Bn.size;have hb9:=hbr.trans (Bn.mono hbr.size);go_wp2_with(at_builtin;refine aJ _ _ 49 3 (I J 0) 1 8 rfl rfl underlying49 aM rfl (by decide) (by decide) rfl HOP.out rfl (bZ wr [n] 3 rfl) rfl (aR [n]) (by omega) szp ?_;intro A7 c7 w7 hown7 hc7 hb7 _ _;have HO7:=G hown7;clear hown7);go_ret;refine⟨A7,c7,?_,?_,hb9.trans hb7⟩
  ·rw[<-HE.out];simp
  rw[<-HE.out];simpa using HO7.out
end
section
open Go.RowKit
variable {P:Program}{w:Wv}
theorem C_{ops:Array Oper}{o:Oper}{a:Act}{K:Act->Wv->Prop}{Q:Exit->Act->Wv->Prop}{E:Prop}(hgd:o.guard=N)(s x:Operand)(t e:TypeId)(z:Value)(size bytes:Nat)
  (ho:o.op=.call { callee:=.builtin .append,args:=#[s,x],argTypes:=#[t,t] }) (ht:P.underlying t=Z (.slice e))
  (hinfo:(P.info? e).map (fun i=>(i.zero,i.size,i.bytes))=Z (Z z,size,bytes)) (hzs:z.cells.size=size) (hsz:0<size) (hby:0<bytes)
  {base:Nat} {A:Oa} {n c:Nat} {xs:Lv} (hs:a.eval s=H A n c) (hown:w.ownsRow base e size (H A n c) n xs)
  {A':Oa} {m c':Nat} {news:Lv} (hx:a.eval x=H A' m c') (hr:Sl w A' news) (hl:news.length=m*size) (h1:∀u∈news,u.oneCell'=true)
  (hlim:(n+m)*bytes<=140737488355328) (hbase:base<=w.heap.size)
  (h:∀B k w',w'.ownsRow base e size (H B (n+m) k) (n+m) (xs++news)->n+m<=k->Below base w w'->w.grownBy w' (Value.ownBlock (H A n c))->(B=A\/B=Z ⟨w.heap.size,0,N⟩)->
   K (a.put o.dst (H B (n+m) k)) w'):if Region.wanted o (yielded ops a.tmps)=true then Oper.wp P o a w K Q else E:=by
 have hw:Region.wanted o (yielded ops a.tmps)=true:=by simp[Region.wanted,hgd]
 rw[if_pos hw]
 obtain⟨B,k,w',hrun,h2,h3,h4,h5,h6⟩:=BL (P:=P) t o.type e z size bytes ht hinfo hzs hsz hby hown (c':=c') hr hl h1 hlim hbase
 unfold Oper.wp execOp
 simp only[ho,resolve,invoke,builtin,Sem.run_bind,Sem.run_pure,Result.andThen_ok,List.map_toArray,List.map_cons,List.map_nil,hs,hx,hrun]
 exact h B k w' h2 h3 h4 h5 h6
end
end Go.Proofs.YtpfbnikbebccjaaGreatDoor
