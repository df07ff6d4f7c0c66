import Derived.Test.YtkhmjidaeliccaaGreatDoorD00
import Derived.Test.YtkhmjidaeliccaaGreatDoorD01
import Derived.Test.YtkhmjidaeliccaaGreatDoorD02
import Derived.Test.YtkhmjidaeliccaaGreatDoorD04
import Derived.Test.YtkhmjidaeliccaaGreatDoorD06
import Derived.Test.YtkhmjidaeliccaaGreatDoorD07
import Derived.Test.YtkhmjidaeliccaaGreatDoorD09
import Derived.Test.YtkhmjidaeliccaaGreatDoorD10
import Derived.Laws.CopyOwn
import Derived.Deep.RegionLaw
set_option maxRecDepth 100000
set_option maxHeartbeats 51200000
namespace Go.Proofs.YtkhmjidaeliccaaGreatDoor
open Option renaming none->N,some->Z
open Value renaming int->I,slice->H
open IntKind renaming i64->J
open Go.Proofs.Tryz
section
open Go.RowKit Go.Maps Go.WideMaps
def eP(cs:List Spn):Int:=cs.foldl (fun r s=>max r s.val) 0
theorem WK{cs:List Spn}{i:Nat}(hi:i<cs.length):eP (cs.take (i+1))=max (eP (cs.take i)) cs[i].val:=by
 unfold eP;rw[List.take_succ_eq_append_getElem hi,List.foldl_append];rfl
theorem WJ:∀{cs:List Spn}{s:Spn},s∈cs->s.val<=eP cs:=by
 intro cs s h;have key:∀(l:List Spn)(r:Int),r<=l.foldl (fun r s=>max r s.val) r/\∀s∈l,s.val<=l.foldl (fun r s=>max r s.val) r:=by
  intro l;induction l with
  |nil=>intro r;exact⟨Int.le_refl _,fun s h=>by cases h⟩
  |cons x l ih=>
   intro r;obtain⟨h1,h2⟩:=ih (max r x.val);refine⟨by simp only[List.foldl_cons];omega,fun s hs=>?_⟩;simp only[List.foldl_cons];rcases List.mem_cons.1 hs with rfl|hs
   ·omega
   exact h2 s hs
 exact(key cs 0).2 s h
theorem FR(cs:List Spn)(c:Int):cls cs c<=eP cs:=by
 induction cs with
 |nil=>exact Int.le_refl _
 |cons s r ih=>
  unfold cls;split
  ·exact WJ (by simp)
  refine Int.le_trans ih ?_;unfold eP;simp only[List.foldl_cons];have key:∀(l:List Spn)(a b:Int),a<=b->l.foldl (fun r s=>max r s.val) a<=l.foldl (fun r s=>max r s.val) b:=by
   intro l;induction l with
   |nil=>intro a b h;exact h
   |cons x l ih=>intro a b h;exact ih _ _ (by show max a x.val<=max b x.val;omega)
  exact key r 0 _ (by omega)
theorem Box.nobool{w:Wv}{T:Nat}{t:TypeId}{cs:Lv}(h:Box w T t cs)(hn:∀v∈cs,∀b,v≠.bool b){o:Nat}{b:Bool}:w.cell? ⟨T,o,N⟩≠Z (.bool b):=by
 unfold Box at h;intro e;simp[World.cell?,h]at e;obtain⟨h1,h2⟩:=List.getElem?_eq_some_iff.1 e;exact hn _ (List.getElem_mem h1) b h2
theorem cB.off{w w':Wv}{T:Nat}{t:TypeId}{cs:Lv}{E:Oa}{es:List Elt}(h:cB w E es)(hX:Box w T t cs)(hn:∀v∈cs,∀b,v≠.bool b)(hg:w.grownBy w' (Z T)):cB w' E es:=by
 by_cases he:es=[]
 ·subst he;exact Sl.nil _ _
 have hpos:0<es.length:=List.length_pos_iff.2 he;obtain⟨b,o,rfl,hb,hc⟩:=h.at hpos
 have hne:b≠T:=fun e=>by
  subst e;exact hX.nobool hn (hc 0 hpos).2.2.2
 intro hnn;obtain⟨b',o',hA,hc'⟩:=h hnn;injection hA with hA;injection hA with i1 i2;subst i1;subst i2;refine⟨b,o,rfl,fun j u hu=>?_⟩;exact(World.cell?_of_block (hg.block b hb (fun e=>hne (by injection e)))).trans (hc' j u hu)
theorem dE.put{w w':Wv}{T:Nat}{c:Col}{cl cl':Value}{top top':Int}(h:dE w T c cl top)(hg:w.grownBy w' (Z T))(hcl:∀b,cl≠.bool b)(hX:∀cs,Box w T 167 cs->∀A n a B m b M,cs=kO A n a B m b c M (cP c.ents) cl top->Box w' T 167 (kO A n a B m b c M (cP c.ents) cl' top')):dE w' T c cl' top':=by
 obtain⟨A,n,a,B,m,b,M,k,f,h1,h3,h4⟩:=h.ex;have hnb:∀v∈kO A n a B m b c M (cP c.ents) cl top,∀b,v≠.bool b:=by
  intro v hv x;unfold kO at hv;simp only[List.mem_cons,List.not_mem_nil,or_false]at hv;rcases hv with rfl|rfl|rfl|rfl|rfl|rfl|rfl|rfl|rfl;all_goals first|exact hcl x|(intro e;cases e)
 refine⟨A,n,a,B,m,b,M,k,f,hX _ h1 _ _ _ _ _ _ _ rfl,h3.kept hg (fun e=>?_),fun zs hz=>?_⟩
 ·injection e with e
  subst e;have h5:=h1.cell (i:=0) (v:=H A n a) rfl;rw[h3.nocell]at h5;cases h5
 have:=h4 zs hz;cases hl:aC c.ents zs with
 |none=>rw[hl]at this;exact this
 |some e=>
  rw[hl]at this;obtain⟨E,d,g1,g2⟩:=this;exact⟨E,d,g1,g2.off h1 hnb hg⟩
def BP(T:Nat)(c:Col)(cs:List Spn)(w:Wv)(e:Ending)(w':Wv):Prop:=e=.returned (.pointer (Z ⟨T,0,N⟩))/\(∃A k,dE w' T c (H A cs.length k) (eP cs)/\bD w' A cs)/\w.grownBy w' (Z T)
theorem Sl.grownT{W W':Wv}{U:Nat}{A:Oa}{cs:Lv}(h:Sl W A cs)(hg:W.grownBy W' (Z U))(hU:∀b o,A=Z ⟨b,o,N⟩->b<W.heap.size->b≠U):Sl W' A cs:=by
 intro hne;obtain⟨b,o,hA,hc⟩:=h hne;refine⟨b,o,hA,fun j u hu=>?_⟩;have h1:=hc j u hu;have hlt:=World.block_lt_of_cell? W _ h1;exact(World.cell?_of_block (hg.block b hlt (fun e=>hU b o hA hlt (by injection e)))).trans h1
theorem AI(A0:Oa)(n0 k0:Nat)(A1:Oa)(n1 k1:Nat)(A2:Oa)(n2 k2:Nat)(x:Nrm)(T:Nat)(c:Col)(w0 w:Wv)(hN:dC w0 A0 n0 A1 n1 A2 n2 x)(hz:cC x)(hL:cK w0)(hw:Below w0.heap.size w0 w)(hT0:w0.heap.size<=T)
  (hT:dE w T c (H N 0 0) 0) :
  Calls prog 65 #[.pointer (Z ⟨T,0,N⟩),.agg #[H A0 n0 k0,H A1 n1 k1,H A2 n2 k2]] w (BP T c (usN x).cls w):=by
 have DC:=G (fun W(hb:Below w0.heap.size w0 W)=>q_ A0 n0 k0 A1 n1 k1 A2 n2 k2 x W (hN.below hb) hz (hL.below hb));have HSP:=G hN.s0;have hn0:=hN.l0;have hcz:=hz.us.z0;have US:=G (z_ (x:=x));have UB:=G (zZ (x:=x));have HT:=G hT;have hTl:=hT.cl.2;clear hN hz hL hT;subst hn0;have H0:By w (w.alloc (.cells #[H A0 x.cls.length k0,H A1 n1 k1,H A2 n2 k2] 28)):=ba _ _;have X0:Box (w.alloc (.cells #[H A0 x.cls.length k0,H A1 n1 k1,H A2 n2 k2] 28)) w.heap.size 28 [H A0 x.cls.length k0,H A1 n1 k1,H A2 n2 k2]:=Box.new w _ [H A0 x.cls.length k0,H A1 n1 k1,H A2 n2 k2] rfl;have W0E:∃W0,(w.alloc (.cells #[H A0 x.cls.length k0,H A1 n1 k1,H A2 n2 k2] 28))=W0:=⟨_,rfl⟩;generalize bQ x=er at *;generalize usN x=y at *;go_enter func65,ntmps65;go_wp2_with fail;obtain⟨W0,hW0⟩:=W0E;try rw[hW0]at H0 X0|-
 clear hW0;have q0:=X0.c 0 rfl;have q1:=X0.c 1 rfl;have q2:=X0.c 2 rfl;have hs0:=X0.lt;have hbw:Below w0.heap.size w0 W0:=hw.trans (H0.mono hw.size);go_wp2_with fail;with_reducible refine(DC.out _ hbw).mono ?_
 rintro e W1 ⟨rfl,hb1⟩;have H1:=H0.trans (hb1.mono H0.size);have p0:=(hb1.cell (p:=⟨w.heap.size,0,N⟩) hs0).trans q0;have HT1:=G (HT.out.below H1);have hbw1:=hbw.trans (hb1.mono hbw.size);have hT1l:=HT1.out.cl.2;clear DC HT q0 q1 q2 X0 hb1;by_cases he:er=0
 ·obtain rfl:=US.out he
  subst he;obtain⟨A3,n3,a3,B3,m3,b3,M3,k3',f3,hX3,hM3,hTF3⟩:=HT1.out.ex;have f7:=hX3.free 7;have e7:=HT1.out.cl.1;clear hX3 hM3 hTF3;have HT2:=U (dE (W1.setCell ⟨T,7,N⟩ (H A0 y.cls.length k0)) T c (H A0 y.cls.length k0) (eP (y.cls.take 0))) (HT1.out.put (bT _ _ _) (fun _=>by intro h;cases h) (fun cs h A n a B m b M e=>by subst e;exact h.set 7 _));have hsp1:bD W1 A0 y.cls:=HSP.out.below hbw1
  have HNE:=U (y.cls≠[]->∀b o,A0=Z ⟨b,o,N⟩->b≠T) (fun hne b o hA e=>by
   obtain⟨b',o',hA',hc'⟩:=HSP.out (by cases hy:y.cls with|nil=>exact absurd hy hne|cons s r=>simp[fR])
   rw[hA]at hA'
   injection hA' with hA'
   injection hA' with i1 i2
   subst i1;subst i2
   cases hy:y.cls with
   |nil=>exact hne hy
   |cons s r=>
    have:=World.block_lt_of_cell? w0 _ (hc' 0 (I J s.lo) (by rw[hy];rfl))
    simp at this
    omega)
  have HS2:=U (bD (W1.setCell ⟨T,7,N⟩ (H A0 y.cls.length k0)) A0 y.cls) (by
   by_cases hne:y.cls=[]
   ·rw[hne];exact Sl.nil _ _
   ·exact Sl.grownT hsp1 (bT _ _ _) (fun b o hA _=>HNE.out hne b o hA))
  have HG2:=U (w.grownBy (W1.setCell ⟨T,7,N⟩ (H A0 y.cls.length k0)) (Z T)) (aV (cA (aN w _) H1) (bT _ _ _));have hTl2:T<(W1.setCell ⟨T,7,N⟩ (H A0 y.cls.length k0)).heap.size:=HT2.out.cl.2;have t7:=HT2.out.cl.1;have W2E:∃W2,(W1.setCell ⟨T,7,N⟩ (H A0 y.cls.length k0))=W2:=⟨_,rfl⟩;clear HT1 hsp1 HSP US UB;generalize y.cls=cs at *;go_wp2_with fail;obtain⟨W2,hW2⟩:=W2E;try rw[hW2]at HT2 HS2 HG2 hTl2 t7|-
  clear hW2 f7 e7;have HNE2:=HNE;clear HNE;have HNE:=G (fun(b o:Nat) (hA:A0=Z ⟨b,o,N⟩) (_:b<W2.heap.size) (hne:cs≠[])=>HNE2.out hne b o hA);go_wp2_with fail
  go_loopw [20] (fun u wr=>∃i:Nat,i<=cs.length/\u=I J i/\dE wr T c (H A0 cs.length k0) (eP (cs.take i))/\W2.grownBy wr (Z T))
   (fun u _=>cs.length-(intOf u).toNat)
  case atStart=>exact⟨0,Nat.zero_le _,rfl,HT2.out,aN _ _⟩
  obtain⟨i,hi,rfl,hT,hgr⟩:=hrel;have HTr:=G hT;clear hT;obtain⟨t7,tl⟩:=HTr.out.cl;by_cases hlt:i<cs.length
  ·obtain⟨b,o,hA,hbl,hcell⟩:=HS2.out.at hlt
   obtain⟨c1',c2',c3'⟩:=hcell i hlt;have hbT:b≠T:=HNE.out _ _ hA hbl (by rintro rfl;simp at hlt);have c1:=hgr.cell c1' (by simpa using hbT);have c2:=hgr.cell c2' (by simpa using hbT);have c3:=hgr.cell c3' (by simpa using hbT);have hbl2:b<wr.heap.size:=Nat.lt_of_lt_of_le hbl hgr.size;have LS:=G (WK hlt);subst hA;clear hcell c1' c2' c3';generalize cs[i].lo=lo at *;generalize cs[i].hi=hh at *;generalize cs[i].val=vv at *;obtain⟨A3,n3,a3,B3,m3,b3,M3,k3',f3,hX3,hM3,hTF3⟩:=HTr.out.ex;have t8:wr.cell? ⟨T,8,N⟩=Z (I J (eP (cs.take i))):=hX3.c 8 rfl;have f8:=hX3.free 8;clear hX3 hM3 hTF3;have HPT:=G (fun(v:Int)=>show dE (wr.setCell ⟨T,8,N⟩ (I J v)) T c (H (Z ⟨b,o,N⟩) cs.length k0) v from HTr.out.put (bT _ _ _) (fun _=>by intro h;cases h) (fun cs h A n a B m b M e=>by subst e;exact h.set 8 _));generalize eP (cs.take i)=l0 at *;have hne8:¬T=wr.heap.size:=by omega
   have al:∀(W:Wv)(o:Obj),By W (W.alloc o).drew:=fun W o=>(ba _ _).drew
   have HGA:=G (fun v=>show W2.grownBy ((wr.setCell ⟨T,8,N⟩ v).alloc (.cells #[I J lo,I J hh,I J vv] 182)).drew (Z T)from cA (aV hgr (bT _ _ _)) (al _ _));have HPA:=G (fun v=>(HPT.out v).below (al _ (.cells #[I J lo,I J hh,I J vv] 182)));clear HTr HPT hgr al;go_wp2_with fail;go_region
   all_goals
    go_wp2_with fail;go_roundw
    case rel=>
     refine⟨i+1,by omega,by go_num,?_,HGA.out _⟩;rw[LS.out];first|(have e:(if l0<vv then vv else l0)=max l0 vv:=by { split<;>omega };rw[<-e];exact HPA.out _)|exact HPA.out _|(rw[Int.max_comm];exact HPA.out _)
    simp[intOf];omega
  obtain rfl:i=cs.length:=by omega
  have hTT:=HTr.out;rw[List.take_length]at hTT;have HTT:=G hTT;clear hTT HTr;go_wp2_with fail;go_ret;refine⟨rfl,⟨_,_,HTT.out,?_⟩,aV HG2.out hgr⟩;by_cases hne:cs=[]
  ·rw[hne];exact Sl.nil _ _
  exact Sl.grownT HS2.out hgr (fun b o hA hb=>HNE.out _ _ hA hb hne)
 have h1:(er==0)=false:=by simpa using he
 obtain rfl:=UB.out he;have HT2:=U (dE W1 T c (H N ([]:List Spn).length 0) (eP (([]:List Spn).take 0))) HT1.out;have HS2:=U (bD W1 N []) (Sl.nil _ _);have HG2:=U (w.grownBy W1 (Z T)) (cA (aN w _) H1);have t7:=HT2.out.cl.1;clear HT1 HSP US UB;go_wp2_with fail;go_loopw [20] (fun u wr=>u=I J 0/\wr=W1) (fun u _=>0-(intOf u).toNat)
 case atStart=>exact⟨rfl,rfl⟩
 obtain⟨rfl,rfl⟩:=hrel;go_wp2_with fail;go_ret;exact⟨rfl,⟨_,_,HT2.out,HS2.out⟩,HG2.out⟩
end
section
open Go.RowKit
theorem TJ{P:Program}(w:Wv)(dT sT ty elem:TypeId)(hu:P.underlying dT=Z (.slice elem))(hsz:(P.info? elem).map (·.size)=Z 1)
  (dp sp:Oa) (dLen dCap sLen sCap:Nat) (g off:Nat) (cur:Lv) (t:TypeId) (hg:Box w g t cur) (cs:Lv) (hn:cs.length=Nat.min sLen dLen)
  (hpos:0<cs.length->dp=Z ⟨g,off,N⟩/\∃ad,sp=Z ad/\∀j v,cs[j]?=Z v->w.cell? (ad.add j)=Z v) (hfit:off+cs.length<=cur.length) (h1:∀v∈cs,v.oneCell'=true) :
  ∃w',(Builtin.copy_ #[dT,sT] ty #[H dp dLen dCap,H sp sLen sCap]).run P w=.ok (goInt cs.length) w'/\Box w' g t (splice cur off cs)/\w.grownBy w' (Z g):=by
 by_cases h0:cs.length=0
 ·obtain rfl:cs=[]:=List.eq_nil_of_length_eq_zero h0
  exact⟨w,run_copy_none (P:=P) w dT sT ty elem dp sp dLen dCap sLen sCap hu hsz (by simpa using hn.symm),by simpa[splice]using hg,aN w _⟩
 obtain⟨rfl,ad,rfl,hsrc⟩:=hpos (by omega);refine⟨_,run_copy_row (P:=P) w dT sT ty elem g off dLen dCap ad sLen sCap cur.toArray t cs hu hsz hg hn hsrc (by simpa using hfit) h1,?_,?_⟩
 ·simpa[splice,Box]using setRow_heap w g _ _ t _ hg
 exact⟨rfl,rfl,rfl,by simp[World.setRow],fun k hk hne=>setRow_other w g k _ (fun e=>hne (by rw[e]))⟩
theorem DA{P:Program}{ops:Array Oper}{Q:Exit->Act->Wv->Prop}{md:Region.Mode}{S:Wv->Prop}{i:Nat}{oi:Oper}{fuel:Nat}{listed:Array Bool}{a:Act}{w:Wv}(d:Option Tmp)(hi:ops[i]?=Z oi)(hd:oi.dst=d)
  (hr:Region.ready md ops listed=[i]) (hw:Region.wanted oi (yielded ops a.tmps)=true) (o s:Operand) (dT sT:TypeId)
  (ho:oi.op=.call { callee:=.builtin .copy,args:=#[o,s],argTypes:=#[dT,sT] }) (elem:TypeId) (hu:P.underlying dT=Z (.slice elem)) (hsz:(P.info? elem).map (·.size)=Z 1)
  (dp sp:Oa) (dLen dCap sLen sCap:Nat) (hdv:a.eval o=H dp dLen dCap) (hsv:a.eval s=H sp sLen sCap)
  (g off:Nat) (cur:Lv) (t:TypeId) (hg:Box w g t cur) (cs:Lv) (hn:cs.length=Nat.min sLen dLen)
  (hpos:0<cs.length->dp=Z ⟨g,off,N⟩/\∃ad,sp=Z ad/\∀j v,cs[j]?=Z v->w.cell? (ad.add j)=Z v)
  (hfit:off+cs.length<=cur.length) (h1:∀v∈cs,v.oneCell'=true)
  (h:∀w',Box w' g t (splice cur off cs)->w.grownBy w' (Z g)->S w'/\wpAnyH P md ops Q S fuel (listed.setIfInBounds i true) (a.put d (goInt cs.length)) w'):wpAnyH P md ops Q S (fuel+1) listed a w:=by
 subst hd;refine oF hi hr hw (fun K hK=>?_);obtain⟨w',hrun,r1,r2⟩:=TJ (P:=P) w dT sT oi.type elem hu hsz dp sp dLen dCap sLen sCap g off cur t hg cs hn hpos hfit h1;unfold Oper.wp;simp[execOp,ho,resolve,invoke,builtin,hdv,hsv,hrun,Result.andThen];have:=h w' r1 r2;exact hK.out _ _ this.1 (fun _=>this.2)
theorem Row.box{w:Wv}{b off:Nat}{e:TypeId}{pre post:Lv}{d:Li}(h:Row w b off e pre post d):Box w b e (pre++d.map (Value.int .i64)++post):=h.2
theorem Row.of_box{w:Wv}{b off:Nat}{e:TypeId}{pre post:Lv}{d:Li}(hl:pre.length=off)(h:Box w b e (pre++d.map (Value.int .i64)++post)):Row w b off e pre post d:=⟨hl,h⟩
theorem Row.ints{w:Wv}{b off:Nat}{e:TypeId}{pre post:Lv}{d:Li}(h:Row w b off e pre post d):aB w (Z ⟨b,off,N⟩) d:=by
 intro _;refine⟨b,off,rfl,fun j u hu=>?_⟩
 obtain⟨z,hz,rfl⟩:∃z,d[j]?=Z z/\u=I J z:=by
  rw[List.getElem?_map]at hu;cases hz:d[j]? with
  |none=>rw[hz]at hu;cases hu
  |some z=>rw[hz]at hu;injection hu with hu;exact⟨z,rfl,hu.symm⟩
 exact h.cell hz
theorem aB.take{w:Wv}{A:Oa}{t:Li}(h:aB w A t)(k:Nat):aB w A (t.take k):=by
 intro hne;have hne2:t.map (Value.int .i64)≠[]:=by
  intro e;have:t=[]:=by simpa using e
  subst this;simp at hne
 obtain⟨b,o,hA,hc⟩:=h hne2;refine⟨b,o,hA,fun j u hu=>hc j u ?_⟩;rw[List.map_take,List.getElem?_take]at hu;split at hu
 ·exact hu
 cases hu
theorem Row.grown{w w':Wv}{b off:Nat}{e:TypeId}{pre post:Lv}{d:Li}{r:Option Nat}(h:Row w b off e pre post d)(hg:w.grownBy w' r)(hne:Z b≠r):Row w' b off e pre post d:=h.keep (hg.block b h.lt hne)
theorem O_{pre post:Lv}{part lft r:Li}{x:Int}{off:Nat}(hl:pre.length=off):
  (splice (pre++(part++lft++x::r).map (Value.int .i64)++post) (off+part.length+1) (lft.map (Value.int .i64))).set (off+part.length) (I J x)=pre++(part++[x]++lft++r).map (Value.int .i64)++post:=by
 subst hl;obtain⟨h,tl,htl⟩:∃h tl,lft++[x]=h::tl:=by cases lft with|nil=>exact⟨x,[],rfl⟩|cons y l=>exact⟨y,l++[x],rfl⟩
 have hlen:tl.length=lft.length:=by have:=congrArg List.length htl;simp at this;omega
 have e1:pre++(part++lft++x::r).map (Value.int .i64)++post=(pre++part.map (Value.int .i64))++((I J h)::tl.map (Value.int .i64))++(r.map (Value.int .i64)++post):=by
  have:part++lft++x::r=part++(h::tl)++r:=by rw[<-htl];simp
  rw[this];simp
 have hP:(pre++part.map (Value.int .i64)).length=pre.length+part.length:=by simp
 have e4:pre++(part++[x]++lft++r).map (Value.int .i64)++post=(pre++part.map (Value.int .i64))++(I J x::(lft.map (Value.int .i64)++(r.map (Value.int .i64)++post))):=by simp
 rw[e1,e4,<-hP];generalize pre++part.map (Value.int .i64)=P at *;unfold splice;have e2:(P++(Value.int .i64 h::tl.map (Value.int .i64))++(r.map (Value.int .i64)++post)).take (P.length+1)=P++[Value.int .i64 h]:=by
  rw[List.append_assoc,List.take_append,List.take_of_length_le (by omega)];congr 1;rw[show P.length+1-P.length=1 by omega];simp
 have e3:(P++(Value.int .i64 h::tl.map (Value.int .i64))++(r.map (Value.int .i64)++post)).drop (P.length+1+(lft.map (Value.int .i64)).length)=r.map (Value.int .i64)++post:=by
  have:(P++(Value.int .i64 h::tl.map (Value.int .i64))).length=P.length+1+(lft.map (Value.int .i64)).length:=by simp[hlen];omega
  rw[<-this,List.drop_left]
 rw[e2,e3,List.append_assoc,List.set_append_right _ _ (Nat.le_refl _),Nat.sub_self];rfl
end
namespace Mtc
open Go.RowKit
section
variable {E:Type}{cl:Int->Int}{ent:Li->Option (List E)}{imp:Int->List E}
def sz(ent:Li->Option (List E))(t:Li):Nat->Nat
 |0=>0
 |k+1=>if(ent (t.take (k+1))).isSome=true then k+1 else sz ent t k
theorem sz_le(t:Li)(k:Nat):sz ent t k<=k:=by
 induction k with
 |zero=>exact Nat.le_refl _
 |succ k ih=>unfold sz;split<;>omega
theorem sz_some{t:Li}{k:Nat}(h:0<sz ent t k):(ent (t.take (sz ent t k))).isSome=true:=by
 induction k with
 |zero=>simp[sz]at h
 |succ k ih=>
  unfold sz at h|-;split
  ·next h1=>exact h1
  next h1=>rw[if_neg h1]at h;exact ih h
theorem sz_hit{t:Li}{k:Nat}(h:(ent (t.take (k+1))).isSome=true):sz ent t (k+1)=k+1:=by unfold sz;rw[if_pos h]
theorem sz_miss{t:Li}{k:Nat}(h:¬(ent (t.take (k+1))).isSome=true):sz ent t (k+1)=sz ent t k:=by
 conv=>lhs;unfold sz
 rw[if_neg h]
theorem sz_min{t:Li}{L:Nat}(hL:∀zs:Li,L<zs.length->ent zs=N):∀k,k<=t.length->sz ent t k=sz ent t (min L k)
 |0,_=>by rw[Nat.min_zero]
 |k+1,hk=>by
  by_cases h:k+1<=L
  ·rw[Nat.min_eq_right h]
  have hn:ent (t.take (k+1))=N:=hL _ (by rw[List.length_take];omega);rw[sz_miss (by rw[hn];simp),sz_min hL k (by omega)];congr 1;omega
def grow(cl:Int->Int)(ent:Li->Option (List E)):Li->Li->Int->Li->Li×Li
 |part,left,_,[]=>(part,left)
 |part,left,hi,x::r=>
  if cl x=0 then(part,left++x::r)
  else if(ent (part++[x])).isSome=true/\hi<cl x then grow cl ent (part++[x]) left hi r
  else grow cl ent part (left++[x]) (max hi (cl x)) r
theorem grow_len:∀(r part left:Li)(hi:Int),(grow cl ent part left hi r).1.length+(grow cl ent part left hi r).2.length=part.length+left.length+r.length
 | [],part,left,hi=>by simp[grow]
 |x::r,part,left,hi=>by
  unfold grow;split
  ·simp;omega
  split
  ·rw[grow_len r];simp;omega
  rw[grow_len r];simp;omega
theorem grow_part:∀(r part left:Li)(hi:Int),part.length<=(grow cl ent part left hi r).1.length
 | [],part,left,hi=>by simp[grow]
 |x::r,part,left,hi=>by
  unfold grow;split
  ·exact Nat.le_refl _
  split
  ·have:=grow_part r (part++[x]) left hi;simp at this;omega
  exact grow_part r part (left++[x]) _
theorem grow_top:∀(r part left:Li)(hi:Int),(∀x,cl x<=hi)->grow cl ent part left hi r=(part,left++r)
 | [],part,left,hi,_=>by simp[grow]
 |x::r,part,left,hi,h=>by
  unfold grow;split
  ·rfl
  rw[if_neg (by rintro⟨_,g⟩;have:=h x;omega),show max hi (cl x)=hi from by have:=h x;omega,grow_top r part _ hi h];simp
theorem grow_stop{part left r:Li}{hi x:Int}(h:cl x=0):grow cl ent part left hi (x::r)=(part,left++x::r):=by
 conv=>lhs;unfold grow
 rw[if_pos h]
theorem grow_take{part left r:Li}{hi x:Int}(h:¬cl x=0)(h1:(ent (part++[x])).isSome=true)(h2:hi<cl x):grow cl ent part left hi (x::r)=grow cl ent (part++[x]) left hi r:=by
 conv=>lhs;unfold grow
 rw[if_neg h,if_pos ⟨h1,h2⟩]
theorem grow_leave{part left r:Li}{hi x:Int}(h:¬cl x=0)(h1:¬(ent (part++[x])).isSome=true\/cl x<=hi):grow cl ent part left hi (x::r)=grow cl ent part (left++[x]) (max hi (cl x)) r:=by
 conv=>lhs;unfold grow
 rw[if_neg h,if_neg];rintro⟨g1,g2⟩;rcases h1 with h1|h1
 ·exact h1 g1
 omega
theorem grow_ent:∀(r part left:Li)(hi:Int),(ent part).isSome=true->(ent (grow cl ent part left hi r).1).isSome=true
 | [],part,left,hi,h=>by simpa[grow]using h
 |x::r,part,left,hi,h=>by
  unfold grow;split
  ·exact h
  split
  ·next h1=>exact grow_ent r _ left hi h1.1
  exact grow_ent r part _ _ h
def matched(cl:Int->Int)(ent:Li->Option (List E))(t:Li):Li×Li×Bool:=
 if sz ent t t.length=0 then(t.take 1,t.drop 1,false)
 else((grow cl ent (t.take (sz ent t t.length)) [] 0 (t.drop (sz ent t t.length))).1,(grow cl ent (t.take (sz ent t t.length)) [] 0 (t.drop (sz ent t t.length))).2,true)
theorem matched_len{t:Li}(h:t≠[]):(matched cl ent t).2.1.length<t.length/\(matched cl ent t).1.length+(matched cl ent t).2.1.length=t.length:=by
 have hp:0<t.length:=List.length_pos_iff.2 h;unfold matched;split
 ·simp only[List.length_take,List.length_drop];omega
 next hn=>
 have h1:=grow_len (cl:=cl) (ent:=ent) (t.drop (sz ent t t.length)) (t.take (sz ent t t.length)) [] 0;have h2:=grow_part (cl:=cl) (ent:=ent) (t.drop (sz ent t t.length)) (t.take (sz ent t t.length)) [] 0;have h3:=sz_le (ent:=ent) t t.length;simp only[List.length_take,List.length_drop,List.length_nil]at h1 h2;dsimp only;omega
def ofPart(ent:Li->Option (List E))(imp:Int->List E)(p:Li)(known:Bool):List E:=if known=true then(ent p).getD []else imp (p.getD 0 0)
def elemsF(cl:Int->Int)(ent:Li->Option (List E))(imp:Int->List E):Nat->Li->List E
 |0,_=>[]
 |_+1,[]=>[]
 |f+1,x::t=>ofPart ent imp (matched cl ent (x::t)).1 (matched cl ent (x::t)).2.2++elemsF cl ent imp f (matched cl ent (x::t)).2.1
theorem elemsF_more:∀(f g:Nat)(t:Li),t.length<=f->t.length<=g->elemsF cl ent imp f t=elemsF cl ent imp g t
 |0,0,t,_,_=>rfl
 |0,g+1,t,h,_=>by
  obtain rfl:t=[]:=List.length_eq_zero_iff.1 (by omega);rfl
 |f+1,0,t,_,h=>by
  obtain rfl:t=[]:=List.length_eq_zero_iff.1 (by omega);rfl
 |f+1,g+1,[],_,_=>rfl
 |f+1,g+1,x::t,h1,h2=>by
  have h:=(matched_len (cl:=cl) (ent:=ent) (t:=x::t) (by simp)).1;unfold elemsF;rw[elemsF_more f g _ (by omega) (by omega)]
def elems(cl:Int->Int)(ent:Li->Option (List E))(imp:Int->List E)(t:Li):List E:=elemsF cl ent imp t.length t
theorem elems_nil:elems cl ent imp []=[]:=rfl
theorem elems_step{t:Li}(h:t≠[]):elems cl ent imp t=ofPart ent imp (matched cl ent t).1 (matched cl ent t).2.2++elems cl ent imp (matched cl ent t).2.1:=by
 cases t with
 |nil=>exact absurd rfl h
 |cons x t=>
  have hl:=(matched_len (cl:=cl) (ent:=ent) (t:=x::t) (by simp)).1;show ofPart ent imp (matched cl ent (x::t)).1 (matched cl ent (x::t)).2.2++elemsF cl ent imp t.length (matched cl ent (x::t)).2.1=_
  rw[elemsF_more (cl:=cl) (ent:=ent) (imp:=imp) t.length (matched cl ent (x::t)).2.1.length (matched cl ent (x::t)).2.1 (by simp at hl;omega) (Nat.le_refl _)];rfl
end
end Mtc
namespace Mtc
open Go.RowKit
section
variable {E:Type}{cl:Int->Int}{ent:Li->Option (List E)}
structure MG(cl:Int->Int)(ent:Li->Option (List E))(t:Li)(z:Nat)(d part lft:Li)(i:Nat)(hi:Int):Prop where
 eq:d=part++lft++t.drop i
 at_:part.length+lft.length=i
 le:i<=t.length
 pos:0<part.length
 inv:grow cl ent part lft hi (t.drop i)=grow cl ent (t.take z) [] 0 (t.drop z)
 is:(ent part).isSome=true
variable {t d part lft:Li}{z i:Nat}{hi:Int}
theorem MG.start(h1:0<z)(h2:z<=t.length)(h3:(ent (t.take z)).isSome=true):MG cl ent t z t (t.take z) [] z 0:=
 ⟨by rw[List.append_nil,List.take_append_drop],by simp;omega,h2,by rw[List.length_take];omega,rfl,h3⟩
theorem MG.len(h:MG cl ent t z d part lft i hi):d.length=t.length:=by
 have:=h.at_;have:=h.le;rw[h.eq,List.length_append,List.length_append,List.length_drop];omega
theorem MG.get(h:MG cl ent t z d part lft i hi)(hi2:i<t.length)(hd:i<d.length):d[i]=t[i]:=by
 have e:d[i]?=t[i]?:=by
  rw[h.eq,List.getElem?_append_right (by rw[List.length_append];have:=h.at_;omega),List.length_append,h.at_,Nat.sub_self,List.getElem?_drop,Nat.add_zero]
 rw[List.getElem?_eq_getElem hi2,List.getElem?_eq_getElem hd]at e;injection e
theorem MG.drop(_:MG cl ent t z d part lft i hi)(hi2:i<t.length):t.drop i=t[i]::t.drop (i+1):=List.drop_eq_getElem_cons hi2
theorem MG.leave(h:MG cl ent t z d part lft i hi)(hi2:i<t.length)(h0:¬cl t[i]=0)(h1:¬(ent (part++[t[i]])).isSome=true\/cl t[i]<=hi){hi':Int}(hh:hi'=max hi (cl t[i])):MG cl ent t z d part (lft++[t[i]]) (i+1) hi':=by
 subst hh;refine⟨?_,by have:=h.at_;simp;omega,hi2,h.pos,?_,h.is⟩
 ·rw[h.eq,h.drop hi2];simp
 have:=h.inv;rw[h.drop hi2,grow_leave h0 h1]at this;exact this
theorem MG.take(h:MG cl ent t z d part lft i hi)(hi2:i<t.length)(h0:¬cl t[i]=0)(h1:(ent (part++[t[i]])).isSome=true)(h2:hi<cl t[i]):MG cl ent t z (part++[t[i]]++lft++t.drop (i+1)) (part++[t[i]]) lft (i+1) hi:=by
 refine⟨rfl,by have:=h.at_;simp;omega,hi2,by simp,?_,h1⟩;have:=h.inv;rw[h.drop hi2,grow_take h0 h1 h2]at this;exact this
theorem MG.stop(h:MG cl ent t z d part lft i hi)(hi2:i<t.length)(h0:cl t[i]=0):grow cl ent (t.take z) [] 0 (t.drop z)=(part,lft++t.drop i):=by
 rw[<-h.inv,h.drop hi2,grow_stop h0]
theorem MG.fin(h:MG cl ent t z d part lft i hi)(h1:i=t.length\/∀x,cl x<=hi):grow cl ent (t.take z) [] 0 (t.drop z)=(part,lft++t.drop i):=by
 rw[<-h.inv];rcases h1 with h1|h1
 ·subst h1
  rw[List.drop_length,List.append_nil];rfl
 exact grow_top _ _ _ _ h1
end
end Mtc
section
open Go.RowKit Go.Maps Go.WideMaps
def aO(c:Col)(x:Int):List Elt:=if 0<=x/\x<=1114111 then [⟨c.base+x/32768,c.second,c.third,false⟩,⟨32768+x%32768,0,0,false⟩]else []
def BE(l:List Elt)(w:Wv)(e:Ending)(w':Wv):Prop:=∃E d,e=.returned (H E l.length d)/\cB w' E l/\By w w'
theorem dE.cells{w:Wv}{T:Nat}{c:Col}{cl:Value}{top:Int}(h:dE w T c cl top):w.cell? ⟨T,2,N⟩=Z (I J c.base)/\w.cell? ⟨T,3,N⟩=Z (I J c.second)/\w.cell? ⟨T,4,N⟩=Z (I J c.third)/\w.cell? ⟨T,6,N⟩=Z (I J (cP c.ents))/\w.cell? ⟨T,8,N⟩=Z (I J top):=by
 obtain⟨A,n,a,B,m,b,M,k,f,hX,_⟩:=h.ex;exact⟨hX.c 2 rfl,hX.c 3 rfl,hX.c 4 rfl,hX.c 6 rfl,hX.c 8 rfl⟩
theorem LR(T:Nat)(c:Col)(cl:Value)(top:Int)(x:Int)(w:Wv)(hT:dE w T c cl top)(hb:1<=c.base/\c.base<=65502):
  Calls prog 126 #[.pointer (Z ⟨T,0,N⟩),I J x] w (BE (aO c x) w):=by
 obtain⟨q2,q3,q4,_,_⟩:=hT.cells;have V:=G (fun W=>gM x W);clear hT;by_cases hx:0<=x/\x<=1114111
 ·have hv:inR 0 1114111 x=true:=fU hx.1 hx.2
  have HI:=U (aO c x=[⟨c.base+x/32768,c.second,c.third,false⟩,⟨32768+x%32768,0,0,false⟩]) (if_pos hx);generalize aO c x=l at *;obtain rfl:=HI.out;rw[hv]at V;clear hv HI;generalize c.base=b at *;generalize c.second=s at *;generalize c.third=t at *;go_enter func126,ntmps126;go_wp2_with fail;with_reducible refine(V.out _).mono ?_
  rintro e w1 ⟨rfl,rfl⟩;go_wp2_with fail;go_region
  all_goals
   go_wp2_with fail;go_ret;exact⟨_,_,rfl,eE _ _ _ rfl,((Below.refl _ _).drew).alloc (Nat.le_refl _) _⟩
 have hv:inR 0 1114111 x=false:=by rw[oQ];omega
 have HI:=U (aO c x=[]) (if_neg hx);generalize aO c x=l at *;obtain rfl:=HI.out;rw[hv]at V;clear hv HI;go_enter func126,ntmps126;go_wp2_with fail;with_reducible refine(V.out _).mono ?_
 rintro e w1 ⟨rfl,rfl⟩;go_wp2_with fail;go_ret;exact⟨N,0,rfl,Sl.nil _ _,Below.refl _ _⟩
def pY(mt:Li×Li×Bool)(ent:Li->Option (List Elt))(imp:Int->List Elt)(b off:Nat)(pre post:Lv)(w:Wv)(e:Ending)(w':Wv):Prop:=
 ∃E m,e=.returned (.tuple #[I J (mt.1.length),H E (Mtc.ofPart ent imp mt.1 mt.2.2).length m,.bool mt.2.2])/\cB w' E (Mtc.ofPart ent imp mt.1 mt.2.2)/\Row w' b off 3 pre post (mt.1++mt.2.1)/\w.grownBy w' (Z b)
def nX(cl:Int->Int)(ent:Li->Option (List Elt))(imp:Int->List Elt)(b off:Nat)(pre post:Lv)(t:Li)(w:Wv)(e:Ending)(w':Wv):Prop:=pY (Mtc.matched cl ent t) ent imp b off pre post w e w'
theorem OQ{E:Type}{cl:Int->Int}{ent:Li->Option (List E)}{t:Li}(h:Mtc.sz ent t t.length=0):Mtc.matched cl ent t=(t.take 1,t.drop 1,false):=if_pos h
theorem OR{E:Type}{cl:Int->Int}{ent:Li->Option (List E)}{t:Li}{z:Nat}(h:Mtc.sz ent t t.length=z)(hz:0<z):Mtc.matched cl ent t=((Mtc.grow cl ent (t.take z) [] 0 (t.drop z)).1,(Mtc.grow cl ent (t.take z) [] 0 (t.drop z)).2,true):=by
 unfold Mtc.matched;rw[if_neg (by omega),h]
theorem LV:(prog.info? 3).map (·.size)=Z 1:=by kernel_rfl
structure pS(T:Nat)(c:Col)(cs:List Spn)(A0:Oa)(k0:Nat)(b:Nat)(w0:Wv):Prop where
 tab:dE w0 T c (H A0 cs.length k0) (eP cs)
 sp:bD w0 A0 cs
 hb:w0.heap.size<=b
 asc:Asc cs
 csz:cs.length<=1099511627776
 ent:∀x∈c.ents,1<=x.codes.length/\x.codes.length<=8
 base:1<=c.base/\c.base<=65502
end
section
open Go.RowKit
def eA(A:Oa)(a lo:Nat):Oa:=if a=lo then A else A.map (fun x=>x.add lo)
theorem aB.sub{w:Wv}{A:Oa}{t:Li}(h:aB w A t){a lo hi:Nat}(h1:lo<=hi)(h2:hi<=t.length)(h3:t.length<=a):aB w (eA A a lo) ((t.take hi).drop lo):=by
 unfold eA;by_cases e:a=lo
 ·rw[if_pos e]
  have:(t.take hi).drop lo=[]:=List.drop_of_length_le (by simp;omega);rw[this];exact Sl.nil _ _
 rw[if_neg e];by_cases hl:lo<hi
 ·obtain⟨b,o,rfl,hc⟩:=h.at (k:=lo) (by omega)
  intro _;refine⟨b,o+lo,?_,fun j u hu=>?_⟩
  ·simp only[Option.map_some,Addr.add]
   split
   ·next h0=>subst h0;rfl
   rfl
  have hj:j<hi-lo:=by
   have:=(List.getElem?_eq_some_iff.1 hu).1;simp at this;omega
  have hu2:u=I J (t[lo+j]'(by omega)):=by
   rw[List.getElem?_map,List.getElem?_drop,List.getElem?_take,if_pos (by omega),List.getElem?_eq_getElem (by omega)]at hu;simpa using hu.symm
  rw[hu2,Nat.add_assoc];exact hc (lo+j) (by omega)
 have:(t.take hi).drop lo=[]:=List.drop_of_length_le (by simp;omega);rw[this];exact Sl.nil _ _
theorem yU(A:Oa)(n a lo hi:Nat)(h1:lo<=hi)(h2:hi<=a)(W:Wv):(Instr.sliceAt 33 (H A n a) (Z (I J lo)) (Z (I J hi)) N).run prog W=.ok (H (eA A a lo) (hi-lo) (a-lo)) W:=by
 have hu:=underlying33;have he:prog.elem 33=3:=by kernel_rfl
 obtain⟨i,hi',_,hs,_⟩:=info_parts bK;rw[run_sliceAt_slice (h:=by rw[he];exact hu),run_slice_lh (ht:=by rw[he];exact hu) (h0:=by omega) (h1:=by omega) (h2:=by omega)];simp[sizeOf,typeInfo,he,hi',hs,sliced,eA]
theorem run_cutTo(A:Oa)(n a hi:Nat)(h2:hi<=a)(W:Wv):(Instr.sliceAt 33 (H A n a) N (Z (I J hi)) N).run prog W=.ok (H (eA A a 0) (hi-0) (a-0)) W:=by
 have hu:=underlying33;have he:prog.elem 33=3:=by kernel_rfl
 obtain⟨i,hi',_,hs,_⟩:=info_parts bK;rw[run_sliceAt_slice (h:=by rw[he];exact hu),run_slice_h (ht:=by rw[he];exact hu) (h0:=by omega) (h2:=by omega)];simp[sizeOf,typeInfo,he,hi',hs,sliced,eA]
theorem yV(A:Oa)(n a lo:Nat)(h1:lo<=n)(W:Wv):(Instr.sliceAt 33 (H A n a) (Z (I J lo)) N N).run prog W=.ok (H (eA A a lo) (n-lo) (a-lo)) W:=by
 have hu:=underlying33;have he:prog.elem 33=3:=by kernel_rfl
 obtain⟨i,hi',_,hs,_⟩:=info_parts bK;rw[run_sliceAt_slice (h:=by rw[he];exact hu),run_slice_l (ht:=by rw[he];exact hu) (h0:=by omega) (h1:=by omega)];simp[sizeOf,typeInfo,he,hi',hs,sliced,eA]
end
section
open Go.RowKit Go.Maps Go.WideMaps
def iZ(w:Wv)(B:Oa)(T:List (Li)):Prop:=∃vs:Lv,Sl w B vs/\vs.length=T.length/\∀i,(hi:i<T.length)->(hv:i<vs.length)->∃C c,vs[i]=H C T[i].length c/\T[i].length<=c/\aB w C T[i]
theorem iZ.below{w w':Wv}{B:Oa}{T:List (Li)}(h:iZ w B T)(hb:By w w'):iZ w' B T:=by
 obtain⟨vs,h1,h2,h3⟩:=h;exact⟨vs,h1.below hb,h2,fun i hi hv=>by obtain⟨C,c,e1,e2,e3⟩:=h3 i hi hv;exact⟨C,c,e1,e2,e3.below hb⟩⟩
theorem iZ.at{w:Wv}{B:Oa}{T:List (Li)}(h:iZ w B T){m:Nat}(hm:m<T.length):∃b o C c,B=Z ⟨b,o,N⟩/\w.cell? ⟨b,o+m,N⟩=Z (H C T[m].length c)/\T[m].length<=c/\aB w C T[m]:=by
 obtain⟨vs,h1,h2,h3⟩:=h;have hv:m<vs.length:=by omega
 obtain⟨C,c,e1,e2,e3⟩:=h3 m hm hv;obtain⟨b,o,hB,hc⟩:=h1.at hv;exact⟨b,o,C,c,hB,hc m _ (by rw[List.getElem?_eq_getElem hv,e1]),e2,e3⟩
theorem wK{W:Wv}{b i:Nat}{t:TypeId}{cs:Lv}{v:Value}{E:Oa}{R:Li}(h:aB W E R)(hX:Box W b t cs)(hv:∀(j:Nat) (z:Int),¬cs[j]?=Z (Value.int .i64 z)):aB (W.setCell ⟨b,i,N⟩ v) E R:=by
 intro hne;obtain⟨b',o,hA,hc⟩:=h hne;refine⟨b',o,hA,fun j u hu=>?_⟩;have h1:=hc j u hu;refine(World.cell?_setCell_far _ _ _ _ (fun e=>?_)).trans h1;have e':b=b':=e;subst e'
 obtain⟨z,rfl⟩:∃z,u=I J z:=by
  have hm:=List.mem_of_getElem? hu;obtain⟨z,_,rfl⟩:=List.mem_map.1 hm;exact⟨z,rfl⟩
 unfold Box at hX;simp[World.cell?,hX]at h1;exact hv _ _ h1
def fK(w:Wv)(b:Nat)(T:List (Li)):Prop:=∃vs:Lv,Box w b 33 vs/\vs.length=T.length/\∀i,(hi:i<T.length)->(hv:i<vs.length)->∃C c,vs[i]=H C T[i].length c/\T[i].length<=c/\aB w C T[i]
theorem fK.rows{w:Wv}{b:Nat}{T:List (Li)}(h:fK w b T):iZ w (Z ⟨b,0,N⟩) T:=by
 obtain⟨vs,h1,h2,h3⟩:=h;exact⟨vs,h1.sl,h2,h3⟩
theorem fK.lt{w:Wv}{b:Nat}{T:List (Li)}(h:fK w b T):b<w.heap.size:=by obtain⟨vs,h1,_⟩:=h;exact h1.lt
theorem fK.below{w w':Wv}{b:Nat}{T:List (Li)}(h:fK w b T)(hb:By w w'):fK w' b T:=by
 obtain⟨vs,h1,h2,h3⟩:=h;exact⟨vs,h1.below hb h1.lt,h2,fun i hi hv=>by obtain⟨C,c,e1,e2,e3⟩:=h3 i hi hv;exact⟨C,c,e1,e2,e3.below hb⟩⟩
theorem fK.set{w:Wv}{b:Nat}{T:List (Li)}(h:fK w b T){i:Nat}{E:Oa}{l:Li}{d:Nat}(hd:l.length<=d)(hE:aB w E l):fK (w.setCell ⟨b,i,N⟩ (H E l.length d)) b (T.set i l):=by
 obtain⟨vs,h1,h2,h3⟩:=h;have hno:∀(j:Nat)(z:Int),¬vs[j]?=Z (Value.int .i64 z):=by
  intro j z e;obtain⟨hj,e2⟩:=List.getElem?_eq_some_iff.1 e;obtain⟨C,c,e1,_⟩:=h3 j (by omega) hj;rw[e1]at e2;cases e2
 refine⟨_,h1.set i _,by simp[h2],fun j hj hv=>?_⟩;rw[List.getElem_set,List.getElem_set];by_cases hij:i=j
 ·subst hij
  rw[if_pos rfl,if_pos rfl];exact⟨E,d,rfl,hd,wK hE h1 hno⟩
 rw[if_neg hij,if_neg hij];simp only[List.length_set]at hj hv;obtain⟨C,c,e1,e2,e3⟩:=h3 j hj hv;exact⟨C,c,e1,e2,wK e3 h1 hno⟩
theorem fK.cell{w:Wv}{b:Nat}{T:List (Li)}(h:fK w b T){i:Nat}(hi:i<T.length):(∃v,w.cell? ⟨b,i,N⟩=Z v)/\w.frozen? ⟨b,i,N⟩=false:=by
 obtain⟨vs,h1,h2,h3⟩:=h;exact⟨⟨_,h1.cell (List.getElem?_eq_getElem (by omega))⟩,h1.free i⟩
theorem fK.new(w:Wv)(n:Nat):fK (w.alloc (.cells (pE n (Value.slice N 0 0)).toArray 33)) w.heap.size (List.replicate n []):=by
 refine⟨_,Box.new w 33 (pE n (Value.slice N 0 0)) rfl,by simp[pE],fun i hi hv=>⟨N,0,?_,?_,?_⟩⟩
 ·simp[pE]
 ·simp
 rw[List.getElem_replicate];exact Sl.nil _ _
section
variable {fnd:Int->Option Nat}{T:List (Li)}
end
def uA(ms:List Mp)(compat:Bool)(T:List (Li)):Prop:=eT ms compat T/\n_ ms compat T
theorem uA.start(ms:List Mp)(compat:Bool):uA ms compat (List.replicate ms.length []):=⟨eT.start ms compat,fun i _=>by
 by_cases hi:i<ms.length
 ·simp[List.getD,hi]
 ·simp[List.getD,hi]⟩
end
section
open Go.RowKit
theorem eS.hg{zs:Li}{w w':Wv}{e:Ending}(h:eS zs w e w'):tU zs w e w':=by
 obtain⟨A,c,he,ho,hb⟩:=h;refine⟨A,c,he,?_,Sl.of_own ho,hb⟩;obtain⟨_,_,hv,hc⟩:=fX ho;injection hv with _ _ hv;subst hv;exact hc
end
section
open Go.RowKit Go.Maps Go.WideMaps
def flM(x:Nrm)(compat:Bool)(t:Li):Li:=t.flatMap (dcM x.dec compat)
theorem vS{x:Nrm}(h:NOk x)(compat:Bool)(t:Li):(flM x compat t).length<=64*t.length:=by
 unfold flM;induction t with
 |nil=>simp
 |cons c t ih=>have:=vC h.st h.hg h.en h.lo compat c;rw[List.flatMap_cons,List.length_append,List.length_cons];omega
theorem xP{ms:List Mp}(hc:fM ms){compat:Bool}{c:Int}{toq:Li}(h:onM ms compat c=Z toq):∀e∈toq,iok e:=by
 intro e he;unfold onM at h;split at h
 ·next h4=>
  injection h with h;subst h;exact rT ((kY h4).2 e he).1
 cases hf:aT ms compat c with
 |none=>rw[hf]at h;cases h
 |some m=>
  rw[hf]at h;obtain⟨hm,_⟩:=gP hf;simp only[Option.map_some,Option.some.injEq]at h;rw[mH hm]at h;subst h;exact rT ((hc m hm).2.2 e he)
theorem JU{ms:List Mp}(hc:fM ms){compat:Bool}{c:Int}{l:Li}(h:bH (onM ms compat) c l):iok c->∀e∈l,iok e:=by
 induction h with
 |leaf h=>intro h1 e he;simp at he;subst he;exact h1
 | @node c toq vs h1 h2 _ ih=>
  intro _ e he;obtain⟨v,hv,he⟩:=List.mem_flatten.1 he;obtain⟨i,hi,rfl⟩:=List.getElem_of_mem hv;exact ih i (by omega) hi (xP hc h1 _ (List.getElem_mem (by omega))) e he
theorem JH{x:Nrm}(h:NOk x)(compat:Bool){t:Li}(ht:∀c∈t,iok c):(∀c∈Can.srt (clz x.cls) (flM x compat t),iok c/\dcM x.dec compat c=[c])/\Can.Ok (clz x.cls) (Can.srt (clz x.cls) (flM x compat t)):=by
 refine⟨fun c hc=>?_,Can.srt_ok _⟩;have hm:=(Can.srt_perm (flM x compat t)).mem_iff.1 hc;unfold flM at hm;obtain⟨e,he,hce⟩:=List.mem_flatMap.1 hm;exact⟨JU h.co (mV h.st h.hg h.en compat e) (ht e he) c hce,GX h.st h.hg h.en compat hce⟩
def mkF(f:Int->Option Value):Int->Option Int:=fun c=>(f c).map (fun _=>0)
theorem OX{f:Int->Option Value}{c:Int}:mkF f c=N ↔ f c=N:=by unfold mkF;cases f c<;>simp
theorem OY(f:Int->Option Value)(c:Int)(v:Value):mkF (fun y=>if y=c then Z v else f y)=dA (mkF f) c 0:=by
 funext x;unfold mkF dA;by_cases e:x=c
 ·simp[e]
 simp[e]
theorem v_{a w w':Wv}{r:Option Nat}{B:Nat}(h:a.grownBy w r)(g:Below B w w')(hB:a.heap.size<=B):a.grownBy w' r:=
 ⟨g.os.trans h.os,g.tape.trans h.tape,g.output.trans h.output,Nat.le_trans h.size g.size,fun k hk hne=>(g.block k (Nat.lt_of_lt_of_le hk hB)).trans (h.block k hk hne)⟩
theorem Sl.grownM{W W':Wv}{U:Nat}{A:Oa}{cs:Lv}(h:Sl W A cs)(hg:W.grownBy W' (Z U))(hU:∀o,W.cell? ⟨U,o,N⟩=N):Sl W' A cs:=by
 intro hne;obtain⟨b,o,rfl,hc⟩:=h hne;refine⟨b,o,rfl,fun j u hu=>?_⟩;have h1:=hc j u hu;have hq:b≠U:=fun e=>by rw[e,hU]at h1;cases h1
 exact(World.cell?_of_block (hg.block b (World.block_lt_of_cell? W _ h1) (fun e=>hq (by injection e)))).trans h1
theorem bH.noway{on:Int->Option (Li)}{c:Int}{l:Li}(h:bH on c l):¬bR on c c:=by
 have key:∀{c l},bH on c l->∀d,bR on c d->¬bR on d c:=by
  intro c l h;induction h with
  |leaf h=>
   intro d p _;rcases p.head with⟨toq,h1,_⟩|⟨x,⟨toq,h1,_⟩,_⟩
   ·rw[h]at h1;cases h1
   rw[h]at h1;cases h1
  | @node c toq vs h1 h2 h3 ih=>
   have step:∀x,iV on c x->∀y,bR on x y->¬bR on y x:=fun x⟨to',g1,g2⟩ y=>by
    rw[h1]at g1;injection g1 with g1;subst g1;obtain⟨i,hi,rfl⟩:=List.getElem_of_mem g2;exact ih i hi (by omega) y
   intro d p q;rcases p.head with e|⟨x,e,p2⟩
   ·have q2:bR on d d:=by
     rcases q.head with e2|⟨y,e2,q3⟩
     ·exact .more (.one e2) e
     exact .more q e
    exact step d e d q2 q2
   have q3:bR on d x:=.more q e;exact step x e d p2 q3
 intro p;exact key h c p p
def uM(ms:List Mp):Li:=fsM ms++(List.range 11172).map (fun i:Nat=>44032+(i:Int))
theorem WO(ms:List Mp):(uM ms).length=ms.length+11172:=by unfold uM fsM;simp
theorem PR{ms:List Mp}{b:Bool}{c:Int}{toq:Li}(h:onM ms b c=Z toq):c∈uM ms:=by
 unfold uM;rw[List.mem_append];unfold onM at h;split at h
 ·next h4=>
  right;have hr:44032<=c/\c<=55203:=by
   have h5:=(Hg.kind_range c).2;by_cases h44:Hg.kind c=4
   ·have:=nE h44;omega
   have:=nF (show Hg.kind c=5 by omega);omega
  exact List.mem_map.2 ⟨(c-44032).toNat,List.mem_range.2 (by omega),by omega⟩
 left;cases hf:aT ms b c with
 |none=>rw[hf]at h;cases h
 |some i=>
  obtain⟨hi,h1,_⟩:=gP hf;exact List.mem_map.2 ⟨ms[i],List.getElem_mem hi,h1⟩
structure XM(A0:Oa)(n0 k0:Nat)(A1:Oa)(n1 k1:Nat)(A2:Oa)(n2 k2:Nat)(ms:List Mp)(compat:Bool)(s:Nat)(w:Wv)(n:Nat)(f:Int->Option Value):Prop where
 bN:Box w s 28 [H A0 n0 k0,H A1 n1 k1,H A2 n2 k2]
 bB:Box w (s+1) 4 [.bool compat]
 mp:kR w (s+2) n f
 bM:Box w (s+3) 171 [.map (Z (s+2))]
 bX:Box w (s+4) 108 [.func (.func 118) #[] #[.pointer (Z ⟨s+3,0,N⟩),.pointer (Z ⟨s,0,N⟩),.pointer (Z ⟨s+1,0,N⟩),.pointer (Z ⟨s+4,0,N⟩)]]
 fd:∀c v,f c=Z v->∃E d l,v=H E l.length d/\l.length<=d/\bH (onM ms compat) c l/\aB w E l
section
variable {A0:Oa}{n0 k0:Nat}{A1:Oa}{n1 k1:Nat}{A2:Oa}{n2 k2:Nat}{ms:List Mp}{compat:Bool}{s:Nat}{w w':Wv}{n:Nat}{f:Int->Option Value}
theorem XM.below(h:XM A0 n0 k0 A1 n1 k1 A2 n2 k2 ms compat s w n f)(hb:By w w'):XM A0 n0 k0 A1 n1 k1 A2 n2 k2 ms compat s w' n f:=
 ⟨h.bN.below hb h.bN.lt,h.bB.below hb h.bB.lt,h.mp.below hb,h.bM.below hb h.bM.lt,h.bX.below hb h.bX.lt,fun c v e=>by
  obtain⟨E,d,l,h1,h2,h3,h4⟩:=h.fd c v e
  exact⟨E,d,l,h1,h2,h3,h4.below hb⟩⟩
theorem XM.belowB{B:Nat}(h:XM A0 n0 k0 A1 n1 k1 A2 n2 k2 ms compat s w n f)(hb:Below B w w')(hB:s+4<B)(hfd:∀c v,f c=Z v->∃E d l,v=H E l.length d/\l.length<=d/\bH (onM ms compat) c l/\aB w' E l):XM A0 n0 k0 A1 n1 k1 A2 n2 k2 ms compat s w' n f:=
 ⟨h.bN.below hb (by omega),h.bB.below hb (by omega),by
  obtain⟨D,⟨es,clock,g1,g2⟩,g3⟩:=h.mp
  exact⟨D,⟨es,clock,(hb.block _ (by omega)).trans g1,g2⟩,g3⟩,h.bM.below hb (by omega),h.bX.below hb (by omega),hfd⟩
theorem XM.put(h:XM A0 n0 k0 A1 n1 k1 A2 n2 k2 ms compat s w n f){m:Nat}{c:Int}{E:Oa}{d:Nat}{l:Li}(hm:kR w' (s+2) m (fun y=>if y=c then Z (H E l.length d)else f y))(hg:w.grownBy w' (Z (s+2)))
  (hd:l.length<=d) (hf:bH (onM ms compat) c l) (hE:aB w E l):XM A0 n0 k0 A1 n1 k1 A2 n2 k2 ms compat s w' m (fun y=>if y=c then Z (H E l.length d)else f y):=by
 refine⟨h.bN.grown hg (by simp),h.bB.grown hg (by simp),hm,h.bM.grown hg (by simp),h.bX.grown hg (by simp),fun x v e=>?_⟩;by_cases hx:x=c
 ·rw[if_pos hx]at e
  injection e with e;subst hx;exact⟨E,d,l,e.symm,hd,hf,Sl.grownM hE hg h.mp.nocell⟩
 rw[if_neg hx]at e;obtain⟨E',d',l',h1,h2,h3,h4⟩:=h.fd x v e;exact⟨E',d',l',h1,h2,h3,Sl.grownM h4 hg h.mp.nocell⟩
end
structure oA(A0:Oa)(n0 k0:Nat)(A1:Oa)(n1 k1:Nat)(A2:Oa)(n2 k2:Nat)(ms:List Mp)(compat:Bool)(s:Nat)(c:Int)(l:Li)(w:Wv)(n:Nat)(f:Int->Option Value)(E:Oa)(w':Wv)(n':Nat)(f':Int->Option Value):Prop where
 ints:aB w' E l
 st:XM A0 n0 k0 A1 n1 k1 A2 n2 k2 ms compat s w' n' f'
 gr:w.grownBy w' (Z (s+2))
 pot:n'+unmarked (uM ms) (mkF f')<=n+unmarked (uM ms) (mkF f)
 fr:∀x E' m d,f' x=Z (H E' m d)->f x=Z (H E' m d)\/m=0\/∀b o,E'=Z ⟨b,o,N⟩->w.heap.size<=b
 mks:∀x,f' x≠N->f x≠N\/x=c\/bR (onM ms compat) c x
def oB(A0:Oa)(n0 k0:Nat)(A1:Oa)(n1 k1:Nat)(A2:Oa)(n2 k2:Nat)(ms:List Mp)(compat:Bool)(s:Nat)(c:Int)(l:Li)(w:Wv)(n:Nat)(f:Int->Option Value)(e:Ending)(w':Wv):Prop:=
 ∃E d n' f',e=.returned (H E l.length d)/\l.length<=d/\oA A0 n0 k0 A1 n1 k1 A2 n2 k2 ms compat s c l w n f E w' n' f'
def XOk(A0:Oa)(n0 k0:Nat)(A1:Oa)(n1 k1:Nat)(A2:Oa)(n2 k2:Nat)(ms:List Mp)(compat:Bool)(s:Nat)(w0:Wv)(c:Int)(l:Li):Prop:=
 iok c->l.length<=4096->∀(w:Wv)(n:Nat)(f:Int->Option Value),XM A0 n0 k0 A1 n1 k1 A2 n2 k2 ms compat s w n f->Below s w0 w->n+unmarked (uM ms) (mkF f)<=1000000000->
  Calls prog 118 #[I J c,.pointer (Z ⟨s+3,0,N⟩),.pointer (Z ⟨s,0,N⟩),.pointer (Z ⟨s+1,0,N⟩),.pointer (Z ⟨s+4,0,N⟩)] w
   (oB A0 n0 k0 A1 n1 k1 A2 n2 k2 ms compat s c l w n f)
def kQ(f:Int->Option Value)(B:Oa):Prop:=∀x E m d b o b' o',f x=Z (H E m d)->E=Z ⟨b,o,N⟩->B=Z ⟨b',o',N⟩->m=0\/b≠b'
section
variable {A0:Oa}{n0 k0:Nat}{A1:Oa}{n1 k1:Nat}{A2:Oa}{n2 k2:Nat}{ms:List Mp}{compat:Bool}{s:Nat}{w w':Wv}{n:Nat}{f:Int->Option Value}
theorem XM.app(h:XM A0 n0 k0 A1 n1 k1 A2 n2 k2 ms compat s w n f){base m k:Nat}{ty:TypeId}{B:Oa}{xs:Lv}(ho:w.ownsRow base ty 1 (H B m k) m xs)(hap:kQ f B)(hg:w.grownBy w' (Value.ownBlock (H B m k)))(hb:Below base w w')(hB:s+4<base):XM A0 n0 k0 A1 n1 k1 A2 n2 k2 ms compat s w' n f:=by
 refine h.belowB hb hB fun c v e=>?_
 obtain⟨E,d,l,h1,h2,h3,h4⟩:=h.fd c v e;refine⟨E,d,l,h1,h2,h3,fun hne=>?_⟩;obtain⟨b,o,rfl,hc⟩:=h4 hne;refine⟨b,o,rfl,fun j u hu=>?_⟩;have hlt:=World.block_lt_of_cell? w _ (hc j u hu);refine(World.cell?_of_block (hg.block b hlt ?_)).trans (hc j u hu);intro e2;cases B with
 |none=>simp[Value.ownBlock]at e2
 |some a=>
  obtain⟨g,cap,cur,hv⟩:∃g cap cur,(Value.slice (Z a) m k)=H (Z ⟨g,0,N⟩) m cap/\w.heap[g]?=Z (.cells cur ty (0,0)):=by
   rcases ho.2 with⟨hv,_⟩|⟨g,cap,cur,hv,_,hg2,_⟩
   ·cases hv
   exact⟨g,cap,cur,hv,hg2⟩
  have hv1:=hv.1;injection hv1 with hv1;injection hv1 with hv1;subst hv1;simp only[Value.ownBlock,Option.some.injEq]at e2;subst h1;rcases hap c _ _ _ b o g 0 e rfl rfl with h0|h0
  ·have:l=[]:=List.eq_nil_of_length_eq_zero h0
   subst this;exact hne rfl
  exact h0 e2
theorem XM.apart_new(h:XM A0 n0 k0 A1 n1 k1 A2 n2 k2 ms compat s w n f):kQ f (Z ⟨w.heap.size,0,N⟩):=by
 intro x E m d b o b' o' e hE hB;obtain⟨E2,d2,l,h1,h2,h3,h4⟩:=h.fd x _ e;injection h1 with g1 g2 g3;subst g1;subst g2;by_cases h0:l=[]
 ·left;rw[h0];rfl
 right;obtain⟨b2,o2,hA,hc⟩:=h4 (by simpa using h0);rw[hE]at hA;injection hA with hA;injection hA with i1 i2;subst i1;subst i2;injection hB with hB;injection hB with j1 j2;obtain⟨y,r,rfl⟩:∃y r,l=y::r:=by cases l with|nil=>exact absurd rfl h0|cons y r=>exact⟨y,r,rfl⟩
 have:=World.block_lt_of_cell? w _ (hc 0 _ rfl);simp at this;omega
theorem kQ.nil(f:Int->Option Value):kQ f N:=by intro _ _ _ _ _ _ _ _ _ _ h;cases h
end
theorem tM(w:Wv):(zeroValue 33).run prog w=.ok (H N 0 0) w:=by kernel_rfl
end
end Go.Proofs.YtkhmjidaeliccaaGreatDoor
