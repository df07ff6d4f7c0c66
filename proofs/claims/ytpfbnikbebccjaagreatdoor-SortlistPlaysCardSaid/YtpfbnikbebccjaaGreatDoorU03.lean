import Derived.Test.YtpfbnikbebccjaaGreatDoorU00
import Derived.Test.YtpfbnikbebccjaaGreatDoorU01
import Derived.Test.YtpfbnikbebccjaaGreatDoorU02
import Derived.WalkLawsBesides
import Derived.DeepKeys4
import Derived.RegionTactic
import Derived.BigRegion
import Derived.StillTailTactics
import Derived.Deep.RegionWith
import Derived.Outline
import Derived.IntWalk
set_option maxRecDepth 100000
set_option maxHeartbeats 51200000
namespace Go.Proofs.YtpfbnikbebccjaaGreatDoor
open Option renaming none->N,some->Z
open Value renaming int->I,slice->H
open IntKind renaming i64->J
open Go.Proofs.Tryz
section
open Go.RowKit Go.Maps Go.WideMaps
def Box(w:Wv)(b:Nat)(t:TypeId)(cs:Lv):Prop:=w.heap[b]?=Z (.cells cs.toArray t (0,0))
section
variable {w w':Wv}{b:Nat}{t:TypeId}{cs:Lv}
theorem Box.lt(h:Box w b t cs):b<w.heap.size:=by
 rcases Nat.lt_or_ge b w.heap.size with g|g
 ·exact g
 unfold Box at h;rw[Array.getElem?_eq_none g]at h;cases h
theorem Box.cell(h:Box w b t cs){i:Nat}{v:Value}(hv:cs[i]?=Z v):w.cell? ⟨b,i,N⟩=Z v:=by
 unfold Box at h;simp[World.cell?,h,hv]
theorem Box.free(h:Box w b t cs)(i:Nat):w.frozen? ⟨b,i,N⟩=false:=by
 unfold Box at h;simp[World.frozen?,h]
theorem Box.new(w:Wv)(t:TypeId)(cs:Lv){b:Nat}(hb:b=w.heap.size):Box (w.alloc (.cells cs.toArray t)) b t cs:=by
 subst hb;show(w.heap.push _)[w.heap.size]?=_
 simp
theorem Box.below{B:Nat}(h:Box w b t cs)(hb:Below B w w')(hg:b<B):Box w' b t cs:=(hb.block b hg).trans h
theorem Box.grown{row:Option Nat}(h:Box w b t cs)(hg:w.grownBy w' row)(hne:Z b≠row):Box w' b t cs:=(hg.block b h.lt hne).trans h
theorem Box.set(h:Box w b t cs)(i:Nat)(u:Value):Box (w.setCell ⟨b,i,N⟩ u) b t (cs.set i u):=by
 unfold Box at h|-;simp[World.setCell,Array.getElem?_modify,h]
end
theorem dU(w:Wv)(p:Addr)(u:Value):w.grownBy (w.setCell p u) (Z p.block):=
 ⟨rfl,rfl,rfl,by simp[World.setCell],fun k _ hne=>Below.heap_setCell w p u k (fun e=>hne (by rw[e]))⟩
def iY(U:Nat)(w w':Wv):Prop:=w.heap.size<=w'.heap.size/\∀b,b<w.heap.size->b≠U->w'.heap[b]?=w.heap[b]?
section
variable {U:Nat}{a b c:Wv}
theorem iY.refl(U:Nat)(a:Wv):iY U a a:=⟨Nat.le_refl _,fun _ _ _=>rfl⟩
theorem iY.below(h:iY U a b)(hb:By b c):iY U a c:=⟨Nat.le_trans h.1 hb.size,fun q hq hn=>(hb.block q (Nat.lt_of_lt_of_le hq h.1)).trans (h.2 q hq hn)⟩
theorem iY.grown(h:iY U a b)(hg:b.grownBy c (Z U)):iY U a c:=⟨Nat.le_trans h.1 hg.size,fun q hq hn=>(hg.block q (Nat.lt_of_lt_of_le hq h.1) (fun e=>hn (by injection e))).trans (h.2 q hq hn)⟩
theorem iY.sl{A:Oa}{cs:Lv}(h:iY U a b)(hU:∀o,a.cell? ⟨U,o,N⟩=N)(hs:Sl a A cs):Sl b A cs:=fun hne=>by
 obtain⟨q,o,rfl,hc⟩:=hs hne;refine⟨q,o,rfl,fun j u hu=>?_⟩;have h1:=hc j u hu;have hq:q≠U:=fun e=>by rw[e,hU]at h1;cases h1
 exact(World.cell?_of_block (h.2 q (World.block_lt_of_cell? a _ h1) hq)).trans h1
end
theorem aT.nocell{κ:Type}{P:Program}{k:TypeId}{kl:κ->Lit}{ok:κ->Prop}{w:Wv}{b n:Nat}{f:κ->Option Value}(h:aT P k kl ok w b n f)(o:Nat):w.cell? ⟨b,o,N⟩=N:=by
 obtain⟨D,⟨es,clock,h1,_⟩,_⟩:=h;simp[World.cell?,h1]
section
variable {P:Program}{ops:Array Oper}{Q:Exit->Act->Wv->Prop}{md:Region.Mode}{S:Wv->Prop}
theorem lE{R:Wv->Prop}{i:Nat}{oi:Oper}{fuel:Nat}{listed:Array Bool}{a:Act}{w:Wv}(d:Option Tmp){f:FuncId}{args:Array Value}{v:Value}(hi:ops[i]?=Z oi)(hd:oi.dst=d)
  (hr:Region.ready md ops listed=[i]) (hw:Region.wanted oi (yielded ops a.tmps)=true) (he:(execOp a.eval oi).run P w=.ok (.enter f args) w)
  (hc:Calls P f args w (fun e w'=>e=.returned v/\S w'/\R w'))
  (h:∀w',S w'->R w'->wpAnyH P md ops Q S fuel (listed.setIfInBounds i true) (a.put d v) w'):wpAnyH P md ops Q S (fuel+1) listed a w:=by
 subst hd;refine wpAnyH_ready hr (by simp) (AllReadyH.cons hi (fun K hK=>?_) AllReadyH.nil);rw[if_pos hw];unfold Oper.wp;rw[he];simp only[Oper.upon];refine hc.mono ?_;rintro e w' ⟨rfl,hS',hR'⟩;exact hK.out _ _ hS' (fun hh=>h w' hh hR')
theorem mT{i:Nat}{oi:Oper}{fuel:Nat}{listed:Array Bool}{a:Act}{w:Wv}(hi:ops[i]?=Z oi)
  (hr:Region.ready md ops listed=[i]) (hw:Region.wanted oi (yielded ops a.tmps)=true)
  (h:∀K:Act->Wv->Prop,Shut (∀a w,S w->(S w->wpAnyH P md ops Q S fuel (listed.setIfInBounds i true) a w)->K a w)->Oper.wp P oi a w K Q):wpAnyH P md ops Q S (fuel+1) listed a w:=by
 refine wpAnyH_ready hr (by simp) (AllReadyH.cons hi (fun K hK=>?_) AllReadyH.nil);rw[if_pos hw];exact h K hK
theorem kC{i:Nat}{oi:Oper}{fuel:Nat}{listed:Array Bool}{a:Act}{w w':Wv}{v:Value}(d:Option Tmp)(hi:ops[i]?=Z oi)(hd:oi.dst=d)
  (hr:Region.ready md ops listed=[i]) (hw:Region.wanted oi (yielded ops a.tmps)=true) (he:(execOp a.eval oi).run P w=.ok (.value v) w') (hS:S w')
  (h:wpAnyH P md ops Q S fuel (listed.setIfInBounds i true) (a.put d v) w'):wpAnyH P md ops Q S (fuel+1) listed a w:=by
 subst hd;refine mT hi hr hw (fun K hK=>?_);unfold Oper.wp;rw[he];simp only[Oper.upon];exact hK.out _ _ hS (fun _=>h)
theorem GQ{κ:Type}[DecidableEq κ]{k:TypeId}{kl:κ->Lit}{ok:κ->Prop}{b n:Nat}{f:κ->Option Value}{i:Nat}{oi:Oper}{fuel:Nat}{listed:Array Bool}{a:Act}{w:Wv}(d:Option Tmp)(hi:ops[i]?=Z oi)(hd:oi.dst=d)
  (hr:Region.ready md ops listed=[i]) (hw:Region.wanted oi (yielded ops a.tmps)=true) (m y v:Operand) (t:TypeId) (hop:oi.op=Op.mapUpdate t m y v) {e:TypeId} (h:aT P k kl ok w b n f) (K:Keyed P k) (ht:P.underlying t=Z (.map k e)) (hn:n<maxLen)
  (hm:a.eval m=.map (Z b)) {key val:Value} {x:κ} (hy:a.eval y=key) (hv:a.eval v=val) (hx:ok x) (hkey:keyOf P k key=Z (kl x)) (hinj:∀y,ok y->kl y=kl x->y=x)
  (hS:∀w',w.grownBy w' (Z b)->S w')
  (hK:∀w',aT P k kl ok w' b (n+1) (fun y=>if y=x then Z val else f y)->w.grownBy w' (Z b)->wpAnyH P md ops Q S fuel (listed.setIfInBounds i true) (a.put d undef) w'):wpAnyH P md ops Q S (fuel+1) listed a w:=by
 subst hd;refine mT hi hr hw (fun K' hK'=>?_);obtain⟨w',hrun,r1,r2⟩:=h.put K ht hn (v:=val) hx hkey hinj;unfold Oper.wp;simp[execOp,hop,hm,hy,hv,hrun,Result.andThen];exact hK'.out _ _ (hS w' r2) (fun _=>hK w' r1 r2)
theorem GP{κ:Type}{k:TypeId}{kl:κ->Lit}{ok:κ->Prop}{b n:Nat}{f:κ->Option Value}{i:Nat}{oi:Oper}{v:Value}{fuel:Nat}{listed:Array Bool}{a:Act}{w:Wv}(d:Option Tmp)(hi:ops[i]?=Z oi)(hd:oi.dst=d)
  (hs:Region.noSelect ops=true) (hf:Region.free md ops listed i=true) (hr:(Region.ready md ops listed).contains i=true)
  (hQ:∀c a w,Q (.panic c) (a.put d v) w->Q (.panic c) a w) (hw:Region.wanted oi (yielded ops a.tmps)=true) (hS:S w)
  (m y:Operand) (t:TypeId) (hop:oi.op=Op.lookup t m y true) {e:TypeId} (h:∀w,S w->aT P k kl ok w b n f) (K:Keyed P k) (ht:P.underlying t=Z (.map k e)) {z:Value} (hz:∀w,(zeroValue e).run P w=.ok z w)
  (hm:a.eval m=.map (Z b)) {key:Value} {x:κ} (hy:a.eval y=key) (hx:ok x) (hkey:keyOf P k key=Z (kl x)) (hv:.tuple #[(f x).getD z,.bool (f x).isSome]=v)
  (hK:wpAnyH P md ops Q S fuel (listed.setIfInBounds i true) (a.put d v) w):wpAnyH P md ops Q S (fuel+1) listed a w:=by
 subst hv;refine eR d hi hd hs hf hr hQ hw hS (fun w' hS'=>?_) hK;simp[execOp,hop,hm,hy,(h w' hS').lookOk K ht (hz w') hx hkey,Result.andThen]
theorem oI{R:Value->Wv->Prop}{i:Nat}{oi:Oper}{fuel:Nat}{listed:Array Bool}{a:Act}{w:Wv}(d:Option Tmp){f:FuncId}{args:Array Value}(hi:ops[i]?=Z oi)(hd:oi.dst=d)
  (hr:Region.ready md ops listed=[i]) (hw:Region.wanted oi (yielded ops a.tmps)=true) (he:(execOp a.eval oi).run P w=.ok (.enter f args) w)
  (hc:Calls P f args w (fun e w'=>∃v,e=.returned v/\S w'/\R v w'))
  (h:∀v w',S w'->R v w'->wpAnyH P md ops Q S fuel (listed.setIfInBounds i true) (a.put d v) w'):wpAnyH P md ops Q S (fuel+1) listed a w:=by
 subst hd;refine wpAnyH_ready hr (by simp) (AllReadyH.cons hi (fun K hK=>?_) AllReadyH.nil);rw[if_pos hw];unfold Oper.wp;rw[he];simp only[Oper.upon];refine hc.mono ?_;rintro e w' ⟨v,rfl,hS',hR'⟩;exact hK.out _ _ hS' (fun hh=>h v w' hh hR')
end
theorem Box.c{w:Wv}{b:Nat}{t:TypeId}{cs:Lv}(h:Box w b t cs)(i:Nat){v:Value}(hv:cs[i]?=Z v):w.cell? ⟨b,i,N⟩=Z v:=h.cell hv
section
variable {P:Program}{ops:Array Oper}{Q:Exit->Act->Wv->Prop}{md:Region.Mode}{S:Wv->Prop}
theorem qE{R:Value->Wv->Prop}(i k:Nat){oi:Oper}{fuel:Nat}{listed l':Array Bool}{a:Act}{a':Value->Act}{w:Wv}{f:FuncId}{args:Array Value}
  (hc:Calls P f args w (fun e w'=>∃v,e=.returned v/\S w'/\R v w')) (h:∀v w',S w'->R v w'->wpAnyH P md ops Q S fuel l' (a' v) w') (hi:ops[i]?=Z oi:=by rfl) (hd:oi.dst=Z k:=by rfl)
  (hr:Region.ready md ops listed=[i]:=by kernel_rfl) (hw:Region.wanted oi (yielded ops a.tmps)=true:=by rfl) (he:(execOp a.eval oi).run P w=.ok (.enter f args) w:=by go_simp)
  (hl:listed.setIfInBounds i true=l':=by(try simp only[sA,sB,sC]);first|done|rfl)
  (ha:∀v,a.put (Z k) v=a' v:=by intro v;(try simp only[Act.put,sA,sB,sC]);first|done|rfl):wpAnyH P md ops Q S (fuel+1) listed a w:=by
 subst hl;refine oI (Z k) hi hd hr hw he hc (fun v w' h1 h2=>?_);rw[ha];exact h v w' h1 h2
theorem qK{v:Value}(i k:Nat){oi:Oper}{fuel:Nat}{listed l':Array Bool}{a a':Act}{w:Wv}{f:FuncId}{args:Array Value}
  (hc:Calls P f args w (fun e w'=>e=.returned v/\S w')) (h:∀w',S w'->wpAnyH P md ops Q S fuel l' a' w') (hi:ops[i]?=Z oi:=by rfl) (hd:oi.dst=Z k:=by rfl)
  (hr:Region.ready md ops listed=[i]:=by kernel_rfl) (hw:Region.wanted oi (yielded ops a.tmps)=true:=by rfl) (he:(execOp a.eval oi).run P w=.ok (.enter f args) w:=by go_simp)
  (hl:listed.setIfInBounds i true=l':=by(try simp only[sA,sB,sC]);first|done|rfl)
  (ha:a.put (Z k) v=a':=by(try simp only[Act.put,sA,sB,sC]);first|done|rfl):wpAnyH P md ops Q S (fuel+1) listed a w:=by
 subst hl;subst ha;exact vJ (Z k) hi hd hr hw he hc h
end
theorem al1(w:Wv)(T:TypeId)(cs:Lv):∃W0,w.alloc (.cells cs.toArray T)=W0/\By w W0/\Box W0 w.heap.size T cs:=
 ⟨_,rfl,ba _ _,Box.new w T cs rfl⟩
theorem al2(w:Wv)(T:TypeId)(cs:Lv)(T1:TypeId)(cs1:Lv):∃W0,(w.alloc (.cells cs.toArray T)).alloc (.cells cs1.toArray T1)=W0/\By w W0/\Box W0 w.heap.size T cs/\Box W0 (w.heap.size+1) T1 cs1:=
 ⟨_,rfl,(ba _ _).alloc (by simp) _,(Box.new w T cs rfl).below (B:=w.heap.size+1) ((Below.refl _ _).alloc (by simp) _) (by omega),Box.new _ _ _ (by simp)⟩
theorem al3(w:Wv)(T:TypeId)(cs:Lv)(T1:TypeId)(cs1:Lv)(T2:TypeId)(cs2:Lv):∃W0,((w.alloc (.cells cs.toArray T)).alloc (.cells cs1.toArray T1)).alloc (.cells cs2.toArray T2)=W0/\By w W0/\Box W0 w.heap.size T cs/\Box W0 (w.heap.size+1) T1 cs1/\Box W0 (w.heap.size+1+1) T2 cs2:=
 ⟨_,rfl,((ba _ _).alloc (by simp) _).alloc (by simp<;>omega) _,
  ((Box.new w T cs rfl).below (B:=w.heap.size+1) ((Below.refl _ _).alloc (by simp) _) (by omega)).below (B:=w.heap.size+1+1) ((Below.refl _ _).alloc (by simp) _) (by omega),
  (Box.new _ T1 cs1 (by simp)).below (B:=w.heap.size+1+1) ((Below.refl _ _).alloc (by simp) _) (by omega),Box.new _ _ _ (by simp)⟩
theorem y_(s:ByteArray)(w:Wv)(hs:s.size<=9223372036854775807):
  Calls prog 129 #[.string s] w fun e w'=>e=.returned (.bool (cO s))/\w=w':=by
 by_cases h1:s.size=0
 ·have h0:s.toList=[]:=gX h1
  have hn:cO s=false:=by unfold cO;simp[h1]
  rw[hn];go_enter func129,ntmps129;go_wp2;go_ret;exact⟨rfl,rfl⟩
 have h0:¬s.toList=[]:=gW h1;have h0':s.toList.isEmpty=false:=by simpa using h0
 by_cases h2:32<s.size
 ·have hn:cO s=false:=by
   unfold cO;have:¬s.size<=32:=by omega
   simp[this]
  rw[hn];have q1:decide ((32:Int)<(s.size:Int))=true:=by simp;omega
  go_enter func129,ntmps129;go_wp2;go_ret;exact⟨rfl,rfl⟩
 have q1:decide ((32:Int)<(s.size:Int))=false:=by simp;omega
 have HB0:=G (fun k(hk:k<s.size)h=>tN hk h);have HF:=G (fun h=>show cO s=true by rw[tM (s:=s) h,decide_eq_true (show 1<=s.size by omega),decide_eq_true (show s.size<=32 by omega)];rfl);generalize cO s=R at *;go_enter func129,ntmps129;go_wp2;go_loop [15] (fun i=>∃k:Nat,k<=s.size/\i=I J k/\∀j,(hj:j<s.size)->j<k->nmc (s[j].toNat:Int)) (fun i=>s.size-(intOf i).toNat)
 case atStart=>exact⟨0,Nat.zero_le _,rfl,fun j _ h=>by omega⟩
 obtain⟨k,hk,rfl,hall⟩:=hrel;have HA:=G hall;clear hall;by_cases hlt:k<s.size
 ·have HB:=G (fun h=>HB0.out k hlt h)
  have HN:=G (fun(h:nmc (s[k].toNat:Int))=>show ∀j,(hj:j<s.size)->j<k+1->nmc (s[j].toNat:Int)from fun j hj hj2=>by
   by_cases e:j<k
   ·exact HA.out j hj e
   ·obtain rfl:j=k:=by omega
    exact h)
  have HD:=U (nmc (s[k].toNat:Int) ↔ ((65<=(s[k].toNat:Int)/\(s[k].toNat:Int)<=90)\/(97<=(s[k].toNat:Int)/\(s[k].toNat:Int)<=122)\/(48<=(s[k].toNat:Int)/\(s[k].toNat:Int)<=57)\/(s[k].toNat:Int)=95)) Iff.rfl;have hlt8:=s[k].toNat_lt;obtain⟨hc1,hc2⟩|⟨hc1,hc2⟩|⟨hc1,hc2⟩|⟨hc1,hc2⟩|⟨hc1,hc2⟩|⟨hc1,hc2⟩|⟨hc1,hc2⟩|⟨hc1,hc2⟩|⟨hc1,hc2⟩:(0<=(s[k].toNat:Int)/\(s[k].toNat:Int)<=47)\/(48<=(s[k].toNat:Int)/\(s[k].toNat:Int)<=57)\/(58<=(s[k].toNat:Int)/\(s[k].toNat:Int)<=64)\/(65<=(s[k].toNat:Int)/\(s[k].toNat:Int)<=90)\/(91<=(s[k].toNat:Int)/\(s[k].toNat:Int)<=94)\/(95<=(s[k].toNat:Int)/\(s[k].toNat:Int)<=95)\/(96<=(s[k].toNat:Int)/\(s[k].toNat:Int)<=96)\/(97<=(s[k].toNat:Int)/\(s[k].toNat:Int)<=122)\/(123<=(s[k].toNat:Int)/\(s[k].toNat:Int)<=255):=by omega
  ·have hd1:decide (65<=(s[k].toNat:Int))=false:=decide_eq_false (by omega)
   have hd2:decide (97<=(s[k].toNat:Int))=false:=decide_eq_false (by omega);have hd3:decide (48<=(s[k].toNat:Int))=false:=decide_eq_false (by omega);have hd4:decide ((s[k].toNat:Int)<=90)=true:=decide_eq_true (by omega);have hd5:decide ((s[k].toNat:Int)<=122)=true:=decide_eq_true (by omega);have hd6:decide ((s[k].toNat:Int)<=57)=true:=decide_eq_true (by omega);have hc3:((s[k].toNat:Int)!=95)=true:=bne_iff_ne.2 (by omega);have HY:=G (HB.out (fun h=>by have h9:=HD.out.1 h;omega));go_wp2;go_ret;exact⟨dK HY.out.symm,rfl⟩
  ·have hd1:decide (65<=(s[k].toNat:Int))=false:=decide_eq_false (by omega)
   have hd2:decide (97<=(s[k].toNat:Int))=false:=decide_eq_false (by omega);have hd3:decide (48<=(s[k].toNat:Int))=true:=decide_eq_true (by omega);have hd4:decide ((s[k].toNat:Int)<=90)=true:=decide_eq_true (by omega);have hd5:decide ((s[k].toNat:Int)<=122)=true:=decide_eq_true (by omega);have hd6:decide ((s[k].toNat:Int)<=57)=true:=decide_eq_true (by omega);have hc3:((s[k].toNat:Int)!=95)=true:=bne_iff_ne.2 (by omega);have HY:=G (HN.out (HD.out.2 (by omega)));go_wp2;go_round
   case rel=>exact⟨k+1,by omega,by go_num,HY.out⟩
   simp[intOf];omega
  ·have hd1:decide (65<=(s[k].toNat:Int))=false:=decide_eq_false (by omega)
   have hd2:decide (97<=(s[k].toNat:Int))=false:=decide_eq_false (by omega);have hd3:decide (48<=(s[k].toNat:Int))=true:=decide_eq_true (by omega);have hd4:decide ((s[k].toNat:Int)<=90)=true:=decide_eq_true (by omega);have hd5:decide ((s[k].toNat:Int)<=122)=true:=decide_eq_true (by omega);have hd6:decide ((s[k].toNat:Int)<=57)=false:=decide_eq_false (by omega);have hc3:((s[k].toNat:Int)!=95)=true:=bne_iff_ne.2 (by omega);have HY:=G (HB.out (fun h=>by have h9:=HD.out.1 h;omega));go_wp2;go_ret;exact⟨dK HY.out.symm,rfl⟩
  ·have hd1:decide (65<=(s[k].toNat:Int))=true:=decide_eq_true (by omega)
   have hd2:decide (97<=(s[k].toNat:Int))=false:=decide_eq_false (by omega);have hd3:decide (48<=(s[k].toNat:Int))=true:=decide_eq_true (by omega);have hd4:decide ((s[k].toNat:Int)<=90)=true:=decide_eq_true (by omega);have hd5:decide ((s[k].toNat:Int)<=122)=true:=decide_eq_true (by omega);have hd6:decide ((s[k].toNat:Int)<=57)=false:=decide_eq_false (by omega);have hc3:((s[k].toNat:Int)!=95)=true:=bne_iff_ne.2 (by omega);have HY:=G (HN.out (HD.out.2 (by omega)));go_wp2;go_round
   case rel=>exact⟨k+1,by omega,by go_num,HY.out⟩
   simp[intOf];omega
  ·have hd1:decide (65<=(s[k].toNat:Int))=true:=decide_eq_true (by omega)
   have hd2:decide (97<=(s[k].toNat:Int))=false:=decide_eq_false (by omega);have hd3:decide (48<=(s[k].toNat:Int))=true:=decide_eq_true (by omega);have hd4:decide ((s[k].toNat:Int)<=90)=false:=decide_eq_false (by omega);have hd5:decide ((s[k].toNat:Int)<=122)=true:=decide_eq_true (by omega);have hd6:decide ((s[k].toNat:Int)<=57)=false:=decide_eq_false (by omega);have hc3:((s[k].toNat:Int)!=95)=true:=bne_iff_ne.2 (by omega);have HY:=G (HB.out (fun h=>by have h9:=HD.out.1 h;omega));go_wp2;go_ret;exact⟨dK HY.out.symm,rfl⟩
  ·have hd1:decide (65<=(s[k].toNat:Int))=true:=decide_eq_true (by omega)
   have hd2:decide (97<=(s[k].toNat:Int))=false:=decide_eq_false (by omega);have hd3:decide (48<=(s[k].toNat:Int))=true:=decide_eq_true (by omega);have hd4:decide ((s[k].toNat:Int)<=90)=false:=decide_eq_false (by omega);have hd5:decide ((s[k].toNat:Int)<=122)=true:=decide_eq_true (by omega);have hd6:decide ((s[k].toNat:Int)<=57)=false:=decide_eq_false (by omega);have hc3:((s[k].toNat:Int)!=95)=false:=bne_eq_false_iff_eq.2 (by omega);have HY:=G (HN.out (HD.out.2 (by omega)));go_wp2;go_round
   case rel=>exact⟨k+1,by omega,by go_num,HY.out⟩
   simp[intOf];omega
  ·have hd1:decide (65<=(s[k].toNat:Int))=true:=decide_eq_true (by omega)
   have hd2:decide (97<=(s[k].toNat:Int))=false:=decide_eq_false (by omega);have hd3:decide (48<=(s[k].toNat:Int))=true:=decide_eq_true (by omega);have hd4:decide ((s[k].toNat:Int)<=90)=false:=decide_eq_false (by omega);have hd5:decide ((s[k].toNat:Int)<=122)=true:=decide_eq_true (by omega);have hd6:decide ((s[k].toNat:Int)<=57)=false:=decide_eq_false (by omega);have hc3:((s[k].toNat:Int)!=95)=true:=bne_iff_ne.2 (by omega);have HY:=G (HB.out (fun h=>by have h9:=HD.out.1 h;omega));go_wp2;go_ret;exact⟨dK HY.out.symm,rfl⟩
  ·have hd1:decide (65<=(s[k].toNat:Int))=true:=decide_eq_true (by omega)
   have hd2:decide (97<=(s[k].toNat:Int))=true:=decide_eq_true (by omega);have hd3:decide (48<=(s[k].toNat:Int))=true:=decide_eq_true (by omega);have hd4:decide ((s[k].toNat:Int)<=90)=false:=decide_eq_false (by omega);have hd5:decide ((s[k].toNat:Int)<=122)=true:=decide_eq_true (by omega);have hd6:decide ((s[k].toNat:Int)<=57)=false:=decide_eq_false (by omega);have hc3:((s[k].toNat:Int)!=95)=true:=bne_iff_ne.2 (by omega);have HY:=G (HN.out (HD.out.2 (by omega)));go_wp2;go_round
   case rel=>exact⟨k+1,by omega,by go_num,HY.out⟩
   simp[intOf];omega
  have hd1:decide (65<=(s[k].toNat:Int))=true:=decide_eq_true (by omega);have hd2:decide (97<=(s[k].toNat:Int))=true:=decide_eq_true (by omega);have hd3:decide (48<=(s[k].toNat:Int))=true:=decide_eq_true (by omega);have hd4:decide ((s[k].toNat:Int)<=90)=false:=decide_eq_false (by omega);have hd5:decide ((s[k].toNat:Int)<=122)=false:=decide_eq_false (by omega);have hd6:decide ((s[k].toNat:Int)<=57)=false:=decide_eq_false (by omega);have hc3:((s[k].toNat:Int)!=95)=true:=bne_iff_ne.2 (by omega);have HY:=G (HB.out (fun h=>by have h9:=HD.out.1 h;omega));go_wp2;go_ret;exact⟨dK HY.out.symm,rfl⟩
 obtain rfl:=HF.out (fun j hj=>HA.out j hj (by omega));go_wp2;go_ret;exact⟨rfl,rfl⟩
theorem sY(x:ByteArray)(w:Wv):Calls prog 157 #[.string x] w fun e w'=>e=.returned (.bool false)/\w=w':=by
 go_enter func157,ntmps157;go_wp2;go_ret;exact⟨by simp,rfl⟩
theorem JM(x y:ByteArray)(w:Wv):Calls prog 130 #[.string x,.string y] w fun e w'=>e=.returned (I J (kG x y))/\w=w':=by
 unfold kG;have E0:=G (fun h1 h2=>show(x.toList==y.toList)=true by rw[ID (a:=x) (b:=y) h1 h2];simp);have E1:=G (fun(h2:bl y x=true)=>show(x.toList==y.toList)=false from uE (fun e=>by rw[e,vR]at h2;cases h2));unfold bl at *;cases h1:Op.bytesLess x.toList y.toList
 ·cases h2:Op.bytesLess y.toList x.toList
  ·have q:=E0.out h1 h2
   simp only[Bool.false_eq_true,if_false];go_enter func130,ntmps130;go_wp2_with(go_at_call 157;refine(sY _ _).mono ?_;rintro e w' ⟨rfl,rfl⟩);go_ret;exact⟨rfl,rfl⟩
  have q:=E1.out h2;simp only[Bool.false_eq_true,if_false,if_true];go_enter func130,ntmps130;go_wp2_with(go_at_call 157;refine(sY _ _).mono ?_;rintro e w' ⟨rfl,rfl⟩);go_ret;exact⟨rfl,rfl⟩
 simp only[if_true];go_enter func130,ntmps130;go_wp2_with(go_at_call 157;refine(sY _ _).mono ?_;rintro e w' ⟨rfl,rfl⟩);go_ret;exact⟨rfl,rfl⟩
def orI(x y:Int):Int:=if x=0 then y else x
theorem tQ(b:Nat)(c:Nat)(x y:Int)(w:Wv)(hA:aA w (Z ⟨b,0,N⟩) [x,y]):
  Calls prog 87 #[H (Z ⟨b,0,N⟩) 2 c] w fun e w'=>e=.returned (I J (orI x y))/\w=w':=by
 obtain⟨b',o',h0,hc⟩:=hA.at (k:=0) (by simp);injection h0 with h0;injection h0 with h0 h1;subst h0;subst h1;have c0:=hc 0 (by simp);have c1:=hc 1 (by simp);simp only[List.getElem_cons_zero,List.getElem_cons_succ]at c0 c1;clear hc hA;have O1:=G (fun(h:x≠0)=>show orI x y=x by unfold orI;rw[if_neg h]);have O2:=G (fun(h:x=0)=>show orI x y=y by unfold orI;rw[if_pos h]);generalize orI x y=R at *;go_enter func87,ntmps87;go_wp2;go_loop [8] (fun u=>∃k:Nat,k<=2/\u=I J k/\(1<=k->x=0)/\(2<=k->y=0)) (fun u=>2-(intOf u).toNat)
 case atStart=>exact⟨0,by omega,rfl,fun h=>by omega,fun h=>by omega⟩
 obtain⟨k,hk,rfl,h1,h2⟩:=hrel;have H1:=G h1;have H2:=G h2;clear h1 h2;obtain rfl|rfl|rfl:k=0\/k=1\/k=2:=by omega
 ·by_cases hx:x=0
  ·have q1:(x !=0)=false:=by simpa using hx
   have HX:=G hx;clear hx;go_wp2;go_round
   case rel=>exact⟨1,by omega,rfl,fun _=>HX.out,fun h=>by omega⟩
   simp[intOf]
  have q1:(x !=0)=true:=by simpa using hx
  obtain rfl:=O1.out hx;clear hx;go_wp2;go_ret;exact⟨rfl,rfl⟩
 ·have HX:=G (H1.out (by omega))
  by_cases hy:y=0
  ·have q1:(y !=0)=false:=by simpa using hy
   have HY:=G hy;clear hy;go_wp2;go_round
   case rel=>exact⟨2,by omega,rfl,fun _=>HX.out,fun _=>HY.out⟩
   simp[intOf]
  have q1:(y !=0)=true:=by simpa using hy
  obtain rfl:=O2.out HX.out;clear hy;go_wp2;go_ret;exact⟨rfl,rfl⟩
 have e:=O2.out (H1.out (by omega));have HR:=G (e.trans (H2.out (by omega)));clear e;go_wp2;go_ret;exact⟨aE HR.out.symm,rfl⟩
theorem JS(a b:Mp):orI (cB a.frm b.frm) (kG a.tag b.tag)=dQ a b:=by
 unfold orI cB dQ;by_cases h1:a.frm<b.frm
 ·simp[h1]
 by_cases h2:b.frm<a.frm<;>simp[h1,h2]
theorem RU(a b:Mp)(va vb:Value)(w:Wv):
  Calls prog 99 #[.agg #[I J a.frm,va,.string a.tag],.agg #[I J b.frm,vb,.string b.tag]] w (cA (dQ a b) w):=by
 have B0:By w ((w.alloc (.cells #[I J a.frm,va,.string a.tag] 116)).alloc (.cells #[I J b.frm,vb,.string b.tag] 116)):=(ba _ _).alloc (by simp) _;have s0:((w.alloc (.cells #[I J a.frm,va,.string a.tag] 116)).alloc (.cells #[I J b.frm,vb,.string b.tag] 116)).heap.size=w.heap.size+2:=by simp
 have hS0:(fun W':Wv=>W'.cell? ⟨w.heap.size,0,N⟩=Z (I J a.frm)/\W'.cell? ⟨w.heap.size,2,N⟩=Z (.string a.tag)/\W'.cell? ⟨w.heap.size+1,0,N⟩=Z (I J b.frm)/\W'.cell? ⟨w.heap.size+1,2,N⟩=Z (.string b.tag)) ((w.alloc (.cells #[I J a.frm,va,.string a.tag] 116)).alloc (.cells #[I J b.frm,vb,.string b.tag] 116)):=by refine⟨?_,?_,?_,?_⟩<;>simp
 have W0E:∃W0,((w.alloc (.cells #[I J a.frm,va,.string a.tag] 116)).alloc (.cells #[I J b.frm,vb,.string b.tag] 116))=W0:=⟨_,rfl⟩;have CM:=G (JS a b);generalize dQ a b=R at *;obtain⟨fa,ta,tga⟩:=a;obtain⟨fb,tb,tgb⟩:=b;dsimp only at *;go_enter func99,ntmps99;go_wp2_with fail;obtain⟨W0,hW0⟩:=W0E;rw[hW0]at B0 s0 hS0|-;clear hW0;have hx0:w.heap.size<W0.heap.size:=by omega
 have hx1:w.heap.size+1<W0.heap.size:=by omega
 refine wp_region_held_drew (S:=fun W'=>W'.cell? ⟨w.heap.size,0,N⟩=Z (I J fa)/\W'.cell? ⟨w.heap.size,2,N⟩=Z (.string tga)/\W'.cell? ⟨w.heap.size+1,0,N⟩=Z (I J fb)/\W'.cell? ⟨w.heap.size+1,2,N⟩=Z (.string tgb)) (by kernel_rfl) hS0 (fun hHeld=>?_);refine tK 0 5 ?_;refine tK 1 6 ?_;refine tK 2 7 ?_;refine tK 3 8 ?_;refine tK 5 10 ?_;refine tK 6 11 ?_;refine tK 7 12 ?_;refine tK 8 13 ?_;refine lE (R:=fun W'=>W0.drew=W') (i:=4) (Z 9) rfl rfl (by kernel_rfl) (by rfl) (by go_simp) ((kF fa fb W0.drew).mono (R':=fun e w'=>e=.returned (I J (cB fa fb))/\_/\W0.drew=w') (fun e w'⟨he,hw⟩=>⟨he,by subst hw;exact hHeld,hw⟩)) (fun w6 hS6 hR6=>?_);subst hR6;clear hS6;try simp only[Act.put,sA,sB,sC]
 refine lE (R:=fun W'=>W0.drew=W') (i:=9) (Z 14) rfl rfl (by kernel_rfl) (by rfl) (by go_simp) ((JM tga tgb W0.drew).mono (R':=fun e w'=>e=.returned (I J (kG tga tgb))/\_/\W0.drew=w') (fun e w'⟨he,hw⟩=>⟨he,by subst hw;exact hHeld,hw⟩)) (fun w6 hS6 hR6=>?_);subst hR6;clear hS6;try simp only[Act.put,sA,sB,sC]
 generalize cB fa fb=x at *;generalize kG tga tgb=y at *;have B1:By W0 (W0.drew.alloc (.cells #[I J x,I J y] 3)):=((Below.refl _ _).drew).alloc (Nat.le_refl _) _;have hS1:(fun W':Wv=>W'.cell? ⟨w.heap.size,0,N⟩=Z (I J fa)/\W'.cell? ⟨w.heap.size,2,N⟩=Z (.string tga)/\W'.cell? ⟨w.heap.size+1,0,N⟩=Z (I J fb)/\W'.cell? ⟨w.heap.size+1,2,N⟩=Z (.string tgb)) (W0.drew.alloc (.cells #[I J x,I J y] 3)):=⟨(B1.cell (p:=⟨w.heap.size,0,N⟩) hx0).trans hHeld.1,(B1.cell (p:=⟨w.heap.size,2,N⟩) hx0).trans hHeld.2.1,(B1.cell (p:=⟨w.heap.size+1,0,N⟩) hx1).trans hHeld.2.2.1,(B1.cell (p:=⟨w.heap.size+1,2,N⟩) hx1).trans hHeld.2.2.2⟩;have I1:=bZ W0.drew [x,y] 3 rfl;refine kC (w':=W0.drew.alloc (.cells #[I J x,I J y] 3)) (v:=H (Z ⟨W0.drew.heap.size,0,N⟩) 2 2) (i:=10) (Z 15) rfl rfl (by kernel_rfl) (by rfl) (by go_simp) hS1 ?_;try simp only[Act.put,sA,sB,sC]
 refine lE (R:=fun W'=>W0.drew.alloc (.cells #[I J x,I J y] 3)=W') (i:=11) (Z 16) rfl rfl (by kernel_rfl) (by rfl) (by go_simp) ((tQ _ 2 x y _ I1).mono (R':=fun e w'=>e=.returned (I J (orI x y))/\_/\W0.drew.alloc (.cells #[I J x,I J y] 3)=w') (fun e w'⟨he,hw⟩=>⟨he,by subst hw;exact hS1,hw⟩)) (fun w6 hS6 hR6=>?_);subst hR6;try simp only[Act.put,sA,sB,sC]
 refine tK 12 4 ?_;refine wpAnyH_done (by kernel_rfl) ?_ _;go_wp2_with fail;go_ret;exact⟨aE CM.out,B0.trans (B1.mono B0.size)⟩
def lO(x:Int×ByteArray):Value:=.agg #[I J x.1,.string x.2]
theorem XH(tmps:Array Value)(w:Wv){b:Nat}{z0:Int}{s1:ByteArray}(ha:tmps.getD 2 undef=.pointer (Z ⟨b,0,N⟩))
  (c0:w.cell? ⟨b,0,N⟩=Z (I J z0)) (c1:w.cell? ⟨b,1,N⟩=Z (.string s1)) :
  (results f100 tmps).run prog w=.ok (.agg #[I J z0,.string s1]) w:=by
 have hr:f100.results=#[.cell 2 153]:=rfl;unfold results;rw[hr];simp only[ha,List.mapM_toArray,List.mapM_cons,List.mapM_nil,asAddr];go_simp
theorem RX(a:Mp)(va:Value)(w:Wv):
  Calls prog 100 #[.agg #[I J a.frm,va,.string a.tag]] w (fun e w'=>e=.returned (lO (aY a))/\By w w'):=by
 go_enter func100,ntmps100;go_wp2_with fail;(try simp only[Exit.inBlock,Exit.then]);refine bodyPost_ret (XH _ _ (b:=w.heap.size+1) (z0:=a.frm) (s1:=a.tag) rfl (by go_simp) (by go_simp)) rfl ?_;exact⟨rfl,(ba _ _).alloc (by simp) _⟩
theorem pK:Keyed prog 153:=Keyed.of_law (deep_law_laid (by kernel_rfl) (m:=2) (by omega) (of_decide_eq_true (by kernel_rfl)) (by kernel_rfl) (by kernel_rfl))
noncomputable def mJ(x:Int×ByteArray):Lit:=(keyOf prog 153 (lO x)).getD (.bool false)
def mok(x:Int×ByteArray):Prop:=(Lit.int .i64 x.1).wf=true/\x.2.size<=maxLen
theorem nE{x:Int×ByteArray}(h:mok x):keyOf prog 153 (lO x)=Z (mJ x):=by
 have h9:(keyOf prog 153 (lO x)).isSome=true:=by
  obtain⟨f,t⟩:=x;obtain⟨h1,h2⟩:=h;dsimp only at h1 h2;have hk:prog.keyType 153=true:=by kernel_rfl
  have hu:=underlying153;have hi:=underlying3;have hs:=underlying9;have hc2:prog.cellsOf 153=2:=by kernel_rfl
  have hc1:prog.cellsOf 3=1:=by kernel_rfl
  have hc3:prog.cellsOf 9=1:=by kernel_rfl
  obtain⟨m,hm⟩:∃m,prog.types.size=m+1:=⟨prog.types.size-1,by kernel_rfl⟩;unfold keyOf lO;rw[hu];simp only[hk,hm,Value.formed,hu,hc2];unfold Program.keyLits;rw[hu];simp only[hc2];simp[Program.keyLits,hi,hs,hc1,hc3,h1,h2,Value.cells]
 unfold mJ;cases hk:keyOf prog 153 (lO x)with
 |none=>rw[hk]at h9;cases h9
 |some y=>rfl
theorem SQ{x y:Int×ByteArray}(hx:mok x)(hy:mok y)(h:mJ x=mJ y):x=y:=by
 have a:=nE hx;have b:=nE hy;rw[h]at a;have:=pK.inj a b;obtain⟨x1,x2⟩:=x;obtain⟨y1,y2⟩:=y;unfold lO at this;simp at this;rw[this.1,this.2]
noncomputable instance (x:Int×ByteArray) (l:List (Int×ByteArray)):Decidable (x∈l):=Classical.propDecidable _
noncomputable def jZ(l:List (Int×ByteArray))(x:Int×ByteArray):Option Value:=if x∈l then Z (.bool true)else N
theorem ZD{l:List (Int×ByteArray)}{s:Int×ByteArray}(h:s∈l):(jZ l s).getD (.bool false)=.bool true:=by unfold jZ;rw[if_pos h];rfl
theorem ZB{l:List (Int×ByteArray)}{s:Int×ByteArray}(h:s ∉ l):(jZ l s).getD (.bool false)=.bool false:=by unfold jZ;rw[if_neg h];rfl
theorem ZC(l:List (Int×ByteArray))(s x:Int×ByteArray):jZ (l++[s]) x=if x=s then Z (.bool true)else jZ l x:=by
 unfold jZ;by_cases e:x=s
 ·simp[e]
 simp[e]
theorem EJ(w:Wv):(zeroValue 4).run prog w=.ok (.bool false) w:=by kernel_rfl
end
namespace Srt
section
variable {α:Type}(key:α->Int)
def kf(d:List α)(i:Nat):Int:=(d[i]?.map key).getD 0
def St(d d':List α):Prop:=∀k:Int,d'.filter (fun x=>key x==k)=d.filter (fun x=>key x==k)
def SortedOn(d:List α)(a b:Nat):Prop:=∀i j,a<=i->i<j->j<b->kf key d i<=kf key d j
def Same(d d':List α)(a b:Nat):Prop:=d'.length=d.length/\∀t,t<a\/b<=t->d'[t]?=d[t]?
variable {key}
theorem St.refl(d:List α):St key d d:=fun _=>rfl
theorem St.trans{a b c:List α}(h:St key a b)(g:St key b c):St key a c:=fun k=>(g k).trans (h k)
theorem St.append{a a' b b':List α}(h:St key a a')(g:St key b b'):St key (a++b) (a'++b'):=fun k=>by
 rw[List.filter_append,List.filter_append,h k,g k]
theorem St.flip{u v:List α}(h:∀x∈u,∀y∈v,key x≠key y):St key (u++v) (v++u):=fun k=>by
 rw[List.filter_append,List.filter_append];by_cases hu:u.filter (fun x=>key x==k)=[]
 ·rw[hu];simp
 have hv:v.filter (fun x=>key x==k)=[]:=by
  rw[List.filter_eq_nil_iff];intro y hy hk;rw[List.filter_eq_nil_iff]at hu;apply hu;intro x hx hk2;exact h x hx y hy (by rw[eq_of_beq hk2,eq_of_beq hk])
 rw[hv];simp
theorem Same.refl(d:List α)(a b:Nat):Same d d a b:=⟨rfl,fun _ _=>rfl⟩
theorem Same.trans{x y z:List α}{a b:Nat}(h:Same x y a b)(g:Same y z a b):Same x z a b:=⟨g.1.trans h.1,fun t ht=>(g.2 t ht).trans (h.2 t ht)⟩
theorem Same.mono{x y:List α}{a b a' b':Nat}(h:Same x y a b)(ha:a'<=a)(hb:b<=b'):Same x y a' b':=⟨h.1,fun t ht=>h.2 t (by omega)⟩
theorem Same.kf{x y:List α}{a b t:Nat}(h:Same x y a b)(ht:t<a\/b<=t):kf key y t=kf key x t:=by unfold Srt.kf;rw[h.2 t ht]
def swp(d:List α)(i j:Nat)(x y:α):List α:=(d.set i y).set j x
def Rot(d d':List α)(a m b:Nat):Prop:=
 d'.length=d.length/\∀t,d'[t]?=if a<=t/\t<a+(b-m)then d[t+(m-a)]? else if a+(b-m)<=t/\t<b then d[t-(b-m)]? else d[t]?
theorem Rot.same{d d':List α}{a m b:Nat}(h:Rot d d' a m b)(h1:a<=m)(h2:m<=b):Same d d' a b:=
 ⟨h.1,fun t ht=>by rw[h.2 t,if_neg (by omega),if_neg (by omega)]⟩
theorem parts(d:List α)(a m b:Nat)(h1:a<=m)(h2:m<=b):d=d.take a++((d.drop a).take (m-a)++(d.drop m).take (b-m))++d.drop b:=by
 apply List.ext_getElem?;intro t;simp only[List.getElem?_append,List.length_append,List.length_take,List.length_drop,List.getElem?_take,List.getElem?_drop];by_cases hb:b<=d.length
 ·(repeat' split)<;>first|rfl|omega|(congr 1;omega)
 by_cases ht:t<d.length
 ·(repeat' split)<;>first|rfl|omega|(congr 1;omega)
 rw[List.getElem?_eq_none (by omega)];(repeat' split)<;>first|rfl|omega|(rw[List.getElem?_eq_none (by omega)])
theorem Rot.parts{d d':List α}{a m b:Nat}(h:Rot d d' a m b)(h1:a<=m)(h2:m<=b)(hb:b<=d.length):
  d'=d.take a++((d.drop m).take (b-m)++(d.drop a).take (m-a))++d.drop b:=by
 apply List.ext_getElem?;intro t;rw[h.2 t];simp only[List.getElem?_append,List.length_append,List.length_take,List.length_drop,List.getElem?_take,List.getElem?_drop];(repeat' split)<;>first|rfl|omega|(congr 1;omega)
theorem Rot.st{d d':List α}{a m b:Nat}(h:Rot d d' a m b)(h1:a<=m)(h2:m<=b)(hb:b<=d.length)
  (hk:∀i j,a<=i->i<m->m<=j->j<b->kf key d i≠kf key d j):St key d d':=by
 rw[h.parts h1 h2 hb];conv=>lhs;rw[Srt.parts d a m b h1 h2]
 refine St.append (St.append (St.refl _) (St.flip fun x hx y hy=>?_)) (St.refl _);obtain⟨i,hi⟩:=List.mem_iff_getElem?.1 hx;obtain⟨j,hj⟩:=List.mem_iff_getElem?.1 hy;rw[List.getElem?_take]at hi hj;split at hi
 ·split at hj
  ·rw[List.getElem?_drop]at hi hj
   have:=hk (a+i) (m+j) (by omega) (by omega) (by omega) (by omega);unfold Srt.kf at this;rw[hi,hj]at this;exact this
  cases hj
 cases hi
theorem swp_get(d:List α)(i j t:Nat)(x y:α)(hx:d[i]?=Z x)(hy:d[j]?=Z y)(hij:i≠j):
  (swp d i j x y)[t]?=if t=i then d[j]? else if t=j then d[i]? else d[t]?:=by
 have hi:i<d.length:=(List.getElem?_eq_some_iff.1 hx).1;have hj:j<d.length:=(List.getElem?_eq_some_iff.1 hy).1;unfold swp;simp only[List.getElem?_set,List.length_set];(repeat' split)<;>first|rfl|omega|(subst_vars;simp_all)
theorem swp_len(d:List α)(i j:Nat)(x y:α):(swp d i j x y).length=d.length:=by simp[swp]
theorem swp_rot(d:List α)(i:Nat)(x y:α)(hx:d[i]?=Z x)(hy:d[i+1]?=Z y):Rot d (swp d i (i+1) x y) i (i+1) (i+2):=by
 refine⟨swp_len _ _ _ _ _,fun t=>?_⟩;rw[swp_get d i (i+1) t x y hx hy (by omega)];by_cases e1:t=i
 ·subst e1;rw[if_pos rfl,if_pos (by omega)];congr 1;omega
 rw[if_neg e1];by_cases e2:t=i+1
 ·subst e2;rw[if_pos rfl,if_neg (by omega),if_pos (by omega)];congr 1;omega
 rw[if_neg e2,if_neg (by omega),if_neg (by omega)]
theorem kf_some{d:List α}{i:Nat}{x:α}(h:d[i]?=Z x):kf key d i=key x:=by unfold kf;rw[h];rfl
theorem swp_kf(d:List α)(i j t:Nat)(x y:α)(hx:d[i]?=Z x)(hy:d[j]?=Z y)(hij:i≠j):
  kf key (swp d i j x y) t=if t=i then kf key d j else if t=j then kf key d i else kf key d t:=by
 unfold kf;rw[swp_get d i j t x y hx hy hij];(repeat' split)<;>rfl
def Ins(key:α->Int)(d:List α)(a i j:Nat):Prop:=
 (∀p q,a<=p->p<q->q<=i->p≠j->q≠j->kf key d p<=kf key d q)/\(∀q,j<q->q<=i->kf key d j<=kf key d q)
theorem Ins.start{d:List α}{a i:Nat}(h:SortedOn key d a i):Ins key d a i i:=
 ⟨fun p q hp hpq hq _ hqj=>h p q hp hpq (by omega),fun q h1 h2=>by omega⟩
theorem Ins.step{d:List α}{a i j:Nat}{x y:α}(h:Ins key d a i (j+1))(hj:a<=j)(hji:j+1<=i)(hx:d[j]?=Z x)(hy:d[j+1]?=Z y)(hlt:key y<key x):
  Ins key (swp d j (j+1) x y) a i j:=by
 have kx:=kf_some (key:=key) hx;have ky:=kf_some (key:=key) hy;refine⟨fun p q hp hpq hq hpj hqj=>?_,fun q h1 h2=>?_⟩
 ·rw[swp_kf d j (j+1) p x y hx hy (by omega),swp_kf d j (j+1) q x y hx hy (by omega)]
  rw[if_neg hpj,if_neg hqj];by_cases e1:p=j+1
  ·rw[if_pos e1]
   rw[if_neg (by omega)];exact h.1 j q hj (by omega) hq (by omega) (by omega)
  rw[if_neg e1];by_cases e2:q=j+1
  ·rw[if_pos e2]
   exact h.1 p j hp (by omega) (by omega) e1 (by omega)
  rw[if_neg e2];exact h.1 p q hp hpq hq e1 e2
 rw[swp_kf d j (j+1) j x y hx hy (by omega),swp_kf d j (j+1) q x y hx hy (by omega)];rw[if_pos rfl,if_neg (by omega)];by_cases e2:q=j+1
 ·rw[if_pos e2];omega
 rw[if_neg e2];exact h.2 q (by omega) h2
theorem Ins.stop{d:List α}{a i j:Nat}(h:Ins key d a i j)(hj:a<=j)(hji:j<=i)(hend:j=a\/kf key d (j-1)<=kf key d j):SortedOn key d a (i+1):=by
 intro p q hp hpq hq;by_cases e1:p=j
 ·subst e1;exact h.2 q hpq (by omega)
 by_cases e2:q=j
 ·subst e2
  rcases hend with he|he
  ·omega
  by_cases e3:p=q-1
  ·subst e3;exact he
  have:=h.1 p (q-1) hp (by omega) (by omega) (by omega) (by omega);omega
 exact h.1 p q hp hpq (by omega) e1 e2
def Done(key:α->Int)(d d':List α)(a b:Nat):Prop:=Same d d' a b/\St key d d'/\SortedOn key d' a b
theorem SortedOn.short{d:List α}{a b:Nat}(h:b<=a+1):SortedOn key d a b:=fun i j h1 h2 h3=>by omega
theorem SortedOn.sub{d:List α}{a b a' b':Nat}(h:SortedOn key d a b)(ha:a<=a')(hb:b'<=b):SortedOn key d a' b':=fun i j h1 h2 h3=>h i j (by omega) h2 (by omega)
theorem SortedOn.same{d d':List α}{a b x y:Nat}(h:SortedOn key d a b)(hs:Same d d' x y)(hd:b<=x\/y<=a):SortedOn key d' a b:=fun i j h1 h2 h3=>by
 rw[hs.kf (by omega),hs.kf (by omega)];exact h i j h1 h2 h3
theorem SortedOn.join{d:List α}{a m b:Nat}(h1:SortedOn key d a m)(h2:SortedOn key d m b)(h:∀i j,a<=i->i<m->m<=j->j<b->kf key d i<=kf key d j):SortedOn key d a b:=by
 intro i j hi hij hj;by_cases e1:j<m
 ·exact h1 i j hi hij e1
 by_cases e2:m<=i
 ·exact h2 i j e2 hij hj
 exact h i j hi (by omega) (by omega) hj
theorem Rot.kf{d d':List α}{a m b:Nat}(h:Rot d d' a m b)(t:Nat):
  kf key d' t=if a<=t/\t<a+(b-m)then kf key d (t+(m-a))else if a+(b-m)<=t/\t<b then kf key d (t-(b-m))else kf key d t:=by
 unfold Srt.kf;rw[h.2 t];(repeat' split)<;>rfl
theorem Done.left{d d':List α}{a i b:Nat}(h:Rot d d' a (a+1) i)(hi:a+1<=i)(hib:i<=b)(hb:b<=d.length)(hs:SortedOn key d (a+1) b)
  (hlo:∀t,a+1<=t->t<i->kf key d t<kf key d a) (hhi:∀t,i<=t->t<b->kf key d a<=kf key d t):Done key d d' a b:=by
 refine⟨(h.same (by omega) (by omega)).mono (Nat.le_refl _) hib,h.st (by omega) hi (by omega) (fun p q h1 h2 h3 h4=>?_),?_⟩
 ·obtain rfl:p=a:=by omega
  have:=hlo q h3 h4;omega
 intro p q hp hpq hq;rw[h.kf,h.kf];by_cases c1:p<a+(i-(a+1))
 ·rw[if_pos (by omega)]
  by_cases c2:q<a+(i-(a+1))
  ·rw[if_pos (by omega)];exact hs _ _ (by omega) (by omega) (by omega)
  rw[if_neg (by omega)];by_cases c3:q<i
  ·rw[if_pos (by omega)]
   have:=hlo (p+(a+1-a)) (by omega) (by omega);rw[show q-(i-(a+1))=a by omega];omega
  rw[if_neg (by omega)];exact hs _ _ (by omega) (by omega) (by omega)
 rw[if_neg (by omega)];by_cases c3:p<i
 ·rw[if_pos (by omega),if_neg (by omega),if_neg (by omega)]
  rw[show p-(i-(a+1))=a by omega];exact hhi q (by omega) hq
 rw[if_neg (by omega),if_neg (by omega),if_neg (by omega)];exact hs _ _ (by omega) hpq hq
theorem Done.right{d d':List α}{a i m:Nat}(h:Rot d d' i m (m+1))(hi:i<=m)(hai:a<=i)(hb:m+1<=d.length)(hs:SortedOn key d a m)
  (hlo:∀t,a<=t->t<i->kf key d t<=kf key d m) (hhi:∀t,i<=t->t<m->kf key d m<kf key d t):Done key d d' a (m+1):=by
 refine⟨(h.same hi (by omega)).mono hai (Nat.le_refl _),h.st hi (by omega) hb (fun p q h1 h2 h3 h4=>?_),?_⟩
 ·obtain rfl:q=m:=by omega
  have:=hhi p h1 h2;omega
 intro p q hp hpq hq;rw[h.kf,h.kf];by_cases c1:p<i
 ·rw[if_neg (by omega),if_neg (by omega)]
  by_cases c2:q<i
  ·rw[if_neg (by omega),if_neg (by omega)];exact hs _ _ hp hpq (by omega)
  by_cases c3:q=i
  ·rw[if_pos (by omega),show q+(m-i)=m by omega];exact hlo p hp c1
  rw[if_neg (by omega),if_pos (by omega)];exact hs _ _ hp (by omega) (by omega)
 by_cases c3:p=i
 ·rw[if_pos (by omega),if_neg (by omega),if_pos (by omega),show p+(m-i)=m by omega]
  have:=hhi (q-(m+1-m)) (by omega) (by omega);omega
 rw[if_neg (by omega),if_pos (by omega),if_neg (by omega),if_pos (by omega)];exact hs _ _ (by omega) (by omega) (by omega)
structure Found(key:α->Int)(d:List α)(a m b st:Nat):Prop where
 lo:a<=st
 hi:st<=m
 en:m<=(a+b)/2+m-st
 en2:(a+b)/2+m-st<=b
 mid:st<=(a+b)/2
 yes:∀i j,a<=i->i<st->(a+b)/2+m-st<=j->j<b->kf key d i<=kf key d j
 no:∀i j,st<=i->i<m->m<=j->j<(a+b)/2+m-st->kf key d j<kf key d i
theorem Found.halves{d d1:List α}{a m b st:Nat}(f:Found key d a m b st)(hb:b<=d.length)(h1:SortedOn key d a m)(h2:SortedOn key d m b)(h:Rot d d1 st m ((a+b)/2+m-st)):
  Same d d1 a b/\St key d d1/\SortedOn key d1 a st/\SortedOn key d1 st ((a+b)/2)/\SortedOn key d1 ((a+b)/2) ((a+b)/2+m-st)/\SortedOn key d1 ((a+b)/2+m-st) b/\
   ∀i j,a<=i->i<(a+b)/2->(a+b)/2<=j->j<b->kf key d1 i<=kf key d1 j:=by
 obtain⟨f1,f2,f3,f4,f5,f6,f7⟩:=f;generalize hM:(a+b)/2=M at *;have hMb:a<=M/\M<=b:=by omega
 generalize hE:M+m-st=E at *;refine⟨(h.same f2 f3).mono f1 f4,h.st f2 f3 (by omega) (fun p q g1 g2 g3 g4=>by have:=f7 p q g1 g2 g3 g4;omega),?_,?_,?_,?_,?_⟩
 ·intro p q g1 g2 g3
  rw[h.kf,h.kf,if_neg (by omega),if_neg (by omega),if_neg (by omega),if_neg (by omega)];exact h1 _ _ g1 g2 (by omega)
 ·intro p q g1 g2 g3
  rw[h.kf,h.kf,if_pos (by omega),if_pos (by omega)];exact h2 _ _ (by omega) (by omega) (by omega)
 ·intro p q g1 g2 g3
  rw[h.kf,h.kf,if_neg (by omega),if_pos (by omega),if_neg (by omega),if_pos (by omega)];exact h1 _ _ (by omega) (by omega) (by omega)
 ·intro p q g1 g2 g3
  rw[h.kf,h.kf,if_neg (by omega),if_neg (by omega),if_neg (by omega),if_neg (by omega)];exact h2 _ _ (by omega) g2 g3
 intro p q g1 g2 g3 g4;rw[h.kf,h.kf];by_cases c1:p<st
 ·rw[if_neg (by omega),if_neg (by omega)]
  by_cases c2:q<E
  ·rw[if_neg (by omega),if_pos (by omega)];exact h1 _ _ g1 (by omega) (by omega)
  rw[if_neg (by omega),if_neg (by omega)];exact f6 _ _ g1 c1 (by omega) g4
 rw[if_pos (by omega)];by_cases c2:q<E
 ·rw[if_neg (by omega),if_pos (by omega)];exact Int.le_of_lt (f7 _ _ (by omega) (by omega) (by omega) (by omega))
 rw[if_neg (by omega),if_neg (by omega)];exact h2 _ _ (by omega) (by omega) g4
theorem swp_done{d:List α}{j:Nat}{x y:α}(hx:d[j]?=Z x)(hy:d[j+1]?=Z y)(hlt:key y<key x):St key d (swp d j (j+1) x y):=
 (swp_rot d j x y hx hy).st (by omega) (by omega) (by have:=(List.getElem?_eq_some_iff.1 hy).1;omega) (fun p q h1 h2 h3 h4=>by
  obtain rfl:p=j:=by omega
  obtain rfl:q=p+1:=by omega
  rw[kf_some hx,kf_some hy];omega)
theorem swp_same{d:List α}{i j a b:Nat}{x y:α}(hx:d[i]?=Z x)(hy:d[j]?=Z y)(hij:i≠j)(h1:a<=i)(h2:i<b)(h3:a<=j)(h4:j<b):Same d (swp d i j x y) a b:=
 ⟨swp_len _ _ _ _ _,fun t ht=>by rw[swp_get d i j t x y hx hy hij,if_neg (by omega),if_neg (by omega)]⟩
end
end Srt
section
open Go.RowKit Go.Maps Go.WideMaps
def dG(r:Rg):Prop:=0<=r.lo/\r.lo<=r.hi/\r.hi<=1114111
def eH(r:Rg):Int:=r.lo*2097152+r.hi
def rv(x:Rg):Value:=.agg #[I J x.lo,I J x.hi]
def FG(p:Prop)(w:Wv)(x:Ending)(w':Wv):Prop:=∃c:Int,x=.returned (I J c)/\(c<0 ↔ p)/\By w w'
theorem XY{a b:Rg}(ha:dG a)(hb:dG b):orI (cB a.lo b.lo) (cB a.hi b.hi)<0 ↔ eH a<eH b:=by
 unfold orI cB eH;unfold dG at ha hb;by_cases h1:a.lo<b.lo
 ·simp[h1];omega
 by_cases h2:b.lo<a.lo
 ·simp[h1,h2];omega
 by_cases h3:a.hi<b.hi
 ·simp[h1,h2,h3];omega
 by_cases h4:b.hi<a.hi
 ·simp[h1,h2,h3,h4];omega
 simp[h1,h2,h3,h4];omega
theorem SF(a b:Rg)(ha:dG a)(hb:dG b)(w:Wv):
  Calls prog 132 #[rv a,rv b] w (FG (eH a<eH b) w):=by
 have B0:By w ((w.alloc (.cells #[I J a.lo,I J a.hi] 126)).alloc (.cells #[I J b.lo,I J b.hi] 126)):=(ba _ _).alloc (by simp) _;have s0:((w.alloc (.cells #[I J a.lo,I J a.hi] 126)).alloc (.cells #[I J b.lo,I J b.hi] 126)).heap.size=w.heap.size+2:=by simp
 have hS0:(fun W':Wv=>W'.cell? ⟨w.heap.size,0,N⟩=Z (I J a.lo)/\W'.cell? ⟨w.heap.size,1,N⟩=Z (I J a.hi)/\W'.cell? ⟨w.heap.size+1,0,N⟩=Z (I J b.lo)/\W'.cell? ⟨w.heap.size+1,1,N⟩=Z (I J b.hi)) ((w.alloc (.cells #[I J a.lo,I J a.hi] 126)).alloc (.cells #[I J b.lo,I J b.hi] 126)):=by refine⟨?_,?_,?_,?_⟩<;>simp
 have W0E:∃W0,((w.alloc (.cells #[I J a.lo,I J a.hi] 126)).alloc (.cells #[I J b.lo,I J b.hi] 126))=W0:=⟨_,rfl⟩;have CM:=G (XY ha hb);generalize (eH a<eH b)=R at *;unfold rv;obtain⟨al,ah⟩:=a;obtain⟨bl',bh⟩:=b;dsimp only at *;clear ha hb;go_enter func132,ntmps132;go_wp2_with fail;obtain⟨W0,hW0⟩:=W0E;rw[hW0]at B0 s0 hS0|-;clear hW0;have hx0:w.heap.size<W0.heap.size:=by omega
 have hx1:w.heap.size+1<W0.heap.size:=by omega
 refine wp_region_held_drew (S:=fun W'=>W'.cell? ⟨w.heap.size,0,N⟩=Z (I J al)/\W'.cell? ⟨w.heap.size,1,N⟩=Z (I J ah)/\W'.cell? ⟨w.heap.size+1,0,N⟩=Z (I J bl')/\W'.cell? ⟨w.heap.size+1,1,N⟩=Z (I J bh)) (by kernel_rfl) hS0 (fun hHeld=>?_);refine tK 0 5 ?_;refine tK 1 6 ?_;refine tK 2 7 ?_;refine tK 3 8 ?_;refine tK 5 10 ?_;refine tK 6 11 ?_;refine tK 7 12 ?_;refine tK 8 13 ?_;refine lE (R:=fun W'=>W0.drew=W') (i:=4) (Z 9) rfl rfl (by kernel_rfl) (by rfl) (by go_simp) ((kF al bl' W0.drew).mono (R':=fun e w'=>e=.returned (I J (cB al bl'))/\_/\W0.drew=w') (fun e w'⟨he,hw⟩=>⟨he,by subst hw;exact hHeld,hw⟩)) (fun w6 hS6 hR6=>?_);subst hR6;clear hS6;try simp only[Act.put,sA,sB,sC]
 refine lE (R:=fun W'=>W0.drew=W') (i:=9) (Z 14) rfl rfl (by kernel_rfl) (by rfl) (by go_simp) ((kF ah bh W0.drew).mono (R':=fun e w'=>e=.returned (I J (cB ah bh))/\_/\W0.drew=w') (fun e w'⟨he,hw⟩=>⟨he,by subst hw;exact hHeld,hw⟩)) (fun w6 hS6 hR6=>?_);subst hR6;clear hS6;try simp only[Act.put,sA,sB,sC]
 generalize cB al bl'=x at *;generalize cB ah bh=y at *;have B1:By W0 (W0.drew.alloc (.cells #[I J x,I J y] 3)):=((Below.refl _ _).drew).alloc (Nat.le_refl _) _;have hS1:(fun W':Wv=>W'.cell? ⟨w.heap.size,0,N⟩=Z (I J al)/\W'.cell? ⟨w.heap.size,1,N⟩=Z (I J ah)/\W'.cell? ⟨w.heap.size+1,0,N⟩=Z (I J bl')/\W'.cell? ⟨w.heap.size+1,1,N⟩=Z (I J bh)) (W0.drew.alloc (.cells #[I J x,I J y] 3)):=⟨(B1.cell (p:=⟨w.heap.size,0,N⟩) hx0).trans hHeld.1,(B1.cell (p:=⟨w.heap.size,1,N⟩) hx0).trans hHeld.2.1,(B1.cell (p:=⟨w.heap.size+1,0,N⟩) hx1).trans hHeld.2.2.1,(B1.cell (p:=⟨w.heap.size+1,1,N⟩) hx1).trans hHeld.2.2.2⟩;have I1:=bZ W0.drew [x,y] 3 rfl;refine kC (w':=W0.drew.alloc (.cells #[I J x,I J y] 3)) (v:=H (Z ⟨W0.drew.heap.size,0,N⟩) 2 2) (i:=10) (Z 15) rfl rfl (by kernel_rfl) (by rfl) (by go_simp) hS1 ?_;try simp only[Act.put,sA,sB,sC]
 refine lE (R:=fun W'=>W0.drew.alloc (.cells #[I J x,I J y] 3)=W') (i:=11) (Z 16) rfl rfl (by kernel_rfl) (by rfl) (by go_simp) ((tQ _ 2 x y _ I1).mono (R':=fun e w'=>e=.returned (I J (orI x y))/\_/\W0.drew.alloc (.cells #[I J x,I J y] 3)=w') (fun e w'⟨he,hw⟩=>⟨he,by subst hw;exact hS1,hw⟩)) (fun w6 hS6 hR6=>?_);subst hR6;try simp only[Act.put,sA,sB,sC]
 refine tK 12 4 ?_;refine wpAnyH_done (by kernel_rfl) ?_ _;go_wp2_with fail;go_ret;exact⟨_,rfl,CM.out,B0.trans (B1.mono B0.size)⟩
def dX(w:Wv)(base g n c:Nat)(d:List Rg):Prop:=w.ownsRow base 126 2 (H (Z ⟨g,0,N⟩) n c) n (aF Rg.cells d)
section
variable {w w':Wv}{base g n c:Nat}{d:List Rg}
theorem dX.len(h:dX w base g n c d):d.length=n:=by
 have:=h.1;rw[gJ Rg.cells 2 (fun _=>rfl)]at this;omega
theorem dX.cells(h:dX w base g n c d){i:Nat}{x:Rg}(hi:d[i]?=Z x):w.cell? ⟨g,i*2,N⟩=Z (I J x.lo)/\w.cell? ⟨g,i*2+1,N⟩=Z (I J x.hi):=by
 obtain⟨hl,rfl⟩:=List.getElem?_eq_some_iff.1 hi;have hn:=h.len;have key:∀j u,(Rg.cells d[i])[j]?=Z u->j<2->w.cell? ⟨g,i*2+j,N⟩=Z u:=by
  intro j u hu hj;rw[World.ownsRow.cellAt h (i*2+j) (by omega),kK Rg.cells 2 (fun _=>rfl) d i j hl hj];exact hu
 exact⟨key 0 _ rfl (by omega),key 1 _ rfl (by omega)⟩
theorem dX.frozen(h:dX w base g n c d)(i:Nat):w.frozen? ⟨g,i,N⟩=false:=World.ownsRow.frozenAt h i
theorem dX.keep(h:dX w base g n c d)(hb:By w w'):dX w' base g n c d:=aK h hb
theorem dX.drew(h:dX w base g n c d):dX w.drew base g n c d:=h
theorem dX.drewN(h:dX w base g n c d)(k:Nat):dX (w.drewN k) base g n c d:=h
end
theorem NG(d:List Rg)(i:Nat)(x:Rg)(hi:i<d.length):((aF Rg.cells d).set (i*2) (I J x.lo)).set (i*2+1) (I J x.hi)=aF Rg.cells (d.set i x):=by
 induction d generalizing i with
 |nil=>simp at hi
 |cons y r ih=>
  cases i with
  |zero=>simp[aF,Rg.cells]
  |succ i=>
   have h1:=ih i (by simpa using hi);simp only[aF,List.flatMap_cons,Rg.cells,List.cons_append,List.nil_append,List.set_cons_succ]at *;rw[show(i+1)*2=i*2+1+1 by omega];simp only[List.set_cons_succ,h1]
theorem dX.set{w:Wv}{base g n c:Nat}{d:List Rg}(h:dX w base g n c d){i:Nat}(hi:i<d.length)(x:Rg):
  dX ((w.setCell ⟨g,i*2,N⟩ (I J x.lo)).setCell ⟨g,i*2+1,N⟩ (I J x.hi)) base g n c (d.set i x)/\
  w.grownBy ((w.setCell ⟨g,i*2,N⟩ (I J x.lo)).setCell ⟨g,i*2+1,N⟩ (I J x.hi)) (Z g):=by
 have s1:=World.ownsRow.stored h (i*2) (I J x.lo);have s2:=s1.1.stored (i*2+1) (I J x.hi);refine⟨?_,?_⟩
 ·have h3:=s2.1
  rw[NG d i x hi]at h3;exact h3
 exact⟨rfl,rfl,rfl,by simp,fun k hk hne=>(s2.2.block k (by simpa using hk) hne).trans (s1.2.block k hk hne)⟩
theorem sQ{a w c:Wv}{r:Option Nat}(h:a.grownBy w r)(g:w.grownBy c r):a.grownBy c r:=
 ⟨g.os.trans h.os,g.tape.trans h.tape,g.output.trans h.output,Nat.le_trans h.size g.size,fun k hk hne=>(g.block k (Nat.lt_of_lt_of_le hk h.size) hne).trans (h.block k hk hne)⟩
theorem N_(w:Wv)(r:Option Nat):w.grownBy w r:=⟨rfl,rfl,rfl,Nat.le_refl _,fun _ _ _=>rfl⟩
theorem sP{a w w':Wv}{r:Option Nat}(h:a.grownBy w r)(g:By w w'):a.grownBy w' r:=
 sQ h ⟨g.os,g.tape,g.output,g.size,fun k hk _=>g.block k hk⟩
theorem xV{a w:Wv}{r:Option Nat}(h:a.grownBy w r):a.grownBy w.drew r:=sP h (jR w 1)
theorem NZ{a w:Wv}{r:Option Nat}(h:a.grownBy w r)(n:Nat):a.grownBy (w.drewN n) r:=sP h (jR w n)
def qY(R:List Rg->Prop)(base g n c:Nat)(w:Wv)(x:Ending)(w':Wv):Prop:=x=.returned (.tuple #[])/\∃d',R d'/\dX w' base g n c d'/\w.grownBy w' (Z g)
theorem mQ{key:Rg->Int}{d d':List Rg}(h:Srt.St key d d'){x:Rg}(hx:x∈d'):x∈d:=by
 have h1:x∈d'.filter (fun y=>key y==key x):=List.mem_filter.2 ⟨hx,by simp⟩;rw[h (key x)]at h1;exact(List.mem_filter.1 h1).1
theorem GE{key:Rg->Int}{d d':List Rg}(h:Srt.St key d d'){x:Rg}(hx:x∈d):x∈d':=by
 have h1:x∈d.filter (fun y=>key y==key x):=List.mem_filter.2 ⟨hx,by simp⟩;rw[<-h (key x)]at h1;exact(List.mem_filter.1 h1).1
theorem sL{d:List Rg}{i:Nat}(h:i<d.length):∃x,d[i]?=Z x:=⟨d[i],List.getElem?_eq_getElem h⟩
theorem PD(base g n c q:Nat)(d:List Rg)(w:Wv)(hR:dX w base g n c d)(hq:q<=n)(hbig:n<=1048576)(hok:∀x∈d,dG x):
  Calls prog 176 #[H (Z ⟨g,0,N⟩) n c,I J 0,I J q,.func (.func 132) #[] #[]] w
   (qY (fun d'=>Srt.Done eH d d' 0 q) base g n c w):=by
 have hn:=hR.len;subst hn;have HOK:=G hok;clear hok;go_enter func176,ntmps176;go_wp2;go_loopw [8] (fun i wr=>∃(k:Nat)(d1:List Rg),1<=k/\(k<=q\/k=1)/\i=I J k/\Srt.Same d d1 0 q/\Srt.St eH d d1/\Srt.SortedOn eH d1 0 k/\dX wr base g d.length c d1/\w.grownBy wr (Z g)) (fun i _=>q-(intOf i).toNat)
 case atStart=>exact⟨1,d,Nat.le_refl _,.inr rfl,rfl,Srt.Same.refl _ _ _,Srt.St.refl _,Srt.SortedOn.short (by omega),hR,N_ _ _⟩
 obtain⟨k,d1,hk1,hk2,rfl,hsame,hst,hso,hR1,hg⟩:=hrel;have HA:=G hsame;have HT:=G hst;have HO:=G hso;clear hsame hst hso;by_cases hlt:k<q
 ·obtain⟨wo,rfl⟩:∃wo:Wv,wo=wr:=⟨_,rfl⟩
  go_wp2;go_loopw [9] (fun i wr=>∃(j:Nat)(d2:List Rg),j<=k/\i=I J j/\Srt.Same d d2 0 q/\Srt.St eH d d2/\Srt.Ins eH d2 0 k j/\dX wr base g d.length c d2/\w.grownBy wr (Z g)) (fun i _=>(intOf i).toNat)
  case atStart=>exact⟨k,d1,Nat.le_refl _,rfl,HA.out,HT.out,Srt.Ins.start HO.out,hR1,hg⟩
  obtain⟨j,d2,hj2,rfl,hsame,hst,hins,hR2,hg2⟩:=hrel;have HA2:=G hsame;have HT2:=G hst;have HI:=G hins;clear hsame hst hins;by_cases hpj:0<j
  ·have hjn:j<d.length:=by omega
   obtain⟨x,hx⟩:=sL (d:=d2) (i:=j-1) (by rw[HA2.out.1];omega);obtain⟨y,hy⟩:=sL (d:=d2) (i:=j) (by rw[HA2.out.1];omega);obtain⟨x1,x2⟩:=hR2.cells hx;obtain⟨y1,y2⟩:=hR2.cells hy;have HX:=G hx;have HY:=G hy;have C:=G (fun W=>SF y x (HOK.out y (mQ HT2.out (List.mem_of_getElem? hy))) (HOK.out x (mQ HT2.out (List.mem_of_getElem? hx))) W);clear hx hy;have i0:decide ((0:Int)<(j:Int))=true:=by simp;omega
   have i1:IntKind.i64.wrap ((j:Int)-1)=(j:Int)-1:=IntWalk.i64_in _ (by omega);have i2:(0:Int)<=(j:Int)-1:=by omega
   have i2':(1:Int)<=(j:Int):=by omega
   have i2'':1<=j:=by omega
   have i3:((j:Int)-1).toNat=j-1:=by omega
   have i4:(j:Int)-1<(d.length:Int):=by omega
   have i5:(j:Int)<(d.length:Int):=by omega
   unfold rv at C;go_wp2;refine wp_region_still_tail 14 (by kernel_rfl) (by kernel_rfl) ?_;simp only[List.take_succ_cons,List.take_zero,List.drop_succ_cons,List.drop_zero];change wpStill _ _ wr.drew _ _ _;repeat still_step
   refine wpStill_nil ?_;change wpList _ _ _ _ _ wr.drew;go_wp2_with fail;refine(C.out _).mono ?_;rintro e w3 ⟨cc,rfl,hcc,hb3⟩;have hR3:=(hR2.drew).keep hb3;have hg3:=sP (xV hg2) hb3;obtain⟨x1',x2'⟩:=hR3.cells HX.out;obtain⟨y1',y2'⟩:=hR3.cells HY.out;have fr:=hR3.frozen;clear hR2 hg2 hb3 x1 x2 y1 y2;by_cases hkey:eH y<eH x
   ·have hneg:cc<0:=hcc.2 hkey
    have HKEY:=G hkey;clear hcc hkey;have hne:¬(j-1=j):=by omega
    have HR3:=G hR3;clear hR3;go_wp2;go_region;go_wp2_with fail;go_roundw
    case rel=>
     have st1:=HR3.out.set (i:=j) (by rw[HA2.out.1];omega) x;have st2:=st1.1.set (i:=j-1) (by rw[List.length_set,HA2.out.1];omega) y;refine⟨j-1,Srt.swp d2 (j-1) j x y,by omega,by go_num,HA2.out.trans (Srt.swp_same HX.out HY.out (by omega) (by omega) (by omega) (by omega) (by omega)),HT2.out.trans ?_,?_,?_,?_⟩
     ·have:=Srt.swp_done (key:=eH) (d:=d2) (j:=j-1) HX.out (by rw[show j-1+1=j by omega];exact HY.out) HKEY.out
      rw[show j-1+1=j by omega]at this;exact this
     ·have:=Srt.Ins.step (key:=eH) (d:=d2) (a:=0) (i:=k) (j:=j-1) (x:=x) (y:=y) (by rw[show j-1+1=j by omega];exact HI.out) (by omega) (by omega) HX.out (by rw[show j-1+1=j by omega];exact HY.out) HKEY.out
      rw[show j-1+1=j by omega]at this;exact this
     ·rw[Srt.swp,List.set_comm _ _ (by omega)]
      exact st2.1.drew
     exact xV (sQ hg3 (sQ st1.2 st2.2))
    simp[intOf];omega
   have hneg:¬cc<0:=fun h=>hkey (hcc.1 h)
   clear hcc;go_wp2;go_roundw
   case rel=>
    refine⟨k+1,d2,by omega,.inl (by omega),by go_num,HA2.out,HT2.out,HI.out.stop (by omega) hj2 (.inr ?_),hR3,hg3⟩;rw[Srt.kf_some HX.out,Srt.kf_some HY.out];omega
   simp[intOf];omega
  have i0:decide ((0:Int)<(j:Int))=false:=by simp;omega
  go_wp2;go_quiet(fail);go_wp2;go_roundw
  case rel=>exact⟨k+1,d2,by omega,.inl (by omega),by go_num,HA2.out,HT2.out,HI.out.stop (by omega) hj2 (.inl (by omega)),hR2.drewN _,NZ hg2 _⟩
  simp[intOf];omega
 go_wp2;go_end0;refine⟨rfl,d1,⟨HA.out,HT.out,?_⟩,hR1,hg⟩;by_cases hkq:q<=k
 ·exact HO.out.sub (Nat.le_refl _) hkq
 omega
theorem VE(base g n c:Nat)(z:Int)(d:List Rg)(w:Wv)(hR:dX w base g n c d)(hbig:n<=12)(hok:∀x∈d,dG x):
  Calls prog 158 #[H (Z ⟨g,0,N⟩) n c,I J 0,I J n,I J z,.func (.func 132) #[] #[]] w
   (qY (fun d'=>Srt.Done eH d d' 0 n) base g n c w):=by
 have C:=G (PD base g n c n d w hR (Nat.le_refl _) (by omega) hok);clear hR hok;have q1:decide ((n:Int)<=12)=true:=by simp;omega
 have q2:decide (n<=12)=true:=by simp;omega
 go_enter func158,ntmps158;go_wp2_with fail;refine wp_loop_rounds 1 ?_;rw[rounds_succ];go_wp2_with fail;refine C.out.mono ?_;rintro e w1 ⟨rfl,d1,hD,hR1,hg1⟩;have HD:=G (And.intro hD (And.intro hR1 hg1));clear hD hR1 hg1;go_wp2_with fail;go_end0;exact⟨rfl,d1,HD.out.1,HD.out.2.1,HD.out.2.2⟩
end
end Go.Proofs.YtpfbnikbebccjaaGreatDoor
