import Derived.Test.YtpfbnikbebccjaaGreatDoorU00
import Derived.Test.YtpfbnikbebccjaaGreatDoorU02
import Derived.Test.YtpfbnikbebccjaaGreatDoorU03
import Derived.Test.YtpfbnikbebccjaaGreatDoorU04
import Derived.Test.YtpfbnikbebccjaaGreatDoorU05
import Derived.Test.YtpfbnikbebccjaaGreatDoorU09
import Derived.Test.YtpfbnikbebccjaaGreatDoorU10
import Derived.Test.YtpfbnikbebccjaaGreatDoorU14
import Derived.Test.YtpfbnikbebccjaaGreatDoorU15
import Derived.Test.YtpfbnikbebccjaaGreatDoorU17
import Derived.Test.YtpfbnikbebccjaaGreatDoorU18
import Derived.Test.YtpfbnikbebccjaaGreatDoorU20
import Derived.BigQuiet
import Derived.Shelf.Spec.SlicesInsertGrow
import Derived.Shelf.Slices.Delete
import Derived.Shelf.Slices.Cells
import Derived.Shelf.Slices.Empties
import Derived.Test.YtpfbnikbebccjaaGreatDoorProg
set_option maxRecDepth 100000
set_option maxHeartbeats 51200000
namespace Go.Proofs.YtpfbnikbebccjaaGreatDoor
open Option renaming none->N,some->Z
open Value renaming int->I,slice->H
open IntKind renaming i64->J
open Go.Proofs.Tryz
section
open Go.RowKit Go.Maps Go.WideMaps Srl
def kyN(x:Nrm)(c:Col)(o:Opt)(t:Li):Li:=iP (aN o) (aX x c t) (dtx x false t)
structure Chg(S:Nat->Prop)(w w':Wv):Prop where
 os:w'.os=w.os
 tape:w'.tape=w.tape
 output:w'.output=w.output
 size:w.heap.size<=w'.heap.size
 block:∀k,k<w.heap.size->¬S k->w'.heap[k]?=w.heap[k]?
theorem Chg.refl(S:Nat->Prop)(w:Wv):Chg S w w:=⟨rfl,rfl,rfl,Nat.le_refl _,fun _ _ _=>rfl⟩
theorem Chg.mono{S S':Nat->Prop}{w w':Wv}(h:Chg S w w')(hs:∀k,k<w.heap.size->S k->S' k):Chg S' w w':=⟨h.os,h.tape,h.output,h.size,fun k hk hn=>h.block k hk (fun q=>hn (hs k hk q))⟩
theorem Chg.trans{S:Nat->Prop}{a b c:Wv}(h:Chg S a b)(g:Chg S b c):Chg S a c:=
 ⟨g.os.trans h.os,g.tape.trans h.tape,g.output.trans h.output,Nat.le_trans h.size g.size,fun k hk hn=>(g.block k (Nat.lt_of_lt_of_le hk h.size) hn).trans (h.block k hk hn)⟩
theorem Chg.trans'{S S':Nat->Prop}{a b c:Wv}(h:Chg S a b)(g:Chg S' b c)(hs:∀k,S' k->S k\/a.heap.size<=k):Chg S a c:=
 ⟨g.os.trans h.os,g.tape.trans h.tape,g.output.trans h.output,Nat.le_trans h.size g.size,fun k hk hn=>(g.block k (Nat.lt_of_lt_of_le hk h.size) (fun q=>by rcases hs k q with e|e;exact hn e;omega)).trans (h.block k hk hn)⟩
theorem Chg.of_below{S:Nat->Prop}{w w':Wv}(h:By w w'):Chg S w w':=⟨h.os,h.tape,h.output,h.size,fun k hk _=>h.block k hk⟩
theorem Chg.of_grown{S:Nat->Prop}{w w':Wv}{r:Option Nat}(h:w.grownBy w' r)(hr:∀q,r=Z q->S q):Chg S w w':=⟨h.os,h.tape,h.output,h.size,fun k hk hn=>h.block k hk (fun e=>hn (hr k e.symm))⟩
theorem Chg.below{S:Nat->Prop}{w w':Wv}{n:Nat}(h:Chg S w w')(hn:n<=w.heap.size)(hs:∀k,S k->n<=k):Below n w w':=⟨h.os,h.tape,h.output,h.size,fun k hk=>h.block k (Nat.lt_of_lt_of_le hk hn) (fun q=>by have:=hs k q;omega)⟩
theorem Chg.sl{S:Nat->Prop}{w w':Wv}(h:Chg S w w'){A:Oa}{cs:Lv}(hA:Sl w A cs)(hn:cs≠[]->∀q,blk A=Z q->¬S q):Sl w' A cs:=fun hne=>by
 obtain⟨b,o,rfl,hc⟩:=hA hne;have hb:b<w.heap.size:=j_ hA hne rfl;refine⟨b,o,rfl,fun j u hu=>?_⟩;rw[World.cell?_of_block (h.block b hb (hn hne b rfl))];exact hc j u hu
theorem Chg.box{S:Nat->Prop}{w w':Wv}(h:Chg S w w'){b:Nat}{t:TypeId}{cs:Lv}(hB:Box w b t cs)(hn:¬S b):Box w' b t cs:=(h.block b hB.lt hn).trans hB
def CK(w w':Wv):Prop:=∀p v,w.cell? p=Z v->w'.cell? p=Z v
section
variable {w w':Wv}
theorem CK.sl(h:CK w w'){A:Oa}{cs:Lv}(hA:Sl w A cs):Sl w' A cs:=fun hne=>by
 obtain⟨b,o,rfl,hc⟩:=hA hne;exact⟨b,o,rfl,fun j u hu=>h _ _ (hc j u hu)⟩
theorem CK.mps(h:CK w w'){A:Oa}{ms:List Mp}(hA:Mps w A ms):Mps w' A ms:=by
 obtain⟨vs,h1,h2,h3⟩:=hA;refine⟨vs,h1,h.sl h2,fun i hi hv=>?_⟩;obtain⟨C,c,e1,e2,e3⟩:=h3 i hi hv;exact⟨C,c,e1,e2,h.sl e3⟩
theorem CK.nrm(h:CK w w'){A0:Oa}{n0:Nat}{A1:Oa}{n1:Nat}{A2:Oa}{n2:Nat}{x:Nrm}(hN:bA w A0 n0 A1 n1 A2 n2 x):bA w' A0 n0 A1 n1 A2 n2 x:=
 ⟨h.sl hN.s0,h.mps hN.s1,h.sl hN.s2,hN.l0,hN.l1,hN.l2⟩
theorem CK.ents(h:CK w w'){A:Oa}{xs:List Ent}(hA:g_ w A xs):g_ w' A xs:=by
 obtain⟨vs,h1,h2,h3⟩:=hA;refine⟨vs,h1,h.sl h2,fun i hi hv=>?_⟩;obtain⟨C,c,E,d,e,e1,e2⟩:=(h3 i hi hv).ex;exact⟨C,c,E,d,e,h.sl e1,h.sl e2⟩
theorem CK.col(h:CK w w'){A:Oa}{n:Nat}{B:Oa}{m:Nat}{c:Col}(hC:aU w A n B m c):aU w' A n B m c:=
 ⟨h.ents hC.ents,h.sl hC.grps,hC.hn,hC.hm,hC.hs⟩
theorem CK.laid(h:CK w w')(hL:dL w):dL w':=by
 obtain⟨h0,h1,h2,h3,h4,h5,h6,h7⟩:=hL;exact⟨h _ _ h0,h _ _ h1,h _ _ h2,h _ _ h3,h _ _ h4,h _ _ h5,h _ _ h6,h _ _ h7⟩
theorem Chg.ck{mb:Nat}(h:Chg (fun q=>q=mb) w w')(hm:∀o,w.cell? ⟨mb,o,N⟩=N):CK w w':=fun p v hp=>by
 have hs:p.spot=N:=World.cell?_spot hp;have hb:=World.block_lt_of_cell? w _ hp;obtain⟨b,o,s⟩:=p;dsimp only at hs hb;subst hs;have hne:¬b=mb:=by
  rintro rfl;rw[hm o]at hp;cases hp
 exact(World.cell?_of_block (h.block b hb hne)).trans hp
end
structure LsV where
 A0:Oa
 k0:Nat
 A1:Oa
 k1:Nat
 A2:Oa
 k2:Nat
 C:Oa
 a:Nat
 B:Oa
 b:Nat
def lsC(V:LsV)(x:Nrm)(c:Col)(o:Opt)(mb:Nat)(O:Oa)(n oc:Nat):Lv:=
 [H V.A0 x.cls.length V.k0,H V.A1 x.dec.length V.k1,H V.A2 x.exc.length V.k2,H V.C c.ents.length V.a,H V.B c.grps.length V.b,I J c.base,I J c.second,I J c.third,I J o.st,I J o.va,.bool o.bk,.bool o.idn,.map (Z mb),H O n oc]
def Lf(l mb:Nat)(O:Oa)(k:Nat):Prop:=k=l\/k=mb\/blk O=Z k
def ApI(S:Nat->Prop)(w:Wv)(A:Oa)(zs:Li):Prop:=aA w A zs/\(zs≠[]->∀q,blk A=Z q->¬S q)
theorem ApI.chg{S:Nat->Prop}{w w':Wv}{A:Oa}{zs:Li}(h:ApI S w A zs)(hc:Chg S w w'):aA w' A zs:=hc.sl h.1 (fun hne=>h.2 (by rintro rfl;exact hne rfl))
theorem ApI.to{S S':Nat->Prop}{w w':Wv}{A:Oa}{zs:Li}(h:ApI S w A zs)(hc:Chg S w w')(hs:∀k,S' k->S k\/w.heap.size<=k):ApI S' w' A zs:=
 ⟨h.chg hc,fun hne q hq hS=>by
  rcases hs q hS with g|g
  ·exact h.2 hne q hq g
  ·have:=j_ h.1 (nB hne) hq;omega⟩
structure Lst(w:Wv)(l bs:Nat)(V:LsV)(mb:Nat)(O:Oa)(oc cnt:Nat)(x:Nrm)(c:Col)(o:Opt)(f:Int->Option Value)(L:Its):Prop where
 box:Box w l 80 (lsC V x c o mb O L.length oc)
 map:b_ prog 3 iN iok w mb cnt f L.length
 row:w.ownsRow bs 3 1 (H O L.length oc) L.length ((idsL L).map (Value.int .i64))
 set:∃w0:Wv,bs<=w0.heap.size/\w0.heap.size<=l/\(∀o,w0.cell? ⟨mb,o,Option.none⟩=Option.none)/\bA w0 V.A0 x.cls.length V.A1 x.dec.length V.A2 x.exc.length x/\aU w0 V.C c.ents.length V.B c.grps.length c/\dL w0/\Chg (fun q=>q=mb) w0 w/\(∀q,blk O=Z q->w0.heap.size<=q)
 lol:bs<=l
 lom:bs<=mb
 nlm:l≠mb
 nlo:¬blk O=Z l
 nmo:¬blk O=Z mb
 item:∀p∈L,∃T tk K kk,f p.1=Z (.agg #[H T p.2.length tk,H K (kyN x c o p.2).length kk])/\ApI (Lf l mb O) w T p.2/\ApI (Lf l mb O) w K (kyN x c o p.2)
 gone:∀id,iok id->id ∉ idsL L->f id=N
 srt:Srt (kyN x c o) L
 ok:∀p∈L,iok p.1/\p.2.length<=1000/\∀z∈p.2,iok z
 nz:cK x
 cz:bW c
 len:L.length<=100
section
variable {w w':Wv}{l bs:Nat}{V:LsV}{mb:Nat}{O:Oa}{oc cnt:Nat}{x:Nrm}{c:Col}{o:Opt}{f:Int->Option Value}{L:Its}
theorem Lst.below(h:Lst w l bs V mb O oc cnt x c o f L)(hb:By w w'):Lst w' l bs V mb O oc cnt x c o f L:=by
 obtain⟨w0,e0,e1,e2,s1,s2,s3,s4,s5⟩:=h.set;refine { h with box:=h.box.below hb h.box.lt,map:=h.map.below hb,row:=aK h.row hb,set:=⟨w0,e0,e1,e2,s1,s2,s3,s4.trans (Chg.of_below hb),s5⟩,item:=fun p hp=>?_ };obtain⟨T,tk,K,kk,e,a1,a2⟩:=h.item p hp;exact⟨T,tk,K,kk,e,⟨a1.1.below hb,a1.2⟩,⟨a2.1.below hb,a2.2⟩⟩
theorem Lst.bs_le(h:Lst w l bs V mb O oc cnt x c o f L):bs<=w.heap.size:=by have:=h.lol;have:=h.box.lt;omega
theorem Lst.nrm(h:Lst w l bs V mb O oc cnt x c o f L):bA w V.A0 x.cls.length V.A1 x.dec.length V.A2 x.exc.length x:=by obtain⟨w0,_,_,e2,s1,_,_,s4,_⟩:=h.set;exact(s4.ck e2).nrm s1
theorem Lst.col(h:Lst w l bs V mb O oc cnt x c o f L):aU w V.C c.ents.length V.B c.grps.length c:=by obtain⟨w0,_,_,e2,_,s2,_,s4,_⟩:=h.set;exact(s4.ck e2).col s2
theorem Lst.laid(h:Lst w l bs V mb O oc cnt x c o f L):dL w:=by obtain⟨w0,_,_,e2,_,_,s3,s4,_⟩:=h.set;exact(s4.ck e2).laid s3
theorem Lst.lf(h:Lst w l bs V mb O oc cnt x c o f L):∀k,Lf l mb O k->bs<=k:=by
 rintro k (rfl|rfl|e)
 ·exact h.lol
 ·exact h.lom
 exact(dD h.row e).1
theorem Lst.ids(h:Lst w l bs V mb O oc cnt x c o f L):aA w O (idsL L):=Sl.of_own h.row
theorem Lst.at(h:Lst w l bs V mb O oc cnt x c o f L){i:Nat}(hi:i<L.length):∃g,O=Z ⟨g,0,N⟩/\bs<=g/\g<w.heap.size/\w.cell? ⟨g,i,N⟩=Z (I J L[i].1):=by
 obtain⟨g,rfl,h1,h2⟩:=tR h.row (by omega);refine⟨g,rfl,h1,h2,?_⟩;have:=h.row.cellAt i (by omega);rw[List.getElem?_map]at this;rw[this];unfold idsL;rw[List.getElem?_map,List.getElem?_eq_getElem hi];rfl
theorem Lst.get(h:Lst w l bs V mb O oc cnt x c o f L){i:Nat}(hi:i<L.length):∃T tk K kk,f L[i].1=Z (.agg #[H T L[i].2.length tk,H K (kyN x c o L[i].2).length kk])/\ApI (Lf l mb O) w T L[i].2/\ApI (Lf l mb O) w K (kyN x c o L[i].2):=h.item _ (List.getElem_mem hi)
theorem fE{O':Oa}{l mb:Nat}{O:Oa}{n:Nat}(hO:blk O'=blk O\/∀q,blk O'=Z q->n<=q):∀k,Lf l mb O' k->Lf l mb O k\/n<=k:=by
 rintro k (rfl|rfl|e)
 ·exact .inl (.inl rfl)
 ·exact .inl (.inr (.inl rfl))
 rcases hO with g|g
 ·exact .inl (.inr (.inr (by rw[<-g];exact e)))
 exact .inr (g k e)
theorem Lst.step(h:Lst w l bs V mb O oc cnt x c o f L){O':Oa}{oc' cnt':Nat}{f':Int->Option Value}{L':Its}(hc:Chg (Lf l mb O) w w')(hO:blk O'=blk O\/∀q,blk O'=Z q->w.heap.size<=q)
  (hbox:Box w' l 80 (lsC V x c o mb O' L'.length oc')) (hmap:b_ prog 3 iN iok w' mb cnt' f' L'.length) (hrow:w'.ownsRow bs 3 1 (H O' L'.length oc') L'.length ((idsL L').map (Value.int .i64)))
  (hitem:∀p∈L',(p∈L/\f' p.1=f p.1)\/∃T tk K kk,f' p.1=Z (.agg #[H T p.2.length tk,H K (kyN x c o p.2).length kk])/\ApI (Lf l mb O') w' T p.2/\ApI (Lf l mb O') w' K (kyN x c o p.2))
  (hnone:∀id,iok id->id ∉ idsL L'->f' id=N) (hsrt:Srt (kyN x c o) L') (hok:∀p∈L',iok p.1/\p.2.length<=1000/\∀z∈p.2,iok z) (hlen:L'.length<=100) :
  Lst w' l bs V mb O' oc' cnt' x c o f' L':=by
 obtain⟨w0,e0,e1,e2,s1,s2,s3,s4,s5⟩:=h.set;have hl:=h.box.lt;have hm:=h.map.lt;have hzw:=s4.size;refine { box:=hbox,map:=hmap,row:=hrow,set:=⟨w0,e0,e1,e2,s1,s2,s3,s4.trans' hc (fun k hk=>?_),fun q hq=>?_⟩,lol:=h.lol,lom:=h.lom,nlm:=h.nlm,nlo:=?_,nmo:=?_,item:=fun p hp=>?_,gone:=hnone,srt:=hsrt,ok:=hok,nz:=h.nz,cz:=h.cz,len:=hlen }
 ·rcases hk with rfl|rfl|g
  ·exact .inr e1
  ·exact .inl rfl
  exact .inr (s5 k g)
 ·rcases hO with g|g
  ·exact s5 q (by rw[<-g];exact hq)
  have:=g q hq;omega
 ·intro e
  rcases hO with g|g
  ·exact h.nlo (by rw[<-g];exact e)
  have:=g l e;omega
 ·intro e
  rcases hO with g|g
  ·exact h.nmo (by rw[<-g];exact e)
  have:=g mb e;omega
 rcases hitem p hp with⟨hp',ef⟩|g
 ·obtain⟨T,tk,K,kk,e,a1,a2⟩:=h.item p hp'
  exact⟨T,tk,K,kk,ef.trans e,a1.to hc (fE hO),a2.to hc (fE hO)⟩
 exact g
end
theorem NK(a b:Value)(W:Wv):(Instr.field 97 (.agg #[a,b]) 1).run prog W=.ok b W:=by kernel_rfl
theorem oZ(a b:Value)(w:Wv):((Sem.run prog (Instr.field 97 (Value.agg #[a,b]) 1) w).andThen fun a w'=>Result.ok (Next.value a) w')=Result.ok (Next.value b) w:=by rw[NK];rfl
theorem iF(x:Nrm)(c:Col)(o:Opt)(t:Li):(kyN x c o t).length<=4*(1024*t.length+1)+1+64*t.length:=by
 have h1:=s_ (aN o) (aX x c t) (nI o).1.2 (dW (aN o) (aX x c t)).length;rw[List.take_length]at h1;have h2:=rY x c t;have h3:=sU (dtx x false t);have h4:=lZ x false t;unfold kyN iP;rw[List.length_append];split
 ·rw[List.length_cons];omega
 rw[List.length_nil];omega
theorem UT(p q:It):decide (0<=orI (aD p.1 q.1) (cB p.2 q.2))=decide (¬ltI p q):=by
 rw[Bool.eq_iff_iff];simp only[decide_eq_true_eq];unfold orI ltI cB;by_cases e:aD p.1 q.1=0
 ·rw[if_pos e]
  by_cases g:p.2<q.2
  ·rw[if_pos g];simp[e,g]
  rw[if_neg g];have:¬(aD p.1 q.1<0\/aD p.1 q.1=0/\p.2<q.2):=by omega
  simp only[this,not_false_iff,iff_true];split<;>omega
 rw[if_neg e];omega
theorem jI(w:Wv):(zeroValue 97).run prog w=.ok (.agg #[H N 0 0,H N 0 0]) w:=by kernel_rfl
section
variable {P:Program}{ops:Array Oper}{Q:Exit->Act->Wv->Prop}{md:Region.Mode}{S:Wv->Prop}
theorem oJ{κ:Type}{k:TypeId}{kl:κ->Lit}{ok:κ->Prop}{b n:Nat}{f:κ->Option Value}{i:Nat}{oi:Oper}{v:Value}{fuel:Nat}{listed:Array Bool}{a:Act}{w:Wv}(d:Option Tmp)(hi:ops[i]?=Z oi)(hd:oi.dst=d)
  (hs:Region.noSelect ops=true) (hf:Region.free md ops listed i=true) (hr:(Region.ready md ops listed).contains i=true)
  (hQ:∀c a w,Q (.panic c) (a.put d v) w->Q (.panic c) a w) (hw:Region.wanted oi (yielded ops a.tmps)=true) (hS:S w)
  (m y:Operand) (t:TypeId) (hop:oi.op=Op.lookup t m y false) {e:TypeId} (h:∀w,S w->aT P k kl ok w b n f) (K:Keyed P k) (ht:P.underlying t=Z (.map k e)) {z:Value} (hz:∀w,(zeroValue e).run P w=.ok z w)
  (hm:a.eval m=.map (Z b)) {key:Value} {x:κ} (hy:a.eval y=key) (hx:ok x) (hkey:keyOf P k key=Z (kl x)) (hv:(f x).getD z=v)
  (hK:wpAnyH P md ops Q S fuel (listed.setIfInBounds i true) (a.put d v) w):wpAnyH P md ops Q S (fuel+1) listed a w:=by
 subst hv;refine eR d hi hd hs hf hr hQ hw hS (fun w' hS'=>?_) hK;simp[execOp,hop,hm,hy,(h w' hS').look K ht (hz w') hx hkey,Result.andThen]
end
theorem nP{w:Wv}{l bs:Nat}{V:LsV}{mb:Nat}{O:Oa}{oc cnt:Nat}{x:Nrm}{c:Col}{o:Opt}{f:Int->Option Value}{L:Its}(h:Lst w l bs V mb O oc cnt x c o f L)(D:Oa)(dn dk:Nat)(t:Li)(hD:aA w D t)(hn:t.length=dn)(hbig:dn<=16384)(hio:∀z∈t,iok z):
  Calls prog 45 #[.pointer (Z ⟨l,0,N⟩),H D dn dk] w (bE (kyN x c o t) w):=by
 subst hn;have X0:=h.box;unfold lsC at X0;have l0:=X0.lt;have KC:=G (fun W(hb:By w W)=>QB V.A0 _ V.k0 V.A1 _ V.k1 V.A2 _ V.k2 x V.C _ V.a V.B _ V.b c o D t.length dk t W (h.nrm.below hb) h.nz (h.laid.below hb) (h.col.below hb) h.cz (hD.below hb) rfl hbig hio);have SH:=G (fun W'(hb':By w W')=>show W'.cell? ⟨l,0,N⟩=Z (H V.A0 x.cls.length V.k0)/\W'.cell? ⟨l,1,N⟩=Z (H V.A1 x.dec.length V.k1)/\W'.cell? ⟨l,2,N⟩=Z (H V.A2 x.exc.length V.k2)/\W'.cell? ⟨l,3,N⟩=Z (H V.C c.ents.length V.a)/\W'.cell? ⟨l,4,N⟩=Z (H V.B c.grps.length V.b)/\W'.cell? ⟨l,5,N⟩=Z (I J c.base)/\W'.cell? ⟨l,6,N⟩=Z (I J c.second)/\W'.cell? ⟨l,7,N⟩=Z (I J c.third)/\W'.cell? ⟨l,8,N⟩=Z (I J o.st)/\W'.cell? ⟨l,9,N⟩=Z (I J o.va)/\W'.cell? ⟨l,10,N⟩=Z (.bool o.bk)/\W'.cell? ⟨l,11,N⟩=Z (.bool o.idn)/\By w W' from⟨(X0.below hb' l0).c 0 rfl,(X0.below hb' l0).c 1 rfl,(X0.below hb' l0).c 2 rfl,(X0.below hb' l0).c 3 rfl,(X0.below hb' l0).c 4 rfl,(X0.below hb' l0).c 5 rfl,(X0.below hb' l0).c 6 rfl,(X0.below hb' l0).c 7 rfl,(X0.below hb' l0).c 8 rfl,(X0.below hb' l0).c 9 rfl,(X0.below hb' l0).c 10 rfl,(X0.below hb' l0).c 11 rfl,hb'⟩);have EK:=U (kyN x c o t=iP (aN o) (aX x c t) (dtx x false t)) rfl;rw[<-EK.out]at KC;generalize kyN x c o t=ky at *;unfold aQ bE at KC;have TK:=G (fun W(hb':By w W)=>(KC.out W hb').mono (R':=fun e W'=>∃v,e=.returned v/\(W'.cell? ⟨l,0,N⟩=Z (H V.A0 x.cls.length V.k0)/\W'.cell? ⟨l,1,N⟩=Z (H V.A1 x.dec.length V.k1)/\W'.cell? ⟨l,2,N⟩=Z (H V.A2 x.exc.length V.k2)/\W'.cell? ⟨l,3,N⟩=Z (H V.C c.ents.length V.a)/\W'.cell? ⟨l,4,N⟩=Z (H V.B c.grps.length V.b)/\W'.cell? ⟨l,5,N⟩=Z (I J c.base)/\W'.cell? ⟨l,6,N⟩=Z (I J c.second)/\W'.cell? ⟨l,7,N⟩=Z (I J c.third)/\W'.cell? ⟨l,8,N⟩=Z (I J o.st)/\W'.cell? ⟨l,9,N⟩=Z (I J o.va)/\W'.cell? ⟨l,10,N⟩=Z (.bool o.bk)/\W'.cell? ⟨l,11,N⟩=Z (.bool o.idn)/\By w W')/\(∃A c,v=H A ky.length c/\W'.ownsRow w.heap.size 3 1 (H A ky.length c) ky.length (ky.map (Value.int .i64))/\By w W')) (fun e W'⟨A,c,he,g1,g2⟩=>⟨_,he,SH.out W' (hb'.trans (g2.mono hb'.size)),A,c,rfl,eL g1 hb'.size,hb'.trans (g2.mono hb'.size)⟩));clear h hD hio X0 EK KC;go_enter func45,ntmps45;go_upto_region 1 with(fail)
 refine wp_region_held_drew (S:=fun W'=>W'.cell? ⟨l,0,N⟩=Z (H V.A0 x.cls.length V.k0)/\W'.cell? ⟨l,1,N⟩=Z (H V.A1 x.dec.length V.k1)/\W'.cell? ⟨l,2,N⟩=Z (H V.A2 x.exc.length V.k2)/\W'.cell? ⟨l,3,N⟩=Z (H V.C c.ents.length V.a)/\W'.cell? ⟨l,4,N⟩=Z (H V.B c.grps.length V.b)/\W'.cell? ⟨l,5,N⟩=Z (I J c.base)/\W'.cell? ⟨l,6,N⟩=Z (I J c.second)/\W'.cell? ⟨l,7,N⟩=Z (I J c.third)/\W'.cell? ⟨l,8,N⟩=Z (I J o.st)/\W'.cell? ⟨l,9,N⟩=Z (I J o.va)/\W'.cell? ⟨l,10,N⟩=Z (.bool o.bk)/\W'.cell? ⟨l,11,N⟩=Z (.bool o.idn)/\By w W') (by kernel_rfl) (SH.out _ ((Below.refl _ _).drew)) (fun hHeld=>?_);refine tK 0 5 ?_;refine tK 1 6 ?_;refine tK 2 7 ?_;refine tK 3 8 ?_;refine tK 4 9 ?_;refine tK 5 10 ?_;refine tK 6 11 ?_;refine tK 7 12 ?_;refine tK 8 13 ?_;refine tK 9 14 ?_;refine tK 10 15 ?_;refine tK 11 16 ?_;refine tK 12 17 ?_;refine qE 13 18 (TK.out _ hHeld.2.2.2.2.2.2.2.2.2.2.2.2) ?_;clear hHeld;rintro _ W5 hHeld ⟨A5,c5,rfl,hO5,hb5⟩;refine tK 14 4 ?_;refine wpAnyH_done (by kernel_rfl) ?_ _;clear hHeld SH TK;go_wp2_with fail;go_ret;exact⟨A5,c5,rfl,hO5,hb5⟩
theorem ZK{w:Wv}{l bs:Nat}{V:LsV}{mb:Nat}{O:Oa}{oc cnt:Nat}{x:Nrm}{c:Col}{o:Opt}{f:Int->Option Value}{L:Its}(h:Lst w l bs V mb O oc cnt x c o f L)(b1 b2 b3:Nat)(D:Oa)(dk:Nat)(k:Li)(id:Int)(i:Nat)(h1:Box w b1 40 [.pointer (Z ⟨l,0,N⟩)])(h2:Box w b2 49 [H D k.length dk])(h3:Box w b3 3 [I J id])(hD:aA w D k)(hbig:k.length<=9223372036854775807)(hi:i<L.length):
  Calls prog 86 #[I J i,.pointer (Z ⟨b1,0,N⟩),.pointer (Z ⟨b2,0,N⟩),.pointer (Z ⟨b3,0,N⟩)] w (fH (decide (¬ltI (kyN x c o L[i].2,L[i].1) (k,id))) w):=by
 obtain⟨g,rfl,hg1,hg2,hcell⟩:=h.at hi;obtain⟨T,tk,K,kk,hf,hT,hK⟩:=h.get hi;have hid':=(h.ok _ (List.getElem_mem hi)).1;have hkl:=iF x c o L[i].2;have htl:=(h.ok _ (List.getElem_mem hi)).2.1;have X0:=h.box;unfold lsC at X0;have l0:=X0.lt;have HM:=G (fun W(hb:By w W)=>(h.map.is.below hb:hZ W mb cnt f));have OG:=G (UT (kyN x c o L[i].2,L[i].1) (k,id));have hL100:=h.len;dsimp only at OG;generalize kyN x c o L[i].2=ky at *;generalize L[i].2.length=tl at *;generalize L[i].1=id' at *;have HID:=G hid';have HF:=G hf;have q1:=h1.c 0 rfl;have l1:=h1.lt;have l2:=h2.lt;have l3:=h3.lt;have c13:=X0.c 13 rfl;have SH:=G (fun W'(hb':By w W')=>show W'.cell? ⟨b1,0,N⟩=Z (.pointer (Z ⟨l,0,N⟩))/\W'.cell? ⟨b2,0,N⟩=Z (H D k.length dk)/\W'.cell? ⟨b3,0,N⟩=Z (I J id)/\W'.cell? ⟨l,12,N⟩=Z (.map (Z mb))/\By w W' from⟨(h1.below hb' l1).c 0 rfl,(h2.below hb' l2).c 0 rfl,(h3.below hb' l3).c 0 rfl,(X0.below hb' l0).c 12 rfl,hb'⟩);have TC1:=G (fun W(hb':By w W)=>(oP K D ky.length k.length kk dk ky k W (hK.1.below hb') (hD.below hb') rfl rfl (by omega) hbig).mono (R':=fun e W'=>e=.returned (I J (aD ky k))/\(W'.cell? ⟨b1,0,N⟩=Z (.pointer (Z ⟨l,0,N⟩))/\W'.cell? ⟨b2,0,N⟩=Z (H D k.length dk)/\W'.cell? ⟨b3,0,N⟩=Z (I J id)/\W'.cell? ⟨l,12,N⟩=Z (.map (Z mb))/\By w W')) (fun e W' hh=>⟨hh.1,SH.out W' (hb'.trans (hh.2.below.mono hb'.size))⟩));have TC2:=G (fun W(hb':By w W)=>(kF id' id W).mono (R':=fun e W'=>e=.returned (I J (cB id' id))/\(W'.cell? ⟨b1,0,N⟩=Z (.pointer (Z ⟨l,0,N⟩))/\W'.cell? ⟨b2,0,N⟩=Z (H D k.length dk)/\W'.cell? ⟨b3,0,N⟩=Z (I J id)/\W'.cell? ⟨l,12,N⟩=Z (.map (Z mb))/\By w W')) (fun e W' hh=>⟨hh.1,SH.out W' (hh.2 ▸ hb')⟩));have TC3:=G (fun(B:Nat) W (hb':By w W) (hB:aA W (Z ⟨B,0,N⟩) [aD ky k,cB id' id])=>(tQ B 2 (aD ky k) (cB id' id) W hB).mono (R':=fun e W'=>e=.returned (I J (orI (aD ky k) (cB id' id)))/\(W'.cell? ⟨b1,0,N⟩=Z (.pointer (Z ⟨l,0,N⟩))/\W'.cell? ⟨b2,0,N⟩=Z (H D k.length dk)/\W'.cell? ⟨b3,0,N⟩=Z (I J id)/\W'.cell? ⟨l,12,N⟩=Z (.map (Z mb))/\By w W')) (fun e W' hh=>⟨hh.1,SH.out W' (hh.2 ▸ hb')⟩));generalize aD ky k=c1 at *;generalize cB id' id=c2 at *;generalize orI c1 c2=ov at *;clear h h1 h2 h3 hD hf hT hK X0 hid' hkl htl;go_enter func86,ntmps86;go_upto_region 2 with(fail)
 refine wp_region_held_drew (S:=fun W'=>W'.cell? ⟨b1,0,N⟩=Z (.pointer (Z ⟨l,0,N⟩))/\W'.cell? ⟨b2,0,N⟩=Z (H D k.length dk)/\W'.cell? ⟨b3,0,N⟩=Z (I J id)/\W'.cell? ⟨l,12,N⟩=Z (.map (Z mb))/\By w W') (by kernel_rfl) (SH.out _ ((Below.refl _ _).drew)) (fun hHeld=>?_);refine tK 0 14 ?_;refine tK 1 15 ?_;refine tK 2 16 ?_;refine tK 3 17 ?_;refine tK 4 18 ?_;refine oJ (i:=5) (v:=.agg #[H T tl tk,H K ky.length kk]) (Z 19) rfl rfl (by kernel_rfl) (by kernel_rfl) (by kernel_rfl) (fun _ _ _ h=>h) (by rfl) (by assumption) _ _ 78 rfl (fun W hS=>HM.out W hS.2.2.2.2) eD underlying78 jI rfl rfl HID.out (eC HID.out) (by rw[HF.out];rfl) ?_;try simp only[Act.put,sA,sB,sC]
 refine eR (i:=6) (v:=H K ky.length kk) (Z 20) rfl rfl (by kernel_rfl) (by kernel_rfl) (by kernel_rfl) (fun _ _ _ h=>h) (by rfl) (by assumption) (fun W _=>oZ _ _ W) ?_;try simp only[Act.put,sA,sB,sC]
 refine tK 7 21 ?_;refine tK 9 23 ?_;refine tK 10 24 ?_;refine qK 8 22 (TC1.out _ hHeld.2.2.2.2) ?_;clear hHeld;intro W5 hHeld;refine qK 11 25 (TC2.out _ hHeld.2.2.2.2) ?_;clear hHeld;intro W6 hHeld;have Sn:=SH.out (W6.alloc (.cells #[I J c1,I J c2] 3)) (hHeld.2.2.2.2.alloc hHeld.2.2.2.2.size _);have HI2:=U (aA (W6.alloc (.cells #[I J c1,I J c2] 3)) (Z ⟨W6.heap.size,0,N⟩) [c1,c2]) (bZ W6 [c1,c2] 3 rfl);refine kC (w':=(W6.alloc (.cells #[I J c1,I J c2] 3))) (v:=H (Z ⟨W6.heap.size,0,N⟩) 2 2) (i:=12) (Z 26) rfl rfl (by kernel_rfl) (by rfl) (by go_simp) Sn ?_;clear hHeld;have hHeld:=Sn;try simp only[Act.put,sA,sB,sC]
 refine qK 13 27 (TC3.out _ _ hHeld.2.2.2.2 HI2.out) ?_;clear hHeld;intro W7 hHeld;refine tK 14 28 ?_;refine tK 15 5 ?_;refine wpAnyH_done (by kernel_rfl) ?_ _;have hbf:=hHeld.2.2.2.2;clear hHeld SH TC1 TC2 TC3;go_wp2_with fail;go_ret;exact⟨dK OG.out,hbf⟩
theorem NR{K:Li->Li}{L:Its}(h:Srt K L){n r:Nat}(hn:n=L.length){q:It}(hf:Found n (fun i=>decide (¬ltI ((kL K L).getD i ([],0)) q)) r):r=plc (kL K L) q:=by
 subst hn;have hl:=kL_len (K:=K) (L:=L);have hp:plc (kL K L) q<=L.length:=by unfold plc;exact Nat.le_trans (cnt_le _) (by omega)
 have gd:∀i,(hi:i<(kL K L).length)->(kL K L).getD i ([],0)=(kL K L)[i]:=fun i hi=>by simp[List.getD,hi]
 have h1:=hf.le;rcases Nat.lt_trichotomy r (plc (kL K L) q)with g|g|g
 ·have:=hf.hi r (Nat.le_refl _) (by omega)
  rw[gd r (by omega),decide_eq_true_eq]at this;exact absurd ((plc_iff h.asc q r (by omega)).2 g) this
 ·exact g
 have:=hf.lo _ g;rw[gd _ (by omega),decide_eq_false_iff_not,Classical.not_not]at this;have:=(plc_iff h.asc q (plc (kL K L) q) (by omega)).1 this;omega
theorem NQ{K:Li->Li}{L:Its}(h:Srt K L){n r:Nat}(hn:n=L.length){k:Li}(hf:Found n (fun i=>decide (0<=aD ((kL K L).getD i ([],0)).1 k)) r):r=frm (kL K L) k:=by
 subst hn;have hl:=kL_len (K:=K) (L:=L);have hp:frm (kL K L) k<=L.length:=by unfold frm;exact Nat.le_trans (cnt_le _) (by omega)
 have gd:∀i,(hi:i<(kL K L).length)->(kL K L).getD i ([],0)=(kL K L)[i]:=fun i hi=>by simp[List.getD,hi]
 have h1:=hf.le;rcases Nat.lt_trichotomy r (frm (kL K L) k)with g|g|g
 ·have:=hf.hi r (Nat.le_refl _) (by omega)
  rw[gd r (by omega),decide_eq_true_eq]at this;have:=(frm_iff h.asc k r (by omega)).2 g;omega
 ·exact g
 have:=hf.lo _ g;rw[gd _ (by omega),decide_eq_false_iff_not]at this;have:=(frm_iff h.asc k (frm (kL K L) k) (by omega)).1 (by omega);omega
theorem uC{w:Wv}{l bs:Nat}{V:LsV}{mb:Nat}{O:Oa}{oc cnt:Nat}{x:Nrm}{c:Col}{o:Opt}{f:Int->Option Value}{L:Its}(h:Lst w l bs V mb O oc cnt x c o f L)(D:Oa)(dk:Nat)(k:Li)(id:Int)(hD:aA w D k)(hbig:k.length<=9223372036854775807):
  Calls prog 46 #[.pointer (Z ⟨l,0,N⟩),H D k.length dk,I J id] w (cA (plc (kL (kyN x c o) L) (k,id):Nat) w):=by
 have B0:By w (((w.alloc (.cells #[.pointer (Z ⟨l,0,N⟩)] 40)).alloc (.cells #[H D k.length dk] 49)).alloc (.cells #[I J id] 3)):=((ba _ _).alloc (by simp) _).alloc (by simp<;>omega) _;have X0:Box (((w.alloc (.cells #[.pointer (Z ⟨l,0,N⟩)] 40)).alloc (.cells #[H D k.length dk] 49)).alloc (.cells #[I J id] 3)) w.heap.size 40 [.pointer (Z ⟨l,0,N⟩)]:=aS (aS (Box.new w 40 [.pointer (Z ⟨l,0,N⟩)] rfl) _) _;have X1:Box (((w.alloc (.cells #[.pointer (Z ⟨l,0,N⟩)] 40)).alloc (.cells #[H D k.length dk] 49)).alloc (.cells #[I J id] 3)) (w.heap.size+1) 49 [H D k.length dk]:=aS (Box.new _ 49 [H D k.length dk] (by simp)) _;have X2:Box (((w.alloc (.cells #[.pointer (Z ⟨l,0,N⟩)] 40)).alloc (.cells #[H D k.length dk] 49)).alloc (.cells #[I J id] 3)) (w.heap.size+1+1) 3 [I J id]:=Box.new _ _ _ (by simp);have W0E:∃W0,(((w.alloc (.cells #[.pointer (Z ⟨l,0,N⟩)] 40)).alloc (.cells #[H D k.length dk] 49)).alloc (.cells #[I J id] 3))=W0:=⟨_,rfl⟩;have HH:=G h;have HD:=G hD;have FP:=G (fun r(hf:Found L.length (fun i=>decide (¬ltI ((kL (kyN x c o) L).getD i ([],0)) (k,id))) r)=>NR h.srt rfl hf);have HS:=G (fun i(hi:i<L.length)=>plc_iff h.srt.asc (k,id) i (by rw[kL_len];exact hi));have hb:=h.box;unfold lsC at hb;have l0:=hb.lt;have hL100:=h.len;clear h hD;go_enter func46,ntmps46;go_upto_region 1 with(fail)
 obtain⟨W0,hW0⟩:=W0E;try rw[hW0]at B0 X0 X1 X2|-
 clear hW0;have q0:=X0.c 0 rfl;have c13:=(hb.below B0 l0).c 13 rfl;have e0:=X0.lt;have e1:=X1.lt;have e2:=X2.lt
 have SC:=G (uA 86 #[.pointer (Z ⟨w.heap.size,0,N⟩),.pointer (Z ⟨w.heap.size+1,0,N⟩),.pointer (Z ⟨w.heap.size+1+1,0,N⟩)] L.length (fun i=>decide (¬ltI ((kL (kyN x c o) L).getD i ([],0)) (k,id))) W0 (enters_of func86 (by kernel_rfl) rfl) (by omega)
  (fun i W hi hb'=>by
   have h1:=ZK (HH.out.below (B0.trans (hb'.mono B0.size))) w.heap.size (w.heap.size+1) (w.heap.size+1+1) D dk k id i (X0.below hb' e0) (X1.below hb' e1) (X2.below hb' e2) (HD.out.below (B0.trans (hb'.mono B0.size))) hbig hi
   have e:(kL (kyN x c o) L).getD i ([],0)=(kyN x c o L[i].2,L[i].1):=by
    have hi':i<(kL (kyN x c o) L).length:=by rw[kL_len];exact hi
    rw[show(kL (kyN x c o) L).getD i ([],0)=(kL (kyN x c o) L)[i] by simp[List.getD,hi'],kL_get i hi]
   rw[e]
   exact h1)
  (fun a b hab hb h=>by
   have gd:∀i,(hi:i<L.length)->(kL (kyN x c o) L).getD i ([],0)=(kL (kyN x c o) L)[i]'(by rw[kL_len];exact hi):=fun i hi=>by simp[List.getD,show i<(kL (kyN x c o) L).length by rw[kL_len];exact hi]
   have ha:a<L.length:=by omega
   simp only[gd a ha,gd b hb,decide_eq_true_eq]at h|-
   rw[HS.out a ha]at h
   rw[HS.out b hb]
   omega))
 clear HH HD HS X0 X1 X2 hb;go_wp2_with fail;with_reducible refine SC.out.mono ?_
 rintro e w1 ⟨r,rfl,hf,hb1⟩;obtain rfl:=FP.out r hf;clear SC FP hf q0 c13;go_wp2_with fail;go_ret;exact⟨rfl,B0.trans (hb1.mono B0.size)⟩
theorem ZJ{w:Wv}{l bs:Nat}{V:LsV}{mb:Nat}{O:Oa}{oc cnt:Nat}{x:Nrm}{c:Col}{o:Opt}{f:Int->Option Value}{L:Its}(h:Lst w l bs V mb O oc cnt x c o f L)(b1 b2:Nat)(D:Oa)(dk:Nat)(k:Li)(i:Nat)(h1:Box w b1 40 [.pointer (Z ⟨l,0,N⟩)])(h2:Box w b2 49 [H D k.length dk])(hD:aA w D k)(hbig:k.length<=9223372036854775807)(hi:i<L.length):
  Calls prog 91 #[I J i,.pointer (Z ⟨b1,0,N⟩),.pointer (Z ⟨b2,0,N⟩)] w (fH (decide (0<=aD (kyN x c o L[i].2) k)) w):=by
 obtain⟨g,rfl,hg1,hg2,hcell⟩:=h.at hi;obtain⟨T,tk,K,kk,hf,hT,hK⟩:=h.get hi;have hid':=(h.ok _ (List.getElem_mem hi)).1;have hkl:=iF x c o L[i].2;have htl:=(h.ok _ (List.getElem_mem hi)).2.1;have X0:=h.box;unfold lsC at X0;have l0:=X0.lt;have HM:=G (fun W(hb:By w W)=>(h.map.is.below hb:hZ W mb cnt f));have hL100:=h.len;generalize kyN x c o L[i].2=ky at *;generalize L[i].2.length=tl at *;generalize L[i].1=id' at *;have HID:=G hid';have HF:=G hf;have l1:=h1.lt;have l2:=h2.lt;have SH:=G (fun W'(hb':By w W')=>show W'.cell? ⟨b1,0,N⟩=Z (.pointer (Z ⟨l,0,N⟩))/\W'.cell? ⟨b2,0,N⟩=Z (H D k.length dk)/\W'.cell? ⟨l,12,N⟩=Z (.map (Z mb))/\W'.cell? ⟨l,13,N⟩=Z (H (Z ⟨g,0,N⟩) L.length oc)/\W'.cell? ⟨g,i,N⟩=Z (I J id')/\By w W' from⟨(h1.below hb' l1).c 0 rfl,(h2.below hb' l2).c 0 rfl,(X0.below hb' l0).c 12 rfl,(X0.below hb' l0).c 13 rfl,(hb'.cell (p:=⟨g,i,N⟩) hg2).trans hcell,hb'⟩);have TC1:=G (fun W(hb':By w W)=>(oP K D ky.length k.length kk dk ky k W (hK.1.below hb') (hD.below hb') rfl rfl (by omega) hbig).mono (R':=fun e W'=>e=.returned (I J (aD ky k))/\(W'.cell? ⟨b1,0,N⟩=Z (.pointer (Z ⟨l,0,N⟩))/\W'.cell? ⟨b2,0,N⟩=Z (H D k.length dk)/\W'.cell? ⟨l,12,N⟩=Z (.map (Z mb))/\W'.cell? ⟨l,13,N⟩=Z (H (Z ⟨g,0,N⟩) L.length oc)/\W'.cell? ⟨g,i,N⟩=Z (I J id')/\By w W')) (fun e W' hh=>⟨hh.1,SH.out W' (hb'.trans (hh.2.below.mono hb'.size))⟩));generalize aD ky k=c1 at *;clear h h1 h2 hD hf hT hK X0 hid' hkl htl hcell;go_enter func91,ntmps91;go_upto_region 1 with(fail)
 refine wp_region_held_drew (S:=fun W'=>W'.cell? ⟨b1,0,N⟩=Z (.pointer (Z ⟨l,0,N⟩))/\W'.cell? ⟨b2,0,N⟩=Z (H D k.length dk)/\W'.cell? ⟨l,12,N⟩=Z (.map (Z mb))/\W'.cell? ⟨l,13,N⟩=Z (H (Z ⟨g,0,N⟩) L.length oc)/\W'.cell? ⟨g,i,N⟩=Z (I J id')/\By w W') (by kernel_rfl) (SH.out _ ((Below.refl _ _).drew)) (fun hHeld=>?_);refine tK 0 5 ?_;refine tK 1 6 ?_;refine tK 2 7 ?_;refine tK 3 8 ?_;refine tK 4 9 ?_;refine tK 5 10 ?_;refine tK 6 11 ?_;refine tK 7 12 ?_;refine tK 8 13 ?_;refine tK 9 14 ?_;refine tK 10 15 ?_;refine tK 13 18 ?_;refine oJ (i:=11) (v:=.agg #[H T tl tk,H K ky.length kk]) (Z 16) rfl rfl (by kernel_rfl) (by kernel_rfl) (by kernel_rfl) (fun _ _ _ h=>h) (by rfl) (by assumption) _ _ 78 rfl (fun W hS=>HM.out W hS.2.2.2.2.2) eD underlying78 jI rfl rfl HID.out (eC HID.out) (by rw[HF.out];rfl) ?_;try simp only[Act.put,sA,sB,sC]
 refine eR (i:=12) (v:=H K ky.length kk) (Z 17) rfl rfl (by kernel_rfl) (by kernel_rfl) (by kernel_rfl) (fun _ _ _ h=>h) (by rfl) (by assumption) (fun W _=>oZ _ _ W) ?_;try simp only[Act.put,sA,sB,sC]
 refine qK 14 19 (TC1.out _ hHeld.2.2.2.2.2) ?_;clear hHeld;intro W5 hHeld;refine tK 15 20 ?_;refine tK 16 4 ?_;refine wpAnyH_done (by kernel_rfl) ?_ _;have hbf:=hHeld.2.2.2.2.2;clear hHeld SH TC1;go_wp2_with fail;go_ret;exact⟨rfl,hbf⟩
theorem uB{w:Wv}{l bs:Nat}{V:LsV}{mb:Nat}{O:Oa}{oc cnt:Nat}{x:Nrm}{c:Col}{o:Opt}{f:Int->Option Value}{L:Its}(h:Lst w l bs V mb O oc cnt x c o f L)(D:Oa)(dk:Nat)(k:Li)(hD:aA w D k)(hbig:k.length<=9223372036854775807):
  Calls prog 50 #[.pointer (Z ⟨l,0,N⟩),H D k.length dk] w (cA (frm (kL (kyN x c o) L) k:Nat) w):=by
 have B0:By w ((w.alloc (.cells #[.pointer (Z ⟨l,0,N⟩)] 40)).alloc (.cells #[H D k.length dk] 49)):=(ba _ _).alloc (by simp) _;have X0:Box ((w.alloc (.cells #[.pointer (Z ⟨l,0,N⟩)] 40)).alloc (.cells #[H D k.length dk] 49)) w.heap.size 40 [.pointer (Z ⟨l,0,N⟩)]:=aS (Box.new w 40 [.pointer (Z ⟨l,0,N⟩)] rfl) _;have X1:Box ((w.alloc (.cells #[.pointer (Z ⟨l,0,N⟩)] 40)).alloc (.cells #[H D k.length dk] 49)) (w.heap.size+1) 49 [H D k.length dk]:=Box.new _ 49 [H D k.length dk] (by simp);have W0E:∃W0,((w.alloc (.cells #[.pointer (Z ⟨l,0,N⟩)] 40)).alloc (.cells #[H D k.length dk] 49))=W0:=⟨_,rfl⟩;have HH:=G h;have HD:=G hD;have FP:=G (fun r(hf:Found L.length (fun i=>decide (0<=aD ((kL (kyN x c o) L).getD i ([],0)).1 k)) r)=>NQ h.srt rfl hf);have HS:=G (fun i(hi:i<L.length)=>frm_iff h.srt.asc k i (by rw[kL_len];exact hi));have hb:=h.box;unfold lsC at hb;have l0:=hb.lt;have hL100:=h.len;clear h hD;go_enter func50,ntmps50;go_upto_region 1 with(fail)
 obtain⟨W0,hW0⟩:=W0E;try rw[hW0]at B0 X0 X1|-
 clear hW0;have q0:=X0.c 0 rfl;have c13:=(hb.below B0 l0).c 13 rfl;have e0:=X0.lt;have e1:=X1.lt
 have SC:=G (uA 91 #[.pointer (Z ⟨w.heap.size,0,N⟩),.pointer (Z ⟨w.heap.size+1,0,N⟩)] L.length (fun i=>decide (0<=aD ((kL (kyN x c o) L).getD i ([],0)).1 k)) W0 (enters_of func91 (by kernel_rfl) rfl) (by omega)
  (fun i W hi hb'=>by
   have h1:=ZJ (HH.out.below (B0.trans (hb'.mono B0.size))) w.heap.size (w.heap.size+1) D dk k i (X0.below hb' e0) (X1.below hb' e1) (HD.out.below (B0.trans (hb'.mono B0.size))) hbig hi
   have e:(kL (kyN x c o) L).getD i ([],0)=(kyN x c o L[i].2,L[i].1):=by
    have hi':i<(kL (kyN x c o) L).length:=by rw[kL_len];exact hi
    rw[show(kL (kyN x c o) L).getD i ([],0)=(kL (kyN x c o) L)[i] by simp[List.getD,hi'],kL_get i hi]
   rw[e]
   exact h1)
  (fun a b hab hb h=>by
   have gd:∀i,(hi:i<L.length)->(kL (kyN x c o) L).getD i ([],0)=(kL (kyN x c o) L)[i]'(by rw[kL_len];exact hi):=fun i hi=>by simp[List.getD,show i<(kL (kyN x c o) L).length by rw[kL_len];exact hi]
   have ha:a<L.length:=by omega
   have h1:=HS.out a ha
   have h2:=HS.out b hb
   simp only[gd a ha,gd b hb,decide_eq_true_eq]at h|-
   omega))
 clear HH HD HS X0 X1 hb;go_wp2_with fail;with_reducible refine SC.out.mono ?_
 rintro e w1 ⟨r,rfl,hf,hb1⟩;obtain rfl:=FP.out r hf;clear SC FP hf q0 c13;go_wp2_with fail;go_ret;exact⟨rfl,B0.trans (hb1.mono B0.size)⟩
theorem qC{w:Wv}{l bs:Nat}{V:LsV}{mb:Nat}{O:Oa}{oc cnt:Nat}{x:Nrm}{c:Col}{o:Opt}{f:Int->Option Value}{L:Its}(h:Lst w l bs V mb O oc cnt x c o f L)(id:Int)(hid:iok id):
  Calls prog 22 #[.pointer (Z ⟨l,0,N⟩),I J id] w (cA (posL L id) w):=by
 have X0:=h.box;unfold lsC at X0;have l0:=X0.lt;have HM:=U (hZ w mb cnt f) h.map.is;have HID:=G hid;have c12:=X0.c 12 rfl;by_cases hin:id∈idsL L
 ·obtain⟨p,hp,hpe⟩:=List.mem_map.1 hin
  obtain⟨T,tk,K,kk,hf,hT,hK⟩:=h.item p hp;have hok:=h.ok p hp;obtain⟨id',t⟩:=p;dsimp only at *;subst hpe;have HF:=G hf;have hkl:=iF x c o t;have B0:By w (w.alloc (.cells #[H T t.length tk,H K (kyN x c o t).length kk] 97)):=ba _ _;have X1:Box (w.alloc (.cells #[H T t.length tk,H K (kyN x c o t).length kk] 97)) w.heap.size 97 [H T t.length tk,H K (kyN x c o t).length kk]:=Box.new w 97 [H T t.length tk,H K (kyN x c o t).length kk] rfl;have W0E:∃W0,(w.alloc (.cells #[H T t.length tk,H K (kyN x c o t).length kk] 97))=W0:=⟨_,rfl⟩;have PP:=G (posL_plc h.srt hp).1;have PC:=G (fun W(hb:By w W)=>uC (h.below hb) K kk (kyN x c o t) id' (hK.1.below hb) (by omega));rw[<-PP.out]at PC;have hgen:∃ps,posL L id'=ps:=⟨_,rfl⟩;obtain⟨ps,hps⟩:=hgen;rw[hps]at PC|-;generalize kyN x c o t=ky at *;clear h hT hK X0 hin hp hok hf hkl hid PP hps;go_enter func22,ntmps22;go_upto_region 4 with(at_lookup;refine gY rfl _ _ 78 rfl HM.out eD underlying78 (jI _) rfl rfl HID.out (eC HID.out) ?_;rw[HF.out];first|rw[Option.getD_some,Option.isSome_some]|rw[Option.getD_none,Option.isSome_none])
  obtain⟨W0,hW0⟩:=W0E;try rw[hW0]at B0 X1|-
  clear hW0 c12;have d1:=X1.c 1 rfl;clear X1 l0;go_wp2_with fail;with_reducible refine(PC.out W0 B0).mono ?_
  rintro e w1 ⟨rfl,hb1⟩;have hbf:=B0.trans (hb1.mono B0.size);clear d1 PC hb1 B0;go_wp2_with fail;go_ret;exact⟨rfl,hbf⟩
 have HF:=G (h.gone id hid hin);have PP:=G (posL_none hin);have B0:By w (w.alloc (.cells #[H N 0 0,H N 0 0] 97)):=ba _ _;rw[PP.out];clear h X0 hid hin PP;go_enter func22,ntmps22;go_wp2_with(at_lookup;refine gY rfl _ _ 78 rfl HM.out eD underlying78 (jI _) rfl rfl HID.out (eC HID.out) ?_;rw[HF.out];first|rw[Option.getD_some,Option.isSome_some]|rw[Option.getD_none,Option.isSome_none]);go_ret;exact⟨rfl,B0⟩
def qV(t:Option (Li))(w:Wv)(e:Ending)(w':Wv):Prop:=∃A k,e=.returned (.tuple #[H A (t.getD []).length k,.bool t.isSome])/\aA w' A (t.getD [])/\(∀q,blk A=Z q->w.heap.size<=q)/\By w w'
theorem BX{w:Wv}{l bs:Nat}{V:LsV}{mb:Nat}{O:Oa}{oc cnt:Nat}{x:Nrm}{c:Col}{o:Opt}{f:Int->Option Value}{L:Its}(h:Lst w l bs V mb O oc cnt x c o f L)(id:Int)(hid:iok id):
  Calls prog 17 #[.pointer (Z ⟨l,0,N⟩),I J id] w (qV (getL L id) w):=by
 have X0:=h.box;unfold lsC at X0;have l0:=X0.lt;have HM:=U (hZ w mb cnt f) h.map.is;have HID:=G hid;have c12:=X0.c 12 rfl;by_cases hin:id∈idsL L
 ·obtain⟨p,hp,hpe⟩:=List.mem_map.1 hin
  obtain⟨T,tk,K,kk,hf,hT,hK⟩:=h.item p hp;have hok:=h.ok p hp;obtain⟨id',t⟩:=p;dsimp only at *;subst hpe;have HF:=G hf;have hkl:=iF x c o t;have B0:By w (w.alloc (.cells #[H T t.length tk,H K (kyN x c o t).length kk] 97)):=ba _ _;have X1:Box (w.alloc (.cells #[H T t.length tk,H K (kyN x c o t).length kk] 97)) w.heap.size 97 [H T t.length tk,H K (kyN x c o t).length kk]:=Box.new w 97 [H T t.length tk,H K (kyN x c o t).length kk] rfl;have W0E:∃W0,(w.alloc (.cells #[H T t.length tk,H K (kyN x c o t).length kk] 97))=W0:=⟨_,rfl⟩;have PP:=G (getL_mem h.srt.one hp);have PC:=G (fun W(hb:By w W)=>jC T t.length tk t W (hT.1.below hb) rfl (by omega));rw[PP.out];generalize kyN x c o t=ky at *;unfold bE at PC;clear h hT hK X0 hin hp hok hf hkl hid PP;go_enter func17,ntmps17;go_upto_region 4 with(at_lookup;refine gY rfl _ _ 78 rfl HM.out eD underlying78 (jI _) rfl rfl HID.out (eC HID.out) ?_;rw[HF.out];first|rw[Option.getD_some,Option.isSome_some]|rw[Option.getD_none,Option.isSome_none])
  obtain⟨W0,hW0⟩:=W0E;try rw[hW0]at B0 X1|-
  clear hW0 c12;have d1:=X1.c 0 rfl;clear X1 l0;go_wp2_with fail;with_reducible refine(PC.out W0 B0).mono ?_
  rintro e w1 ⟨E,d,rfl,hE,hb1⟩;have hbf:=B0.trans (hb1.mono B0.size);have hz0:=B0.size;clear d1 PC hb1 B0;go_wp2_with fail;go_ret2;exact⟨E,d,rfl,Sl.of_own hE,fun q hq=>Nat.le_trans hz0 (dD hE hq).1,hbf⟩
 have HF:=G (h.gone id hid hin);have PP:=G (getL_none.2 hin);have B0:By w (w.alloc (.cells #[H N 0 0,H N 0 0] 97)):=ba _ _;have X1:Box (w.alloc (.cells #[H N 0 0,H N 0 0] 97)) w.heap.size 97 [H N 0 0,H N 0 0]:=Box.new w 97 [H N 0 0,H N 0 0] rfl;have W0E:∃W0,(w.alloc (.cells #[H N 0 0,H N 0 0] 97))=W0:=⟨_,rfl⟩;have PC:=G (fun W=>jC N 0 0 [] W (Sl.nil _ _) rfl (by omega));rw[PP.out];unfold bE at PC;clear h X0 hid hin PP;go_enter func17,ntmps17;go_upto_region 4 with(at_lookup;refine gY rfl _ _ 78 rfl HM.out eD underlying78 (jI _) rfl rfl HID.out (eC HID.out) ?_;rw[HF.out];first|rw[Option.getD_some,Option.isSome_some]|rw[Option.getD_none,Option.isSome_none])
 obtain⟨W0,hW0⟩:=W0E;try rw[hW0]at B0 X1|-
 clear hW0 c12;have d1:=X1.c 0 rfl;clear X1 l0;go_wp2_with fail;with_reducible refine(PC.out W0).mono ?_
 rintro e w1 ⟨E,d,rfl,hE,hb1⟩;have hbf:=B0.trans (hb1.mono B0.size);have hz0:=B0.size;clear d1 PC hb1 B0;go_wp2_with fail;go_ret2;exact⟨E,d,rfl,Sl.of_own hE,fun q hq=>Nat.le_trans hz0 (dD hE hq).1,hbf⟩
theorem BY{w:Wv}{l bs:Nat}{V:LsV}{mb:Nat}{O:Oa}{oc cnt:Nat}{x:Nrm}{c:Col}{o:Opt}{f:Int->Option Value}{L:Its}(h:Lst w l bs V mb O oc cnt x c o f L):
  Calls prog 20 #[.pointer (Z ⟨l,0,N⟩)] w (bE (idsL L) w):=by
 have X0:=h.box;unfold lsC at X0;have c13:=X0.c 13 rfl;have hil:=idsL_len (L:=L);have hL100:=h.len;have PC:=G (jC O L.length oc (idsL L) w h.ids hil (by omega));unfold bE at PC|-;rw[hil]at PC|-;clear h X0 hil;go_enter func20,ntmps20;go_wp2_with fail;with_reducible refine PC.out.mono ?_
 rintro e w1 ⟨E,d,rfl,hE,hb1⟩;clear PC c13;go_wp2_with fail;go_ret;exact⟨E,d,rfl,hE,hb1⟩
end
section
open Go.Shelf Go.RowKit
def QP:Ren:=⟨fun|21=>48|27=>89|28=>90|35=>123|39=>144|n=>n,fun|0=>0|3=>3|4=>4|22=>49|n=>n,fun n=>n⟩
theorem pL:Lays2.n21 prog QP:={
 mixed:=by kernel_rfl,
 f21:=func48.trans (congrArg Z (by kernel_rfl)),
 f27:=func89.trans (congrArg Z (by kernel_rfl)),
 f28:=func90.trans (congrArg Z (by kernel_rfl)),
 f35:=func123.trans (congrArg Z (by kernel_rfl)),
 f39:=func144.trans (congrArg Z (by kernel_rfl)),
 t0:=underlying0,
 a0:=isAgg0,
 z0:=sizeOf0,
 v0:=zeroValue0,
 t3:=underlying3,
 a3:=isAgg3,
 z3:=sizeOf3,
 v3:=zeroValue3,
 t4:=underlying4,
 a4:=isAgg4,
 z4:=sizeOf4,
 v4:=zeroValue4,
 t22:=underlying49,
 a22:=isAgg49,
 z22:=sizeOf49,
 v22:=zeroValue49,
 i3:=by kernel_rfl }
def QO:Ren:=⟨fun|23=>43|n=>n,fun|0=>0|3=>3|4=>4|22=>49|n=>n,fun n=>n⟩
theorem QM:Lays2.n23 prog QO:={
 mixed:=by kernel_rfl,
 f23:=func43.trans (congrArg Z (by kernel_rfl)),
 t0:=underlying0,
 a0:=isAgg0,
 z0:=sizeOf0,
 v0:=zeroValue0,
 t3:=underlying3,
 a3:=isAgg3,
 z3:=sizeOf3,
 v3:=zeroValue3,
 t4:=underlying4,
 a4:=isAgg4,
 z4:=sizeOf4,
 v4:=zeroValue4,
 t22:=underlying49,
 a22:=isAgg49,
 z22:=sizeOf49,
 v22:=zeroValue49,
 i3:=by kernel_rfl }
theorem lG{b:Nat}{t:TypeId}:∀(vs:Lv)(o:Nat){w:Wv}{cs:Lv},Box w b t cs->o+vs.length<=cs.length->Box (w.setCells b o vs) b t (splice cs o vs)
 | [],o,w,cs,h,_=>by simpa[World.setCells,splice]using h
 |v::r,o,w,cs,h,hl=>by
  rw[List.length_cons]at hl;have h1:=lG r (o+1) (h.set o v) (by rw[List.length_set];omega);have e:splice (cs.set o v) (o+1) r=splice cs o (v::r):=by
   unfold splice;rw[List.length_cons,List.take_set,List.drop_set];rw[if_pos (by omega)];have e1:(cs.take (o+1)).set o v=cs.take o++[v]:=by
    rw[List.take_succ_eq_append_getElem (by omega),List.set_append_right _ _ (by rw[List.length_take];omega),List.length_take,Nat.min_eq_left (by omega),Nat.sub_self];rfl
   rw[e1,List.append_assoc,show o+1+r.length=o+(r.length+1) by omega];rfl
  rw[e]at h1;exact h1
theorem mY{b:Nat}:∀(vs:Lv)(o:Nat){a w:Wv},a.grownBy w (Z b)->a.grownBy (w.setCells b o vs) (Z b)
 | [],_,_,_,h=>h
 |_::r,o,_,_,h=>mY r (o+1) (bF h (dU _ ⟨b,o,N⟩ _))
theorem yE{L D:Lv}{i n:Nat}{x:Value}(hD:D.length=n)(hL:L.take n=D)(hl:n+1<=L.length)(hi:i<=n):(splice (splice L (i+1) (D.drop i)) i [x]).take (n+1)=D.take i++x::D.drop i/\(splice (splice L (i+1) (D.drop i)) i [x]).length=L.length:=by
 have h1:i+1+(D.drop i).length=n+1:=by rw[List.length_drop];omega
 have l1:(splice L (i+1) (D.drop i)).length=L.length:=length_splice _ _ _ (by omega);refine⟨?_,by rw[length_splice _ _ _ (by rw[l1];simp;omega),l1]⟩;have ei:L.take i=D.take i:=by rw[<-hL,List.take_take,Nat.min_eq_left hi]
 have e1:(splice L (i+1) (D.drop i)).take i=D.take i:=by
  unfold splice;rw[List.take_append_of_le_length (by rw[List.length_take];omega),List.take_take,Nat.min_eq_left (by omega),ei]
 have e2:(splice L (i+1) (D.drop i)).drop (i+1)=D.drop i++L.drop (n+1):=by
  unfold splice;rw[List.drop_append_of_le_length (by rw[List.length_take];omega),List.drop_of_length_le (by rw[List.length_take];omega),List.nil_append,h1]
 unfold splice at *;rw[List.length_singleton,e1,e2,List.take_append,List.length_take];have hmi:min i D.length=i:=by omega
 rw[hmi,List.take_of_length_le (by rw[List.length_take];omega)];congr 1;rw[List.singleton_append,show n+1-i=(n-i)+1 by omega,List.take_succ_cons,List.take_append_of_le_length (by rw[List.length_drop];omega),List.take_of_length_le (by rw[List.length_drop];omega)]
theorem Box.newA(w:Wv)(t:TypeId)(Z:Array Value):Box (w.alloc (.cells Z t)) w.heap.size t Z.toList:=by
 show(w.heap.push _)[w.heap.size]?=_
 simp
theorem sM{b:Nat}:∀(vs:Lv)(o:Nat){a w:Wv}{r:Option Nat},a.grownBy w r->a.heap.size<=b->a.grownBy (w.setCells b o vs) r
 | [],_,_,_,_,h,_=>h
 |_::r,o,_,_,_,h,hb=>sM r (o+1) (fJ h ⟨b,o,N⟩ hb _) hb
theorem NY{L D:Lv}{i n:Nat}{x:Value}(hD:D.length=n)(hL:L.take i=D.take i)(hl:n+1<=L.length)(hi:i<=n):(splice (splice L i [x]) (i+1) (D.drop i)).take (n+1)=D.take i++x::D.drop i/\(splice (splice L i [x]) (i+1) (D.drop i)).length=L.length:=by
 have h1:i+1+(D.drop i).length=n+1:=by rw[List.length_drop];omega
 have l1:(splice L i [x]).length=L.length:=length_splice _ _ _ (by simp;omega);refine⟨?_,by rw[length_splice _ _ _ (by omega),l1]⟩;have e1:(splice L i [x]).take (i+1)=D.take i++[x]:=by
  unfold splice;rw[hL,List.singleton_append,List.take_append,List.length_take,show min i D.length=i by omega,List.take_of_length_le (by rw[List.length_take];omega),show i+1-i=1 by omega];rfl
 unfold splice at *;rw[e1,<-List.append_assoc,List.take_append_of_le_length (by simp;omega),List.take_of_length_le (by simp;omega)];simp
theorem nJ{w:Wv}{base g n c:Nat}{L:Lv}{D:Li}(h:Box w g 3 L)(hb:base<=g)(hc:L.length=c)(hn:n<=c)(hm:c<=maxLen)(ht:L.take n=D.map (Value.int .i64))(hD:D.length=n):w.ownsRow base 3 1 (H (Z ⟨g,0,N⟩) n c) n (D.map (Value.int .i64)):=
 ⟨by simp[hD],.inr ⟨g,c,L.toArray,rfl,hb,h,hn,hm,by simp[hc],by simpa using ht⟩⟩
def jD(d:Li)(i:Nat)(x:Int):Li:=d.take i++x::d.drop i
theorem pF{d:Li}{i:Nat}{x:Int}(h:i<=d.length):(jD d i x).length=d.length+1:=by unfold jD;simp;omega
theorem pG(d:Li)(i:Nat)(x:Int):(jD d i x).map (Value.int .i64)=(d.map (Value.int .i64)).take i++I J x::(d.map (Value.int .i64)).drop i:=by unfold jD;simp
def mO(d:Li)(i:Nat)(x:Int)(base:Nat)(A:Oa)(w:Wv)(e:Ending)(w':Wv):Prop:=∃B k,e=.returned (H B (d.length+1) k)/\w'.ownsRow base 3 1 (H B (d.length+1) k) (d.length+1) ((jD d i x).map (Value.int .i64))/\w.grownBy w' (blk A)/\(blk B=blk A\/B=Z ⟨w.heap.size,0,N⟩)
theorem yD(A:Oa)(n c base i:Nat)(d:Li)(x:Int)(vb vc:Nat)(w:Wv)(h:w.ownsRow base 3 1 (H A n c) n (d.map (Value.int .i64)))(hbase:base<=w.heap.size)(hn:d.length=n)(hi:i<=n)(hv:Box w vb 3 [I J x])(hvb:∀g,blk A=some g->vb≠g)(hb:n<=1048576):
  Calls prog 48 #[H A n c,I J i,H (some ⟨vb,0,N⟩) 1 vc] w (mO d i x base A w):=by
 subst hn;have hvs:∀j v,[Value.int .i64 x][j]?=some v->w.cell? ⟨vb,0+j,N⟩=some v:=fun j v hj=>by rw[Nat.zero_add];exact hv.cell hj
 have h1v:∀v∈[Value.int .i64 x],v.oneCell'=true:=by intro v hv;simp at hv;subst hv;rfl
 obtain⟨_,_,hv0,hnc⟩:=gE h;injection hv0 with _ _ hv0;subst hv0;have hln:(d.map (Value.int .i64)).length=d.length:=by simp
 have hcm:c<=maxLen:=by
  rcases h.2 with⟨hv,_⟩|⟨g,cap,cur,hv,_,_,_,h5,_⟩
  ·injection hv with _ _ hv;omega
  injection hv with _ _ hv;omega
 by_cases hroom:d.length+1<=c
 ·rcases h.2 with⟨hv,_⟩|⟨g,cap,cur,hv,h1,h2,h3,h4,h5,h6⟩
  ·injection hv with _ _ hv;omega
  injection hv with hA _ hc;subst hA;subst hc;simp only[Nat.mul_one]at h5 h6;have hX:Box w g 3 cur.toList:=h2;have hcl:cur.toList.length=c:=by simpa using h5
  have hsz:∀j,j<c->(w.cell? ⟨g,0+j,N⟩).isSome=true:=fun j hj=>by rw[Nat.zero_add,hX.cell (List.getElem?_eq_getElem (by omega))];rfl
  have hne:vb≠g:=hvb g rfl;by_cases hin:i<d.length
  ·refine(Any2.slices_Insert_int_shift pL g 0 d.length c i vb 0 1 vc (d.map (Value.int .i64)) [I J x] w hin (by omega) hroom (by unfold maxLen at hcm;omega) hne hln rfl (fun j v hj=>?_) (fun j hj=>hsz j (by omega)) (fun j _=>hX.free _) hvs (aR _) h1v 3 3 1 c (by unfold Box at hv;simp[World.shape?,hv]) (by unfold Box at hX;simp[World.shape?,hX,h5]) (by omega) (hv.free _) (hv.free _)).mono ?_
   ·rw[<-h6]at hj
    rw[Nat.zero_add];exact hX.cell (by rw[List.getElem?_take]at hj;split at hj;exact hj;cases hj)
   rintro e w' ⟨rfl,rfl⟩;obtain⟨s1,s2⟩:=yE (x:=I J x) hln h6 (by omega) hi;have hX1:Box w.drew g 3 cur.toList:=hX;have hX2:=lG ((d.map (Value.int .i64)).drop i) (0+(i+1)) hX1 (by simp;omega);have hX3:=lG [I J x] (0+i) hX2 (by rw[length_splice _ _ _ (by simp;omega)];simp;omega);rw[show 0+(i+1)=i+1 by omega,show 0+i=i by omega]at hX3;rw[show 0+(i+1)=i+1 by omega,show 0+i=i by omega];refine⟨_,_,rfl,nJ hX3 h1 (by rw[s2,hcl]) hroom hcm (by rw[s1,pG]) (pF hi),mY _ _ (mY _ _ (c_ (aO w _))),.inl rfl⟩
  obtain rfl:i=d.length:=by omega
  refine(Any2.slices_Insert_int_end_room pL g 0 d.length c vb 0 1 vc [I J x] w (by omega) hroom (by unfold maxLen at hcm;omega) rfl (fun j hj=>?_) (fun j _=>hX.free _) hvs h1v).mono ?_
  ·have:=hsz (d.length+j) (by omega)
   rw[Nat.zero_add]at this|-;exact this
  rintro e w' ⟨rfl,rfl⟩;have hX3:=lG [I J x] (0+d.length) hX (by simp;omega);rw[Nat.zero_add]at hX3|-;obtain⟨s1,s2⟩:=yE (i:=d.length) (x:=I J x) hln h6 (by omega) (Nat.le_refl _);have e0:splice cur.toList (d.length+1) ((d.map (Value.int .i64)).drop d.length)=cur.toList:=by
   rw[List.drop_of_length_le (by simp)];unfold splice;simp
  rw[e0]at s1 s2;refine⟨_,_,rfl,nJ hX3 h1 (by rw[s2,hcl]) hroom hcm (by rw[s1,pG]) (pF (Nat.le_refl _)),mY _ _ (aO w _),.inl rfl⟩
 have hG1:=grownCap_ge w (d.length+1) c 3;have hG2:=grownCap_le_maxLen w (d.length+1) c 3 (by unfold maxLen;omega)
 have hcs:∀a,A=some a->∀j v,(d.map (Value.int .i64))[j]?=some v->w.cell? (a.add j)=some v:=fun a ha j v hj=>h.cells (g:=a.block) (by rw[ha];rfl) j v hj |> fun q=>by
  rcases h.2 with⟨hv,_⟩|⟨g,cap,cur,hv,_⟩
  ·injection hv with hA;rw[hA]at ha;cases ha
  injection hv with hA;rw[hA]at ha;injection ha with ha;subst ha;exact q
 by_cases hin:i<d.length
 ·rcases h.2 with⟨_,h0⟩|⟨g,cap,cur,hvv,h1,h2,h3,h4,h5,h6⟩
  ·omega
  injection hvv with hA _ hc;subst hA;refine(Any2.slices_Insert_int_grow pL g 0 d.length c i vb 0 1 vc (d.map (Value.int .i64)) [I J x] w hin (by omega) hnc (by omega) (by omega) hln rfl (fun j v hj=>?_) hvs (aR _) h1v).mono ?_
  ·have:=hcs _ rfl j v hj
   rw[Addr.add_lit]at this;exact this
  rintro e w' ⟨rfl,rfl⟩;change mO d i x base (some ⟨g,0,N⟩) w (.returned (H (some ⟨w.heap.size,0,N⟩) (d.length+1) (grownCap w (d.length+1) c 3))) (((w.alloc (.cells (((d.map (Value.int .i64)).take i).toArray++Builtin.zeroCells (Value.int .i64 0).cells (d.length+1-i)++Builtin.zeroCells (Value.int .i64 0).cells (grownCap w (d.length+1) c 3-(d.length+1))) 3)).drew.setCells w.heap.size i [I J x]).drew.setCells w.heap.size (i+1) ((d.map (Value.int .i64)).drop i));generalize grownCap w (d.length+1) c 3=G at *;have hX0:=Box.newA w 3 (((d.map (Value.int .i64)).take i).toArray++Builtin.zeroCells (Value.int .i64 0).cells (d.length+1-i)++Builtin.zeroCells (Value.int .i64 0).cells (G-(d.length+1)));have hl0:(((d.map (Value.int .i64)).take i).toArray++Builtin.zeroCells (Value.int .i64 0).cells (d.length+1-i)++Builtin.zeroCells (Value.int .i64 0).cells (G-(d.length+1))).toList.length=G:=by
   have e1:=size_zeroCells (Value.int .i64 0).cells (d.length+1-i);have e2:=size_zeroCells (Value.int .i64 0).cells (G-(d.length+1));have e3:(Value.int .i64 0).cells.size=1:=rfl;rw[e3]at e1 e2;rw[Array.length_toList,Array.size_append,Array.size_append,e1,e2];simp;omega
  have ht0:(((d.map (Value.int .i64)).take i).toArray++Builtin.zeroCells (Value.int .i64 0).cells (d.length+1-i)++Builtin.zeroCells (Value.int .i64 0).cells (G-(d.length+1))).toList.take i=(d.map (Value.int .i64)).take i:=by
   rw[Array.toList_append,Array.toList_append,List.append_assoc,List.take_append_of_le_length (by simp;omega),List.take_of_length_le (by simp;omega)]
  generalize (((d.map (Value.int .i64)).take i).toArray++Builtin.zeroCells (Value.int .i64 0).cells (d.length+1-i)++Builtin.zeroCells (Value.int .i64 0).cells (G-(d.length+1)))=Z at *;have hX1:Box (w.alloc (.cells Z 3)).drew w.heap.size 3 Z.toList:=hX0;have hX2:=lG [I J x] i hX1 (by rw[hl0];simp;omega);have hX3:Box ((w.alloc (.cells Z 3)).drew.setCells w.heap.size i [I J x]).drew w.heap.size 3 _:=hX2;have hX4:=lG ((d.map (Value.int .i64)).drop i) (i+1) hX3 (by rw[length_splice _ _ _ (by rw[hl0];simp;omega),hl0];simp;omega);obtain⟨s1,s2⟩:=NY (x:=I J x) (L:=Z.toList) hln ht0 (by rw[hl0];exact hG1) hi;refine⟨_,_,rfl,nJ hX4 hbase (by rw[s2,hl0]) hG1 hG2 (by rw[s1,pG]) (pF hi),?_,.inr rfl⟩;exact sM _ _ (c_ (sM _ _ (c_ (eX (aO w _) _)) (Nat.le_refl _))) (Nat.le_refl _)
 obtain rfl:i=d.length:=by omega
 refine(Any2.slices_Insert_int_end_grow pL A d.length c vb 0 1 vc (d.map (Value.int .i64)) [I J x] w (by omega) hnc (by omega) (by omega) hln rfl (fun hA=>?_) hcs hvs h1v).mono ?_
 ·rcases h.2 with⟨_,h0⟩|⟨g,cap,cur,hvv,_⟩
  ·exact h0
  injection hvv with hA';rw[hA]at hA';cases hA'
 rintro e w' ⟨rfl,rfl⟩;change mO d d.length x base A w (.returned (H (some ⟨w.heap.size,0,N⟩) (d.length+1) (grownCap w (d.length+1) c 3))) (w.drew.alloc (.cells (((d.map (Value.int .i64))++[Value.int .i64 x]).toArray++Builtin.zeroCells (Value.int .i64 0).cells (grownCap w (d.length+1) c 3-(d.length+1))) 3));generalize grownCap w (d.length+1) c 3=G at *;have hX0:Box _ w.heap.size 3 _:=Box.newA w.drew 3 (((d.map (Value.int .i64))++[Value.int .i64 x]).toArray++Builtin.zeroCells (Value.int .i64 0).cells (G-(d.length+1)));refine⟨_,_,rfl,nJ hX0 hbase ?_ hG1 hG2 ?_ (pF (Nat.le_refl _)),eX (c_ (aO w _)) _,.inr rfl⟩
 ·have e2:=size_zeroCells (Value.int .i64 0).cells (G-(d.length+1))
  have e3:(Value.int .i64 0).cells.size=1:=rfl;rw[e3]at e2;rw[Array.length_toList,Array.size_append,e2];simp;omega
 rw[pG,Array.toList_append,List.take_append_of_le_length (by simp),List.take_of_length_le (by simp),List.take_of_length_le (by simp),List.drop_of_length_le (by simp)]
def lM(d:Li)(i:Nat):Li:=d.take i++d.drop (i+1)
theorem LE(A:Oa)(n c base i:Nat)(d:Li)(w:Wv)(h:w.ownsRow base 3 1 (H A n c) n (d.map (Value.int .i64)))(hn:d.length=n)(hi:i<n):
  Calls prog 43 #[H A n c,I J i,I J (i+1:Nat)] w (fun e w'=>e=.returned (H A (n-1) c)/\w'.ownsRow base 3 1 (H A (n-1) c) (n-1) ((lM d i).map (Value.int .i64))/\w.grownBy w' (blk A)):=by
 subst hn;rcases h.2 with⟨_,h0⟩|⟨g,cap,cur,hvv,h1,h2,h3,h4,h5,h6⟩
 ·omega
 injection hvv with hA _ hc;subst hA;subst hc;simp only[Nat.mul_one]at h5 h6;have hX:Box w g 3 cur.toList:=h2;have hcl:cur.toList.length=c:=by simpa using h5
 have hc:∀j,j<d.length->w.cell? ⟨g,0+j,N⟩=Z (I J (d.getD j 0)):=fun j hj=>by
  rw[Nat.zero_add];refine hX.cell ?_;have e:cur.toList[j]?=(cur.toList.take d.length)[j]?:=by rw[List.getElem?_take,if_pos hj]
  rw[e,h6];simp[List.getD,hj]
 refine(Any.slices_Delete_int_cells QM g 0 d.length c i (i+1) d w (Nat.le_refl _) h3 (by unfold maxLen at h4;omega) (by omega) (by omega) hc (fun j _=>hX.free _)).mono ?_;rintro e w' ⟨he,q,rfl⟩;rw[List.take_length]at *;have hX1:Box (w.drewN q) g 3 cur.toList:=hX;have hX2:=lG ((d.take i++d.drop (i+1)++List.replicate (i+1-i) 0).map (Value.int .i64)) 0 hX1 (by simp;omega);have hdl:(lM d i).length=d.length-1:=by unfold lM;simp;omega
 refine⟨by rw[he,show d.length-(i+1-i)=d.length-1 by omega],nJ hX2 h1 ?_ (by omega) h4 ?_ hdl,mY _ _ (xT (aO w _) q)⟩
 ·rw[length_splice _ _ _ (by simp;omega),hcl]
 unfold splice;rw[List.take_zero,List.nil_append,List.map_append,show d.take i++d.drop (i+1)=lM d i from rfl,List.append_assoc,List.take_append_of_le_length (by rw[List.length_map,hdl];exact Nat.le_refl _),List.take_of_length_le (by rw[List.length_map,hdl];exact Nat.le_refl _)]
end
end Go.Proofs.YtpfbnikbebccjaaGreatDoor
